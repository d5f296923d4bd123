/- The evaluator's statements, walked: each kind. -/
import Derived.Test.YtjlnpppjkdcpkaaEREvO
namespace Go.Proofs.Ytjlnpppjkdcpkaa.My
open Go.RowKit Go.Proofs.Ytjlnpppjkdcpkaa.NumA
set_option linter.unusedVariables false
set_option linter.unusedSimpArgs false
set_option maxRecDepth 100000 in
set_option maxHeartbeats 8000000 in
theorem estmt_calls (W : World) (p base : Nat) (B : Int) (hbase : W.heap.size ≤ base) (hB1 : B ≤ 1000000) (F : Nat) : StmtE W p base B F := by
 induction F with
 | zero => intro s A0 c0 A1 c1 A2 c2 d hrd hrd1 hrd2 hc0 hc1 hc2 hs hnl hr S w hsz htB hF; exfalso; omega
 | succ F ih =>
  intro s A0 c0 A1 c1 A2 c2 d hrd hrd1 hrd2 hc0 hc1 hc2 hs hnl hr S w hsz htB hF hB hE; have hne := s.nodes_eq; have hr' := hr; rw [s.rightB_eq nameB d] at hr'; simp only [Bool.and_eq_true, headB, decide_eq_true_eq] at hr'
  obtain ⟨⟨⟨⟨⟨⟨⟨⟨hkk, hlen⟩, _⟩, _⟩, _⟩, _⟩, hra⟩, hrb⟩, hre⟩ := hr'; have hl2 : s.args.length ≤ 2 := by unfold wantA at hlen; split at hlen <;> (try split at hlen) <;> omega
  have HBW := Lib.hid hB; have HSZ := Lib.hid hsz; have HSN := Lib.hid hs; have HFF := Lib.hid hF; have hb0 : Below w.heap.size w (w.alloc (.cells #[.int .i64 s.kind, .string s.name, .int .i64 s.cell, .slice A0 s.args.length c0, .slice A1 s.body.length c1, .slice A2 s.els.length c2] 36)) := (Below.refl _ _).al
  have hx := blk_new w (.cells #[.int .i64 s.kind, .string s.name, .int .i64 s.cell, .slice A0 s.args.length c0, .slice A1 s.body.length c1, .slice A2 s.els.length c2] 36); have hf0 : Fx W w (w.alloc (.cells #[.int .i64 s.kind, .string s.name, .int .i64 s.cell, .slice A0 s.args.length c0, .slice A1 s.body.length c1, .slice A2 s.els.length c2] 36)) := (Fx.refl _ _).belowR hB.size hb0
  have he0 := hE.below hb0; obtain ⟨w0, hw0⟩ : ∃ w0, w.alloc (.cells #[.int .i64 s.kind, .string s.name, .int .i64 s.cell, .slice A0 s.args.length c0, .slice A1 s.body.length c1, .slice A2 s.els.length c2] 36) = w0 := ⟨_, rfl⟩
  rw [hw0] at hx hf0 he0; have HX := Lib.hid hx; have HF0 := Lib.hid hf0; have HE0 := Lib.hid he0; have HW := Lib.hid hw0; have HB0 := Lib.hid (hB.trans hf0.below); by_cases hK : s.kind = 7
  ·have HL := Lib.hid (eloop_of W p base B hbase hB1 F ih s A0 c0 A1 c1 A2 c2 d hrd hrd1 hnl hK hr S w0 hsz htB (by omega) HB0.out HE0.out)
   have t7 : (s.kind == 7) = true := by simp [hK]
   have HK := Lib.hid hK; clear hx hf0 he0 hw0 hrd hrd1 hrd2 hra hrb hre hr hne hkk hlen hK hE hB hsz hs hF; go_enter Try.func77, Try.ntmps77
   go_wp2_with (have tk := HW; clear tk; rw [HW.out]; clear HW; have f0 := blk_cell HX.out 0; have f1 := blk_cell HX.out 1; have f2 := blk_cell HX.out 2; have f3 := blk_cell HX.out 3; have f4 := blk_cell HX.out 4; have f5 := blk_cell HX.out 5)
   refine HL.out.mono ?_; rintro y w2 ⟨S2, o2, hd2, he2, hf2, rfl⟩; have HD2 := Lib.hid hd2; have HE2 := Lib.hid he2; have HF2 := Lib.hid (HF0.out.trans hf2); clear hd2 he2 hf2 f0 f1 f2 f3 f4 f5
   cases o2 with
   | none =>
    simp only [leftE]
    go_wp2; first | go_end0 | refine bodyPost_ret (results_none rfl _ _ _) rfl ?_
    exact ⟨S2, none, .loops HK.out HD2.out, HE2.out, HF2.out, rfl⟩
   | some x => exact ⟨rfl, S2, some x, .loops HK.out HD2.out, HE2.out, HF2.out, rfl⟩
  have t7 : (s.kind == 7) = false := by simp [hK]
  have HK7 := Lib.hid hK; obtain ⟨N, V, M, O, I, hEv⟩ := he0; have HEv := Lib.hid hEv; by_cases ht : S.ticks = B
  ·have HTT := Lib.hid ht
   clear hx hf0 hw0 hrd hrd1 hrd2 hra hrb hre hr hne hkk hlen hK hE hB hsz hs hF hEv ht; go_enter Try.func77, Try.ntmps77
   go_wp2_with (have tk := HW; clear tk; rw [HW.out]; clear HW; have f0 := blk_cell HX.out 0)
   refine (spent_calls _ p base B S N V M O I HEv.out HTT.out).mono ?_; rintro y w1 ⟨rfl, hk1, he1⟩; exact ⟨rfl, S, some (0, 0), .spent HK7.out HTT.out, ⟨_, _, _, _, _, he1⟩, HF0.out.keep hk1 HB0.out.size (fun q h => by subst h; exact Nat.le_trans hbase HEv.out.hb) (fun q cs h hq => HEv.out.noBox q cs h hq), rfl⟩
  have HTN := Lib.hid ht; have HN := Lib.hid (show (S.names.length : Int) ≤ 1000003 ∧ S.ticks ≤ 1000000 by have := hsz.n; omega)
  have HA := Lib.hid (fun j (hj : j < s.args.length) (w1 : World) (hB1 : Below W.heap.size W w1) => Expr.at hrd hB1 hj)
  have HRA := Lib.hid (fun j (hj : j < s.args.length) => Expr.rightsB_all hra _ (List.getElem_mem hj))
  have HBb := Lib.hid (fun (h6 : s.kind = 6) S1 w1 h1 h2 h3 h4 h5 => eblock_of W p base B hbase hB1 F ih s.body A1 c1 (d + 1) hrd1 (by omega) (by rw [if_pos (.inl h6), Bool.and_eq_true] at hrb; exact hrb.2) S1 w1 h1 h2 h3 h4 h5)
  have HBe := Lib.hid (fun S1 w1 h1 h2 h3 h4 h5 => eblock_of W p base B hbase hB1 F ih s.els A2 c2 (d + 1) hrd2 (by omega) (by
   by_cases hz : s.els.length = 0
   ·rw [List.eq_nil_of_length_eq_zero hz]; rfl
   ·rw [if_neg hz, Bool.and_eq_true] at hre; exact hre.2) S1 w1 h1 h2 h3 h4 h5)
  have HKK := Lib.hid hkk; clear hx hf0 hw0 hrd hrd1 hrd2 hra hrb hre hr hne hkk hlen hK hE hB hsz hs hF hEv ht ih; go_enter Try.func77, Try.ntmps77
  go_wp2_with (have tk := HW; clear tk; rw [HW.out]; clear HW; have f0 := blk_cell HX.out 0)
  refine (tick_calls _ p base B S N V M O I HEv.out HSZ.out.t HN.out.2 HTN.out).mono ?_; rintro y w1 ⟨rfl, hk1, he1⟩; have HF1 := Lib.hid (HF0.out.keep hk1 HB0.out.size (fun q h => by subst h; exact Nat.le_trans hbase HEv.out.hb) (fun q cs h hq => HEv.out.noBox q cs h hq))
  have HX1 := Lib.hid (hk1.blk HX.out (fun e => HEv.out.noBox _ (_, 0) e HX.out))
  have HB1 := Lib.hid (HBW.out.trans HF1.out.below); have hsz1 := HSZ.out.tick; have htb1 : S.tick.ticks ≤ B ∧ B - S.tick.ticks < F := by have := HTN.out; have := HFF.out; simp only [Ev.tick]; omega
  have HDo0 := Lib.hid (fun vs (hv : exprsV S.tick s.args = .ok vs) (h6 : s.kind ≠ 6) => Does.does (B := B) HK7.out h6 HTN.out hv)
  have HDl := Lib.hid (fun h v (hv : exprsV S.tick s.args = .left h v) => Does.fell (B := B) HK7.out HTN.out hv)
  have HDt := Lib.hid (fun vs S' o (h6 : s.kind = 6) (hv : exprsV S.tick s.args = .ok vs) h1 h2 => Does.thn (B := B) (S := S) (S' := S') (o := o) h6 HTN.out hv h1 h2)
  have HDe := Lib.hid (fun vs S' o (h6 : s.kind = 6) (hv : exprsV S.tick s.args = .ok vs) h1 h2 => Does.els (B := B) (S := S) (S' := S') (o := o) h6 HTN.out hv h1 h2)
  have hnn : (S.tick.names.length : Int) ≤ 1000003 := HN.out.1
  obtain ⟨S1, hS1⟩ : ∃ S1, S.tick = S1 := ⟨_, rfl⟩
  rw [hS1] at he1 hsz1 htb1 hnn; simp only [hS1] at HDo0 HDl HDt HDe
  have HSZ1 := Lib.hid hsz1; have HTB1 := Lib.hid htb1; have HNN := Lib.hid hnn; have HE1 := Lib.hid he1; clear hk1 he1 hsz1 htb1 hnn hS1 f0 HEv HE0 HX HF0 HB0 HTN HSZ HFF HN; have f3 := fun o => (Below.al (Below.refl w1.heap.size w1) (o := o)).cellOf (show w1.cell? ⟨w.heap.size, 3, none⟩ = some (.slice A0 s.args.length c0) from blk_cell HX1.out 3)
  go_wp2; obtain ⟨b4, hb4⟩ : ∃ b4, w1.heap.size = b4 := ⟨_, rfl⟩
  have hb2 : Below w1.heap.size w1 (w1.alloc (.cells #[.int .i64 0, .int .i64 0] 148)) := (Below.refl _ _).al
  have hx4 := blk_new w1 (.cells #[.int .i64 0, .int .i64 0] 148); rw [hb4] at hx4 ⊢; obtain ⟨w2, hw2⟩ : ∃ w2, w1.alloc (.cells #[.int .i64 0, .int .i64 0] 148) = w2 := ⟨_, rfl⟩
  rw [hw2] at hb2 hx4 ⊢; have HE2 := Lib.hid (HE1.out.below hb2); have HF2 := Lib.hid (HF1.out.belowR HB1.out.size hb2); have HX2 := Lib.hid (below_blk hb2 HX1.out (blk_lt HX1.out)); have HA2 := Lib.hid hx4; have HB4 := Lib.hid (show W.heap.size ≤ b4 by have := HB1.out.size; omega)
  have HQX := Lib.hid (show w.heap.size ≠ b4 by have := blk_lt HX1.out; omega)
  clear hb2 hx4 hb4 hw2 f3 HE1 HF1 HX1 HB1; go_loopw [20] (fun at_ wr => ∃ (k : Nat) (vs : List Int), at_ = .int .i64 (k : Int) ∧ k ≤ s.args.length ∧ Hid (exprsV S1 (s.args.take k) = .ok vs) ∧ Hid (vs.length = k) ∧ Hid (EvAt wr p base B S1 N V M O I) ∧ Hid (Fx W w wr) ∧ Hid (wr.heap[b4]? = some (.cells #[.int .i64 (vs.getD 0 0), .int .i64 (vs.getD 1 0)] 148 (0, 0))) ∧ Hid (wr.heap[w.heap.size]? = some (.cells #[.int .i64 s.kind, .string s.name, .int .i64 s.cell, .slice A0 s.args.length c0, .slice A1 s.body.length c1, .slice A2 s.els.length c2] 36 (0, 0)))) (fun a _ => s.args.length - (intOf a).toNat)
  case atStart => exact ⟨0, [], rfl, Nat.zero_le _, Lib.hid rfl, Lib.hid rfl, HE2, HF2, HA2, HX2⟩
  case round =>
   clear HE2 HF2 HA2 HX2; obtain ⟨k, vs, rfl, hk, HVk, HLk, HEv, HFr, HAx, HXr⟩ := hrel; have HBr := Lib.hid (HBW.out.trans HFr.out.below); by_cases hlt : k < s.args.length
   ·have hlt' : ((k : Int) < (s.args.length : Int)) := by omega
    have hk2 : k < 2 := by omega
    have hk0 : (0 : Int) ≤ (k : Int) := by omega
    have hk2' : (k : Int) < 2 := by omega
    obtain ⟨bb, oo, A', c', rfl, _, g0, g1, g2, g3, g4, hc', hs', hrd'⟩ := HA.out k hlt wr HBr.out; have hb1 : Below wr.heap.size wr (wr.alloc (.cells #[.int .i64 s.args[k].kind, .int .i64 s.args[k].num, .string s.args[k].name, .int .i64 s.args[k].op, .slice A' s.args[k].args.length c'] 66)) := (Below.refl _ _).al
    have HI := Lib.hid (eexpr_calls W p base B S1 N V M O I (by have := HNN.out; omega) _ s.args[k] A' c' 1 (Nat.le_refl _) hrd' hc' hs' (HRA.out k hlt) _ (HBr.out.trans (hb1.mono HBr.out.size)) (HEv.out.below hb1))
    have HEa := Lib.hid (HEv.out.below hb1); have HFa := Lib.hid (HFr.out.belowR HBr.out.size hb1); have HAa := Lib.hid (below_blk hb1 HAx.out (blk_lt HAx.out)); have HXa := Lib.hid (below_blk hb1 HXr.out (blk_lt HXr.out)); clear hb1 hc' hs' hrd'; go_wp2_with fail; refine HI.out.mono ?_; rintro y w3 ⟨rfl, hb3⟩; have HBa := Lib.hid (HBW.out.trans HFa.out.below); have HE3 := Lib.hid (HEa.out.below hb3); have HF3 := Lib.hid (HFa.out.belowR HBa.out.size hb3); have HA3 := Lib.hid (below_blk hb3 HAa.out (blk_lt HAa.out)); have HX3 := Lib.hid (below_blk hb3 HXa.out (blk_lt HXa.out)); have HB3 := Lib.hid (HBa.out.trans (hb3.mono HBa.out.size))
    clear hb3 g0 g1 g2 g3 g4; have HSN2 := Lib.hid (show exprsV S1 (s.args.take (k + 1)) = (match exprV S1 s.args[k] with
      | .left h v => .left h v
      | .ok v => .ok (vs ++ [v])) by rw [← List.take_append_getElem hlt, exprsV_snoc, HVk.out]; rfl)
    cases hv : exprV S1 s.args[k] with
    | left h v =>
     have h9 := HSN2.out; rw [hv] at h9; have h8 := exprsV_left (m := s.args.drop (k + 1)) h9; rw [List.take_append_drop] at h8; exact ⟨rfl, S1, some (h, v), HDl.out _ _ h8, ⟨_, _, _, _, _, HE3.out⟩, HF3.out, rfl⟩
    | ok u =>
     have HV3 := Lib.hid (show exprsV S1 (s.args.take (k + 1)) = .ok (vs ++ [u]) by rw [HSN2.out, hv])
     clear hv; simp only [gotE]
     have hx3 : ∃ x, w3.cell? ⟨b4, k, none⟩ = some (.int .i64 x) := by
      rw [blk_cell HA3.out]; have : k = 0 ∨ k = 1 := by omega
      rcases this with rfl | rfl
      ·exact ⟨_, rfl⟩
      ·exact ⟨_, rfl⟩
     obtain ⟨x, hx3⟩ := hx3; have ff := blk_free HA3.out; go_wp2; have hk4 : Keep (fun q => q = b4) w3 (w3.setCell ⟨b4, k, none⟩ (.int .i64 u)) := Keep.set (O := fun q => q = b4) (Keep.refl _ w3) (p := ⟨b4, k, none⟩) (.inl rfl) _
     go_roundw
     case rel => exact ⟨k + 1, vs ++ [u], by go_num, by omega, HV3, Lib.hid (by simp [HLk.out]), Lib.hid (HE3.out.apart HA3.out hk4), Lib.hid (HF3.out.keep hk4 HB3.out.size (fun q h => by subst h; exact HB4.out) (fun q cs e hq => by subst e; rw [HA3.out] at hq; injection hq with hq; injection hq with _ hq; exact absurd hq ((by decide : ∀ i : Fin 3, 148 ≠ bt i) cs.2))), Lib.hid (by rw [← vset vs k u HLk.out hk2]; exact blk_set HA3.out k _), Lib.hid (hk4.blk HX3.out HQX.out)⟩
     case measure => simp [intOf]; omega
   ·have hk' : k = s.args.length := by omega
    subst hk'; have hvv := HVk.out; rw [List.take_length] at hvv; have HVV := Lib.hid hvv; have HDD := Lib.hid (fun h6 => HDo0.out vs hvv h6)
    clear hvv HVk HLk hlt; obtain ⟨a, ha⟩ : ∃ a, vs.getD 0 0 = a := ⟨_, rfl⟩
    obtain ⟨b, hb⟩ : ∃ b, vs.getD 1 0 = b := ⟨_, rfl⟩
    rw [ha, hb] at HAx; have HDD : Hid (s.kind ≠ 6 → Does B (.stmt s) S (doV S1 s a b).1 (doV S1 s a b).2) := Lib.hid (by have h := HDD.out; rw [ha, hb] at h; exact h)
    have HA0 := Lib.hid ha; clear ha hb; have f0 := blk_cell HXr.out 0; have hkk : s.kind = 1 ∨ s.kind = 2 ∨ s.kind = 3 ∨ s.kind = 4 ∨ s.kind = 5 ∨ s.kind = 6 ∨ s.kind = 8 ∨ s.kind = 9 := by have := HKK.out; have := HK7.out; omega
    rcases hkk with hK | hK | hK | hK | hK | hK | hK | hK
    ·have t1 : (s.kind == 1) = true := by simp [hK]
     have t2 : (s.kind == 2) = false := by simp [hK]
     have t3 : (s.kind == 3) = false := by simp [hK]
     have t4 : (s.kind == 4) = false := by simp [hK]
     have t5 : (s.kind == 5) = false := by simp [hK]
     have t6 : (s.kind == 6) = false := by simp [hK]
     have t7 : (s.kind == 7) = false := by simp [hK]
     have t8 : (s.kind == 8) = false := by simp [hK]
     have t9 : (s.kind == 9) = false := by simp [hK]
     have HDo := Lib.hid (show Does B (.stmt s) S { S1 with names := S1.names ++ [s.name], vals := S1.vals ++ [a] } (none) by have h := HDD.out (by omega); rwa [show doV S1 s a b = ({ S1 with names := S1.names ++ [s.name], vals := S1.vals ++ [a] }, none) by simp [doV, hK]] at h)
     obtain ⟨AN, cN, hX, _⟩ := HEv.out.names.slice; subst hX; obtain ⟨AV, cV, hX, _⟩ := HEv.out.vals.slice; subst hX; have HNB := Lib.hid (HEv.out.names.ne HEv.out.blk (by decide))
     have HVB := Lib.hid (HEv.out.vals.ne HEv.out.blk (by decide))
     have HNL := Lib.hid (show (S1.names.length : Int) ≤ 1000003 from HNN.out)
     have HVL := Lib.hid (show (S1.vals.length : Int) ≤ 1000003 by have := HEv.out.eq; have := HNN.out; omega)
     have HC := Lib.hid (fun V_ (hV : Keep (fun q => (Value.slice AN S1.names.length cN).ownBlock = some q ∨ (Value.slice AV S1.vals.length cV).ownBlock = some q) wr V_) => (show V_.cell? ⟨p, 0, none⟩ = some (.slice AN S1.names.length cN) ∧ V_.cell? ⟨p, 1, none⟩ = some (.slice AV S1.vals.length cV) ∧ V_.cell? ⟨w.heap.size, 1, none⟩ = some (.string s.name) ∧ V_.cell? ⟨b4, 0, none⟩ = some (.int .i64 a) from
      ⟨blk_cell (hV.blk HEv.out.blk (fun e => e.elim HNB.out HVB.out)) 0, blk_cell (hV.blk HEv.out.blk (fun e => e.elim HNB.out HVB.out)) 1, blk_cell (hV.blk HXr.out (fun e => e.elim (HEv.out.names.ne HXr.out (by decide)) (HEv.out.vals.ne HXr.out (by decide)))) 1, blk_cell (hV.blk HAx.out (fun e => e.elim (HEv.out.names.ne HAx.out (by decide)) (HEv.out.vals.ne HAx.out (by decide)))) 0⟩))
     have HK0 := Lib.hid (show Keep (fun q => (Value.slice AN S1.names.length cN).ownBlock = some q ∨ (Value.slice AV S1.vals.length cV).ownBlock = some q) wr wr.drew from (Keep.refl _ wr).drew)
     have HN0 := Lib.hid (HEv.out.names.drewed); have HV0 := Lib.hid (HEv.out.vals.drewed); clear hK; go_wp2_with fail; refine wp_region_till (fun V_ => Keep (fun q => (Value.slice AN S1.names.length cN).ownBlock = some q ∨ (Value.slice AV S1.vals.length cV).ownBlock = some q) wr V_) 23 (by kernel_rfl) ?_
     have hHeld := HK0.out; obtain ⟨W0, hW0⟩ : ∃ x, wr.drew = x := ⟨_, rfl⟩
     rw [hW0] at HK0 HN0 HV0 hHeld ⊢; clear hW0; refine wpTill_pure (i := 0) (oi := ⟨some 35, _, _, _, _, _⟩) (v := .pointer (some ⟨p, 0, none⟩)) rfl (by kernel_rfl) (by kernel_rfl) (by kernel_rfl) (by kernel_rfl) (by kernel_rfl) (fun _ _ _ h => h) (Or.inl ⟨by rfl, fun V_ _ => by go_simp⟩) (fun _ => hHeld) ?_
     try simp only [Act.put, List.setIfInBounds_toArray, List.set_cons_zero, List.set_cons_succ]
     refine wpTill_pure (i := 1) (oi := ⟨some 36, _, _, _, _, _⟩) (v := .pointer (some ⟨p, 0, none⟩)) rfl (by kernel_rfl) (by kernel_rfl) (by kernel_rfl) (by kernel_rfl) (by kernel_rfl) (fun _ _ _ h => h) (Or.inl ⟨by rfl, fun V_ _ => by go_simp⟩) (fun _ => hHeld) ?_
     try simp only [Act.put, List.setIfInBounds_toArray, List.set_cons_zero, List.set_cons_succ]
     refine wpTill_pure (i := 2) (oi := ⟨some 37, _, _, _, _, _⟩) (v := .pointer (some ⟨p, 0, none⟩)) rfl (by kernel_rfl) (by kernel_rfl) (by kernel_rfl) (by kernel_rfl) (by kernel_rfl) (fun _ _ _ h => h) (Or.inl ⟨by rfl, fun V_ _ => by go_simp⟩) (fun _ => hHeld) ?_
     try simp only [Act.put, List.setIfInBounds_toArray, List.set_cons_zero, List.set_cons_succ]
     refine wpTill_pure (i := 3) (oi := ⟨some 38, _, _, _, _, _⟩) (v := .pointer (some ⟨p, 0, none⟩)) rfl (by kernel_rfl) (by kernel_rfl) (by kernel_rfl) (by kernel_rfl) (by kernel_rfl) (fun _ _ _ h => h) (Or.inl ⟨by rfl, fun V_ _ => by go_simp⟩) (fun _ => hHeld) ?_
     try simp only [Act.put, List.setIfInBounds_toArray, List.set_cons_zero, List.set_cons_succ]
     refine wpTill_pure (i := 4) (oi := ⟨some 39, _, _, _, _, _⟩) (v := .pointer (some ⟨p, 0, none⟩)) rfl (by kernel_rfl) (by kernel_rfl) (by kernel_rfl) (by kernel_rfl) (by kernel_rfl) (fun _ _ _ h => h) (Or.inl ⟨by rfl, fun V_ _ => by go_simp⟩) (fun _ => hHeld) ?_
     try simp only [Act.put, List.setIfInBounds_toArray, List.set_cons_zero, List.set_cons_succ]
     refine wpTill_pure (i := 5) (oi := ⟨some 40, _, _, _, _, _⟩) (v := .pointer (some ⟨p, 0, none⟩)) rfl (by kernel_rfl) (by kernel_rfl) (by kernel_rfl) (by kernel_rfl) (by kernel_rfl) (fun _ _ _ h => h) (Or.inl ⟨by rfl, fun V_ _ => by go_simp⟩) (fun _ => hHeld) ?_
     try simp only [Act.put, List.setIfInBounds_toArray, List.set_cons_zero, List.set_cons_succ]
     refine wpTill_take (i := 6) (oi := ⟨some 41, _, _, _, _, _⟩) (v := .slice AN S1.names.length cN) [19, 10, 6] rfl (by kernel_rfl) (by kernel_rfl) (by kernel_rfl) (by kernel_rfl) (by kernel_rfl) (by kernel_rfl) (fun _ _ _ h => h) (Or.inl ⟨by rfl, fun V_ hV => by obtain ⟨q1, q2, q3, q4⟩ := HC.out V_ hV; go_simp⟩) hHeld ?_
     try simp only [Act.put, List.setIfInBounds_toArray, List.set_cons_zero, List.set_cons_succ]
     refine wpTill_pure (i := 7) (oi := ⟨some 42, _, _, _, _, _⟩) (v := .pointer (some ⟨w.heap.size, 1, none⟩)) rfl (by kernel_rfl) (by kernel_rfl) (by kernel_rfl) (by kernel_rfl) (by kernel_rfl) (fun _ _ _ h => h) (Or.inl ⟨by rfl, fun V_ _ => by go_simp⟩) (fun _ => hHeld) ?_
     try simp only [Act.put, List.setIfInBounds_toArray, List.set_cons_zero, List.set_cons_succ]
     refine wpTill_take (i := 8) (oi := ⟨some 43, _, _, _, _, _⟩) (v := .string s.name) [19, 10, 9, 8] rfl (by kernel_rfl) (by kernel_rfl) (by kernel_rfl) (by kernel_rfl) (by kernel_rfl) (by kernel_rfl) (fun _ _ _ h => h) (Or.inl ⟨by rfl, fun V_ hV => by obtain ⟨q1, q2, q3, q4⟩ := HC.out V_ hV; go_simp⟩) hHeld ?_
     try simp only [Act.put, List.setIfInBounds_toArray, List.set_cons_zero, List.set_cons_succ]
     refine wpTill_pure (i := 11) (oi := ⟨some 46, _, _, _, _, _⟩) (v := .pointer (some ⟨p, 0, none⟩)) rfl (by kernel_rfl) (by kernel_rfl) (by kernel_rfl) (by kernel_rfl) (by kernel_rfl) (fun _ _ _ h => h) (Or.inl ⟨by rfl, fun V_ _ => by go_simp⟩) (fun _ => hHeld) ?_
     try simp only [Act.put, List.setIfInBounds_toArray, List.set_cons_zero, List.set_cons_succ]
     refine wpTill_pure (i := 12) (oi := ⟨some 47, _, _, _, _, _⟩) (v := .pointer (some ⟨p, 0, none⟩)) rfl (by kernel_rfl) (by kernel_rfl) (by kernel_rfl) (by kernel_rfl) (by kernel_rfl) (fun _ _ _ h => h) (Or.inl ⟨by rfl, fun V_ _ => by go_simp⟩) (fun _ => hHeld) ?_
     try simp only [Act.put, List.setIfInBounds_toArray, List.set_cons_zero, List.set_cons_succ]
     refine wpTill_pure (i := 13) (oi := ⟨some 48, _, _, _, _, _⟩) (v := .pointer (some ⟨p, 0, none⟩)) rfl (by kernel_rfl) (by kernel_rfl) (by kernel_rfl) (by kernel_rfl) (by kernel_rfl) (fun _ _ _ h => h) (Or.inl ⟨by rfl, fun V_ _ => by go_simp⟩) (fun _ => hHeld) ?_
     try simp only [Act.put, List.setIfInBounds_toArray, List.set_cons_zero, List.set_cons_succ]
     refine wpTill_pure (i := 14) (oi := ⟨some 49, _, _, _, _, _⟩) (v := .pointer (some ⟨p, 1, none⟩)) rfl (by kernel_rfl) (by kernel_rfl) (by kernel_rfl) (by kernel_rfl) (by kernel_rfl) (fun _ _ _ h => h) (Or.inl ⟨by rfl, fun V_ _ => by go_simp⟩) (fun _ => hHeld) ?_
     try simp only [Act.put, List.setIfInBounds_toArray, List.set_cons_zero, List.set_cons_succ]
     refine wpTill_take (i := 15) (oi := ⟨some 50, _, _, _, _, _⟩) (v := .slice AV S1.vals.length cV) [19, 15] rfl (by kernel_rfl) (by kernel_rfl) (by kernel_rfl) (by kernel_rfl) (by kernel_rfl) (by kernel_rfl) (fun _ _ _ h => h) (Or.inl ⟨by rfl, fun V_ hV => by obtain ⟨q1, q2, q3, q4⟩ := HC.out V_ hV; go_simp⟩) hHeld ?_
     try simp only [Act.put, List.setIfInBounds_toArray, List.set_cons_zero, List.set_cons_succ]
     refine wpTill_pure (i := 16) (oi := ⟨some 51, _, _, _, _, _⟩) (v := .pointer (some ⟨b4, 0, none⟩)) rfl (by kernel_rfl) (by kernel_rfl) (by kernel_rfl) (by kernel_rfl) (by kernel_rfl) (fun _ _ _ h => h) (Or.inl ⟨by rfl, fun V_ _ => by go_simp⟩) (fun _ => hHeld) ?_
     try simp only [Act.put, List.setIfInBounds_toArray, List.set_cons_zero, List.set_cons_succ]
     refine wpTill_take (i := 17) (oi := ⟨some 52, _, _, _, _, _⟩) (v := .int .i64 a) [19, 18, 17] rfl (by kernel_rfl) (by kernel_rfl) (by kernel_rfl) (by kernel_rfl) (by kernel_rfl) (by kernel_rfl) (fun _ _ _ h => h) (Or.inl ⟨by rfl, fun V_ hV => by obtain ⟨q1, q2, q3, q4⟩ := HC.out V_ hV; go_simp⟩) hHeld ?_
     try simp only [Act.put, List.setIfInBounds_toArray, List.set_cons_zero, List.set_cons_succ]
     clear hHeld HC f0; refine wpTill_ready (rs := [9, 18]) (by kernel_rfl) (by simp) ?_
     refine TillAll.cons (o := ⟨some 44, _, _, _, _, _⟩) rfl (fun K hK => ?_) ?_
     ·go_simp
      refine hK.out _ _ (fun _ => HK0.out.alloc _) ?_
      clear hK K; try simp only [Act.put, List.setIfInBounds_toArray, List.set_cons_zero, List.set_cons_succ]
      have hk1 := HK0.out.alloc (.cells #[.string s.name] 9); have hn1 := HN0.out.alloc (.cells #[.string s.name] 9); have hv1 := HV0.out.alloc (.cells #[.string s.name] 9); have hl1 := Row.laid (w := W0) (g := W0.heap.size) (n := 1) (cs := #[.string s.name]) (e := 9) (size := 1) rfl rfl (by decide)
      obtain ⟨W1, hW1⟩ : ∃ x, W0.alloc (.cells #[.string s.name] 9) = x := ⟨_, rfl⟩
      rw [hW1] at hk1 hn1 hv1 hl1 ⊢; clear hW1; obtain ⟨g1, hg1⟩ : ∃ x, W0.heap.size = x := ⟨_, rfl⟩
      rw [hg1] at hl1 ⊢; clear hg1; have HK1 := Lib.hid hk1; have HN1 := Lib.hid hn1; have HV1 := Lib.hid hv1; have HL1 := Lib.hid hl1; clear hk1 hn1 hv1 hl1; have HL11 := HL1; refine wpTill_ready (rs := [10, 18]) (by kernel_rfl) (by simp) ?_
      refine TillAll.cons (o := ⟨some 45, _, _, _, _, _⟩) rfl (fun K hK => ?_) ?_
      ·refine step_append_rows (by rfl) _ _ 78 (by rfl) 9 (.string ⟨#[]⟩) 1 16 Try.underlying78 info_string rfl (.slice AN S1.names.length cN) _ _ (by rfl) HN1.out (.slice (some ⟨g1, 0, none⟩) 1 1) 1 [.string s.name] (by rfl) HL11.out (by simp [Value.oneCell']) (by have := HNL.out; unfold maxLen; omega) (by have := HNL.out; omega) ?_
       intro N' W2 hm12 hgrow hon; refine hK.out _ _ (fun _ => HK1.out.grown hgrow (fun q hq => .inl (.inl hq))) ?_
       clear hK K; try simp only [Act.put, List.setIfInBounds_toArray, List.set_cons_zero, List.set_cons_succ]
       have HK2 := Lib.hid (HK1.out.grown hgrow (fun q hq => .inl (.inl hq)))
       have HV2 := Lib.hid (HV1.out.keep fun q hq => hgrow.block q (HV1.out.lt hq) (fun e => rows_apart HV1.out HN1.out (by decide) q hq e.symm))
       have HON := Lib.hid (fun q (hq : Value.ownBlock N' = some q) => hon.elim (fun e => Or.inl (b := wr.heap.size ≤ q) (e ▸ hq)) (fun e => .inr (by rw [hq] at e; have := Option.some.inj e; have := HK1.out.size; omega)))
       have HM12 := Lib.hid hm12; clear hgrow hon hm12; refine wpTill_ready (rs := [18]) (by kernel_rfl) (by simp) ?_
       refine TillAll.cons (o := ⟨some 53, _, _, _, _, _⟩) rfl (fun K hK => ?_) TillAll.nil
       go_simp; refine hK.out _ _ (fun _ => HK2.out.alloc _) ?_
       clear hK K; try simp only [Act.put, List.setIfInBounds_toArray, List.set_cons_zero, List.set_cons_succ]
       have hk3 := HK2.out.alloc (.cells #[.int .i64 a] 2); skip; have hv3 := HV2.out.alloc (.cells #[.int .i64 a] 2); have hl3 := Row.laid (w := W2) (g := W2.heap.size) (n := 1) (cs := #[.int .i64 a]) (e := 2) (size := 1) rfl rfl (by decide)
       have hm13 := HM12.out.alloc (.cells #[.int .i64 a] 2); obtain ⟨W3, hW3⟩ : ∃ x, W2.alloc (.cells #[.int .i64 a] 2) = x := ⟨_, rfl⟩
       rw [hW3] at hk3 hv3 hl3 hm13 ⊢; clear hW3; obtain ⟨g3, hg3⟩ : ∃ x, W2.heap.size = x := ⟨_, rfl⟩
       rw [hg3] at hl3 ⊢; clear hg3; have HK3 := Lib.hid hk3; have HV3 := Lib.hid hv3; have HL3 := Lib.hid hl3; have HM13 := Lib.hid hm13; clear hk3 hv3 hl3 hm13; have HL23 := HL3; refine wpTill_ready (rs := [19]) (by kernel_rfl) (by simp) ?_
       refine TillAll.cons (o := ⟨some 54, _, _, _, _, _⟩) rfl (fun K hK => ?_) TillAll.nil
       refine step_append_rows (by rfl) _ _ 46 (by rfl) 2 (.int .i64 0) 1 8 Try.underlying46 info_i64 rfl (.slice AV S1.vals.length cV) _ _ (by rfl) HV3.out (.slice (some ⟨g3, 0, none⟩) 1 1) 1 [.int .i64 a] (by rfl) HL23.out (by simp [Value.oneCell']) (by have := HVL.out; unfold maxLen; omega) (by have := HVL.out; omega) ?_
       intro V' W4 hm2 hgrow hon; refine hK.out _ _ (fun _ => HK3.out.grown hgrow (fun q hq => .inl (.inr hq))) ?_
       clear hK K; try simp only [Act.put, List.setIfInBounds_toArray, List.set_cons_zero, List.set_cons_succ]
       have HK4 := Lib.hid (HK3.out.grown hgrow (fun q hq => .inl (.inr hq)))
       have HM14 := Lib.hid (HM13.out.keep fun q hq => hgrow.block q (HM13.out.lt hq) (fun e => rows_apart HM13.out HV3.out (by decide) q hq e.symm))
       have HOV := Lib.hid (fun q (hq : Value.ownBlock V' = some q) => hon.elim (fun e => Or.inl (b := wr.heap.size ≤ q) (e ▸ hq)) (fun e => .inr (by rw [hq] at e; have := Option.some.inj e; have := HK3.out.size; omega)))
       have HM2 := Lib.hid hm2; clear hgrow hon hm2; obtain ⟨AN', cN', hAN, _⟩ := HM14.out.slice; subst hAN; obtain ⟨AV', cV', hAV, _⟩ := HM2.out.slice; subst hAV; have hbb := HK4.out.blk HEv.out.blk (fun e => e.elim HNB.out HVB.out)
       have fb := blk_cell hbb 0; have ff := blk_free hbb; simp only [mCells] at fb
       refine wpTill_pure (i := 20) (oi := ⟨some 55, _, _, _, _, _⟩) (v := .pointer (some ⟨p, 0, none⟩)) rfl (by kernel_rfl) (by kernel_rfl) (by kernel_rfl) (by kernel_rfl) (by kernel_rfl) (fun _ _ _ h => h) (Or.inl ⟨by rfl, fun V_ _ => by go_simp⟩) (fun _ => HK4.out) ?_
       try simp only [Act.put, List.setIfInBounds_toArray, List.set_cons_zero, List.set_cons_succ]
       refine wpTill_pure (i := 21) (oi := ⟨some 56, _, _, _, _, _⟩) (v := .pointer (some ⟨p, 0, none⟩)) rfl (by kernel_rfl) (by kernel_rfl) (by kernel_rfl) (by kernel_rfl) (by kernel_rfl) (fun _ _ _ h => h) (Or.inl ⟨by rfl, fun V_ _ => by go_simp⟩) (fun _ => HK4.out) ?_
       try simp only [Act.put, List.setIfInBounds_toArray, List.set_cons_zero, List.set_cons_succ]
       refine wpTill_pure (i := 22) (oi := ⟨some 57, _, _, _, _, _⟩) (v := .pointer (some ⟨p, 0, none⟩)) rfl (by kernel_rfl) (by kernel_rfl) (by kernel_rfl) (by kernel_rfl) (by kernel_rfl) (fun _ _ _ h => h) (Or.inl ⟨by rfl, fun V_ _ => by go_simp⟩) (fun _ => HK4.out) ?_
       try simp only [Act.put, List.setIfInBounds_toArray, List.set_cons_zero, List.set_cons_succ]
       refine wpTill_ready (rs := [23]) (by kernel_rfl) (by simp) ?_
       refine TillAll.cons (o := ⟨none, _, _, _, _, _⟩) rfl (fun K hK => ?_) TillAll.nil
       go_simp; refine hK.out _ _ (fun h => absurd h (by decide)) ?_
       clear hK K; try simp only [Act.put, List.setIfInBounds_toArray, List.set_cons_zero, List.set_cons_succ]
       have fb1 := blk_cell (blk_set hbb 0 (.slice AN' (S1.names.length + 1) cN')) 1; have ff1 := blk_free (blk_set hbb 0 (.slice AN' (S1.names.length + 1) cN')); simp only [mCells] at fb1
       refine wpTill_pure (i := 24) (oi := ⟨some 58, _, _, _, _, _⟩) (v := .pointer (some ⟨p, 0, none⟩)) rfl (by kernel_rfl) (by kernel_rfl) (by kernel_rfl) (by kernel_rfl) (by kernel_rfl) (fun _ _ _ h => h) (Or.inl ⟨by rfl, fun V_ _ => by go_simp⟩) (fun h => absurd h (by decide)) ?_
       try simp only [Act.put, List.setIfInBounds_toArray, List.set_cons_zero, List.set_cons_succ]
       refine wpTill_pure (i := 25) (oi := ⟨some 59, _, _, _, _, _⟩) (v := .pointer (some ⟨p, 0, none⟩)) rfl (by kernel_rfl) (by kernel_rfl) (by kernel_rfl) (by kernel_rfl) (by kernel_rfl) (fun _ _ _ h => h) (Or.inl ⟨by rfl, fun V_ _ => by go_simp⟩) (fun h => absurd h (by decide)) ?_
       try simp only [Act.put, List.setIfInBounds_toArray, List.set_cons_zero, List.set_cons_succ]
       refine wpTill_pure (i := 26) (oi := ⟨some 60, _, _, _, _, _⟩) (v := .pointer (some ⟨p, 1, none⟩)) rfl (by kernel_rfl) (by kernel_rfl) (by kernel_rfl) (by kernel_rfl) (by kernel_rfl) (fun _ _ _ h => h) (Or.inl ⟨by rfl, fun V_ _ => by go_simp⟩) (fun h => absurd h (by decide)) ?_
       try simp only [Act.put, List.setIfInBounds_toArray, List.set_cons_zero, List.set_cons_succ]
       refine wpTill_ready (rs := [27]) (by kernel_rfl) (by simp) ?_
       refine TillAll.cons (o := ⟨none, _, _, _, _, _⟩) rfl (fun K hK => ?_) TillAll.nil
       go_simp; refine hK.out _ _ (fun h => absurd h (by decide)) ?_
       clear hK K fb ff fb1 ff1 hbb; refine wpTill_done (by kernel_rfl) ?_ _
       have hfin := HEv.out.pushVar (Nat.le_trans HEv.out.hb (Nat.le_of_lt (blk_lt HEv.out.blk))) HK4.out HM14.out HM2.out HON.out HOV.out; go_wp2; first | go_end0 | refine bodyPost_ret (results_none rfl _ _ _) rfl ?_
       exact ⟨_, none, HDo.out, ⟨_, _, _, _, _, hfin.2⟩, HFr.out.keep hfin.1 HBr.out.size (fun q h => h.elim (fun e => by subst e; exact Nat.le_trans hbase HEv.out.hb) (fun e => e.elim (fun e => Nat.le_trans hbase (HEv.out.fn q e)) (fun e => Nat.le_trans hbase (HEv.out.fv q e)))) (fun q cs h => h.elim (fun e => HEv.out.noBox q cs e) (fun e => e.elim (fun e => own_noBox HEv.out.names (by decide) q cs e) (fun e => own_noBox HEv.out.vals (by decide) q cs e))), rfl⟩
      refine TillAll.cons (o := ⟨some 53, _, _, _, _, _⟩) rfl (fun K hK => ?_) TillAll.nil
      go_simp; refine hK.out _ _ (fun _ => HK1.out.alloc _) ?_
      clear hK K; try simp only [Act.put, List.setIfInBounds_toArray, List.set_cons_zero, List.set_cons_succ]
      have hk2 := HK1.out.alloc (.cells #[.int .i64 a] 2); have hn2 := HN1.out.alloc (.cells #[.int .i64 a] 2); have hv2 := HV1.out.alloc (.cells #[.int .i64 a] 2); have hl2 := Row.laid (w := W1) (g := W1.heap.size) (n := 1) (cs := #[.int .i64 a]) (e := 2) (size := 1) rfl rfl (by decide)
      have hl12 := HL11.out.alloc (.cells #[.int .i64 a] 2); obtain ⟨W2, hW2⟩ : ∃ x, W1.alloc (.cells #[.int .i64 a] 2) = x := ⟨_, rfl⟩
      rw [hW2] at hk2 hn2 hv2 hl2 hl12 ⊢; clear hW2; obtain ⟨g2, hg2⟩ : ∃ x, W1.heap.size = x := ⟨_, rfl⟩
      rw [hg2] at hl2 ⊢; clear hg2; have HK2 := Lib.hid hk2; have HN2 := Lib.hid hn2; have HV2 := Lib.hid hv2; have HL2 := Lib.hid hl2; have HL12 := Lib.hid hl12; clear hk2 hn2 hv2 hl2 hl12; have HL22 := HL2; refine wpTill_ready (rs := [10]) (by kernel_rfl) (by simp) ?_
      refine TillAll.cons (o := ⟨some 45, _, _, _, _, _⟩) rfl (fun K hK => ?_) TillAll.nil
      refine step_append_rows (by rfl) _ _ 78 (by rfl) 9 (.string ⟨#[]⟩) 1 16 Try.underlying78 info_string rfl (.slice AN S1.names.length cN) _ _ (by rfl) HN2.out (.slice (some ⟨g1, 0, none⟩) 1 1) 1 [.string s.name] (by rfl) HL12.out (by simp [Value.oneCell']) (by have := HNL.out; unfold maxLen; omega) (by have := HNL.out; omega) ?_
      intro N' W3 hm13 hgrow hon; refine hK.out _ _ (fun _ => HK2.out.grown hgrow (fun q hq => .inl (.inl hq))) ?_
      clear hK K; try simp only [Act.put, List.setIfInBounds_toArray, List.set_cons_zero, List.set_cons_succ]
      have HK3 := Lib.hid (HK2.out.grown hgrow (fun q hq => .inl (.inl hq)))
      have HV3 := Lib.hid (HV2.out.keep fun q hq => hgrow.block q (HV2.out.lt hq) (fun e => rows_apart HV2.out HN2.out (by decide) q hq e.symm))
      have HON := Lib.hid (fun q (hq : Value.ownBlock N' = some q) => hon.elim (fun e => Or.inl (b := wr.heap.size ≤ q) (e ▸ hq)) (fun e => .inr (by rw [hq] at e; have := Option.some.inj e; have := HK2.out.size; omega)))
      have HM13 := Lib.hid hm13; have HL23 := Lib.hid (HL22.out.keep fun q hq => hgrow.block q (HL22.out.lt hq) (fun e => rows_apart HL22.out HN2.out (by decide) q hq e.symm))
      clear hgrow hon hm13; refine wpTill_ready (rs := [19]) (by kernel_rfl) (by simp) ?_
      refine TillAll.cons (o := ⟨some 54, _, _, _, _, _⟩) rfl (fun K hK => ?_) TillAll.nil
      refine step_append_rows (by rfl) _ _ 46 (by rfl) 2 (.int .i64 0) 1 8 Try.underlying46 info_i64 rfl (.slice AV S1.vals.length cV) _ _ (by rfl) HV3.out (.slice (some ⟨g2, 0, none⟩) 1 1) 1 [.int .i64 a] (by rfl) HL23.out (by simp [Value.oneCell']) (by have := HVL.out; unfold maxLen; omega) (by have := HVL.out; omega) ?_
      intro V' W4 hm2 hgrow hon; refine hK.out _ _ (fun _ => HK3.out.grown hgrow (fun q hq => .inl (.inr hq))) ?_
      clear hK K; try simp only [Act.put, List.setIfInBounds_toArray, List.set_cons_zero, List.set_cons_succ]
      have HK4 := Lib.hid (HK3.out.grown hgrow (fun q hq => .inl (.inr hq)))
      have HM14 := Lib.hid (HM13.out.keep fun q hq => hgrow.block q (HM13.out.lt hq) (fun e => rows_apart HM13.out HV3.out (by decide) q hq e.symm))
      have HOV := Lib.hid (fun q (hq : Value.ownBlock V' = some q) => hon.elim (fun e => Or.inl (b := wr.heap.size ≤ q) (e ▸ hq)) (fun e => .inr (by rw [hq] at e; have := Option.some.inj e; have := HK3.out.size; omega)))
      have HM2 := Lib.hid hm2; clear hgrow hon hm2; obtain ⟨AN', cN', hAN, _⟩ := HM14.out.slice; subst hAN; obtain ⟨AV', cV', hAV, _⟩ := HM2.out.slice; subst hAV; have hbb := HK4.out.blk HEv.out.blk (fun e => e.elim HNB.out HVB.out)
      have fb := blk_cell hbb 0; have ff := blk_free hbb; simp only [mCells] at fb
      refine wpTill_pure (i := 20) (oi := ⟨some 55, _, _, _, _, _⟩) (v := .pointer (some ⟨p, 0, none⟩)) rfl (by kernel_rfl) (by kernel_rfl) (by kernel_rfl) (by kernel_rfl) (by kernel_rfl) (fun _ _ _ h => h) (Or.inl ⟨by rfl, fun V_ _ => by go_simp⟩) (fun _ => HK4.out) ?_
      try simp only [Act.put, List.setIfInBounds_toArray, List.set_cons_zero, List.set_cons_succ]
      refine wpTill_pure (i := 21) (oi := ⟨some 56, _, _, _, _, _⟩) (v := .pointer (some ⟨p, 0, none⟩)) rfl (by kernel_rfl) (by kernel_rfl) (by kernel_rfl) (by kernel_rfl) (by kernel_rfl) (fun _ _ _ h => h) (Or.inl ⟨by rfl, fun V_ _ => by go_simp⟩) (fun _ => HK4.out) ?_
      try simp only [Act.put, List.setIfInBounds_toArray, List.set_cons_zero, List.set_cons_succ]
      refine wpTill_pure (i := 22) (oi := ⟨some 57, _, _, _, _, _⟩) (v := .pointer (some ⟨p, 0, none⟩)) rfl (by kernel_rfl) (by kernel_rfl) (by kernel_rfl) (by kernel_rfl) (by kernel_rfl) (fun _ _ _ h => h) (Or.inl ⟨by rfl, fun V_ _ => by go_simp⟩) (fun _ => HK4.out) ?_
      try simp only [Act.put, List.setIfInBounds_toArray, List.set_cons_zero, List.set_cons_succ]
      refine wpTill_ready (rs := [23]) (by kernel_rfl) (by simp) ?_
      refine TillAll.cons (o := ⟨none, _, _, _, _, _⟩) rfl (fun K hK => ?_) TillAll.nil
      go_simp; refine hK.out _ _ (fun h => absurd h (by decide)) ?_
      clear hK K; try simp only [Act.put, List.setIfInBounds_toArray, List.set_cons_zero, List.set_cons_succ]
      have fb1 := blk_cell (blk_set hbb 0 (.slice AN' (S1.names.length + 1) cN')) 1; have ff1 := blk_free (blk_set hbb 0 (.slice AN' (S1.names.length + 1) cN')); simp only [mCells] at fb1
      refine wpTill_pure (i := 24) (oi := ⟨some 58, _, _, _, _, _⟩) (v := .pointer (some ⟨p, 0, none⟩)) rfl (by kernel_rfl) (by kernel_rfl) (by kernel_rfl) (by kernel_rfl) (by kernel_rfl) (fun _ _ _ h => h) (Or.inl ⟨by rfl, fun V_ _ => by go_simp⟩) (fun h => absurd h (by decide)) ?_
      try simp only [Act.put, List.setIfInBounds_toArray, List.set_cons_zero, List.set_cons_succ]
      refine wpTill_pure (i := 25) (oi := ⟨some 59, _, _, _, _, _⟩) (v := .pointer (some ⟨p, 0, none⟩)) rfl (by kernel_rfl) (by kernel_rfl) (by kernel_rfl) (by kernel_rfl) (by kernel_rfl) (fun _ _ _ h => h) (Or.inl ⟨by rfl, fun V_ _ => by go_simp⟩) (fun h => absurd h (by decide)) ?_
      try simp only [Act.put, List.setIfInBounds_toArray, List.set_cons_zero, List.set_cons_succ]
      refine wpTill_pure (i := 26) (oi := ⟨some 60, _, _, _, _, _⟩) (v := .pointer (some ⟨p, 1, none⟩)) rfl (by kernel_rfl) (by kernel_rfl) (by kernel_rfl) (by kernel_rfl) (by kernel_rfl) (fun _ _ _ h => h) (Or.inl ⟨by rfl, fun V_ _ => by go_simp⟩) (fun h => absurd h (by decide)) ?_
      try simp only [Act.put, List.setIfInBounds_toArray, List.set_cons_zero, List.set_cons_succ]
      refine wpTill_ready (rs := [27]) (by kernel_rfl) (by simp) ?_
      refine TillAll.cons (o := ⟨none, _, _, _, _, _⟩) rfl (fun K hK => ?_) TillAll.nil
      go_simp; refine hK.out _ _ (fun h => absurd h (by decide)) ?_
      clear hK K fb ff fb1 ff1 hbb; refine wpTill_done (by kernel_rfl) ?_ _
      have hfin := HEv.out.pushVar (Nat.le_trans HEv.out.hb (Nat.le_of_lt (blk_lt HEv.out.blk))) HK4.out HM14.out HM2.out HON.out HOV.out; go_wp2; first | go_end0 | refine bodyPost_ret (results_none rfl _ _ _) rfl ?_
      exact ⟨_, none, HDo.out, ⟨_, _, _, _, _, hfin.2⟩, HFr.out.keep hfin.1 HBr.out.size (fun q h => h.elim (fun e => by subst e; exact Nat.le_trans hbase HEv.out.hb) (fun e => e.elim (fun e => Nat.le_trans hbase (HEv.out.fn q e)) (fun e => Nat.le_trans hbase (HEv.out.fv q e)))) (fun q cs h => h.elim (fun e => HEv.out.noBox q cs e) (fun e => e.elim (fun e => own_noBox HEv.out.names (by decide) q cs e) (fun e => own_noBox HEv.out.vals (by decide) q cs e))), rfl⟩
     refine TillAll.cons (o := ⟨some 53, _, _, _, _, _⟩) rfl (fun K hK => ?_) TillAll.nil
     go_simp; refine hK.out _ _ (fun _ => HK0.out.alloc _) ?_
     clear hK K; try simp only [Act.put, List.setIfInBounds_toArray, List.set_cons_zero, List.set_cons_succ]
     have hk1 := HK0.out.alloc (.cells #[.int .i64 a] 2); have hn1 := HN0.out.alloc (.cells #[.int .i64 a] 2); have hv1 := HV0.out.alloc (.cells #[.int .i64 a] 2); have hl1 := Row.laid (w := W0) (g := W0.heap.size) (n := 1) (cs := #[.int .i64 a]) (e := 2) (size := 1) rfl rfl (by decide)
     obtain ⟨W1, hW1⟩ : ∃ x, W0.alloc (.cells #[.int .i64 a] 2) = x := ⟨_, rfl⟩
     rw [hW1] at hk1 hn1 hv1 hl1 ⊢; clear hW1; obtain ⟨g1, hg1⟩ : ∃ x, W0.heap.size = x := ⟨_, rfl⟩
     rw [hg1] at hl1 ⊢; clear hg1; have HK1 := Lib.hid hk1; have HN1 := Lib.hid hn1; have HV1 := Lib.hid hv1; have HL1 := Lib.hid hl1; clear hk1 hn1 hv1 hl1; have HL21 := HL1; refine wpTill_ready (rs := [9]) (by kernel_rfl) (by simp) ?_
     refine TillAll.cons (o := ⟨some 44, _, _, _, _, _⟩) rfl (fun K hK => ?_) TillAll.nil
     go_simp; refine hK.out _ _ (fun _ => HK1.out.alloc _) ?_
     clear hK K; try simp only [Act.put, List.setIfInBounds_toArray, List.set_cons_zero, List.set_cons_succ]
     have hk2 := HK1.out.alloc (.cells #[.string s.name] 9); have hn2 := HN1.out.alloc (.cells #[.string s.name] 9); have hv2 := HV1.out.alloc (.cells #[.string s.name] 9); have hl2 := Row.laid (w := W1) (g := W1.heap.size) (n := 1) (cs := #[.string s.name]) (e := 9) (size := 1) rfl rfl (by decide)
     have hl22 := HL21.out.alloc (.cells #[.string s.name] 9); obtain ⟨W2, hW2⟩ : ∃ x, W1.alloc (.cells #[.string s.name] 9) = x := ⟨_, rfl⟩
     rw [hW2] at hk2 hn2 hv2 hl2 hl22 ⊢; clear hW2; obtain ⟨g2, hg2⟩ : ∃ x, W1.heap.size = x := ⟨_, rfl⟩
     rw [hg2] at hl2 ⊢; clear hg2; have HK2 := Lib.hid hk2; have HN2 := Lib.hid hn2; have HV2 := Lib.hid hv2; have HL2 := Lib.hid hl2; have HL22 := Lib.hid hl22; clear hk2 hn2 hv2 hl2 hl22; have HL12 := HL2; refine wpTill_ready (rs := [10]) (by kernel_rfl) (by simp) ?_
     refine TillAll.cons (o := ⟨some 45, _, _, _, _, _⟩) rfl (fun K hK => ?_) TillAll.nil
     refine step_append_rows (by rfl) _ _ 78 (by rfl) 9 (.string ⟨#[]⟩) 1 16 Try.underlying78 info_string rfl (.slice AN S1.names.length cN) _ _ (by rfl) HN2.out (.slice (some ⟨g2, 0, none⟩) 1 1) 1 [.string s.name] (by rfl) HL12.out (by simp [Value.oneCell']) (by have := HNL.out; unfold maxLen; omega) (by have := HNL.out; omega) ?_
     intro N' W3 hm13 hgrow hon; refine hK.out _ _ (fun _ => HK2.out.grown hgrow (fun q hq => .inl (.inl hq))) ?_
     clear hK K; try simp only [Act.put, List.setIfInBounds_toArray, List.set_cons_zero, List.set_cons_succ]
     have HK3 := Lib.hid (HK2.out.grown hgrow (fun q hq => .inl (.inl hq)))
     have HV3 := Lib.hid (HV2.out.keep fun q hq => hgrow.block q (HV2.out.lt hq) (fun e => rows_apart HV2.out HN2.out (by decide) q hq e.symm))
     have HON := Lib.hid (fun q (hq : Value.ownBlock N' = some q) => hon.elim (fun e => Or.inl (b := wr.heap.size ≤ q) (e ▸ hq)) (fun e => .inr (by rw [hq] at e; have := Option.some.inj e; have := HK2.out.size; omega)))
     have HM13 := Lib.hid hm13; have HL23 := Lib.hid (HL22.out.keep fun q hq => hgrow.block q (HL22.out.lt hq) (fun e => rows_apart HL22.out HN2.out (by decide) q hq e.symm))
     clear hgrow hon hm13; refine wpTill_ready (rs := [19]) (by kernel_rfl) (by simp) ?_
     refine TillAll.cons (o := ⟨some 54, _, _, _, _, _⟩) rfl (fun K hK => ?_) TillAll.nil
     refine step_append_rows (by rfl) _ _ 46 (by rfl) 2 (.int .i64 0) 1 8 Try.underlying46 info_i64 rfl (.slice AV S1.vals.length cV) _ _ (by rfl) HV3.out (.slice (some ⟨g1, 0, none⟩) 1 1) 1 [.int .i64 a] (by rfl) HL23.out (by simp [Value.oneCell']) (by have := HVL.out; unfold maxLen; omega) (by have := HVL.out; omega) ?_
     intro V' W4 hm2 hgrow hon; refine hK.out _ _ (fun _ => HK3.out.grown hgrow (fun q hq => .inl (.inr hq))) ?_
     clear hK K; try simp only [Act.put, List.setIfInBounds_toArray, List.set_cons_zero, List.set_cons_succ]
     have HK4 := Lib.hid (HK3.out.grown hgrow (fun q hq => .inl (.inr hq)))
     have HM14 := Lib.hid (HM13.out.keep fun q hq => hgrow.block q (HM13.out.lt hq) (fun e => rows_apart HM13.out HV3.out (by decide) q hq e.symm))
     have HOV := Lib.hid (fun q (hq : Value.ownBlock V' = some q) => hon.elim (fun e => Or.inl (b := wr.heap.size ≤ q) (e ▸ hq)) (fun e => .inr (by rw [hq] at e; have := Option.some.inj e; have := HK3.out.size; omega)))
     have HM2 := Lib.hid hm2; clear hgrow hon hm2; obtain ⟨AN', cN', hAN, _⟩ := HM14.out.slice; subst hAN; obtain ⟨AV', cV', hAV, _⟩ := HM2.out.slice; subst hAV; have hbb := HK4.out.blk HEv.out.blk (fun e => e.elim HNB.out HVB.out)
     have fb := blk_cell hbb 0; have ff := blk_free hbb; simp only [mCells] at fb
     refine wpTill_pure (i := 20) (oi := ⟨some 55, _, _, _, _, _⟩) (v := .pointer (some ⟨p, 0, none⟩)) rfl (by kernel_rfl) (by kernel_rfl) (by kernel_rfl) (by kernel_rfl) (by kernel_rfl) (fun _ _ _ h => h) (Or.inl ⟨by rfl, fun V_ _ => by go_simp⟩) (fun _ => HK4.out) ?_
     try simp only [Act.put, List.setIfInBounds_toArray, List.set_cons_zero, List.set_cons_succ]
     refine wpTill_pure (i := 21) (oi := ⟨some 56, _, _, _, _, _⟩) (v := .pointer (some ⟨p, 0, none⟩)) rfl (by kernel_rfl) (by kernel_rfl) (by kernel_rfl) (by kernel_rfl) (by kernel_rfl) (fun _ _ _ h => h) (Or.inl ⟨by rfl, fun V_ _ => by go_simp⟩) (fun _ => HK4.out) ?_
     try simp only [Act.put, List.setIfInBounds_toArray, List.set_cons_zero, List.set_cons_succ]
     refine wpTill_pure (i := 22) (oi := ⟨some 57, _, _, _, _, _⟩) (v := .pointer (some ⟨p, 0, none⟩)) rfl (by kernel_rfl) (by kernel_rfl) (by kernel_rfl) (by kernel_rfl) (by kernel_rfl) (fun _ _ _ h => h) (Or.inl ⟨by rfl, fun V_ _ => by go_simp⟩) (fun _ => HK4.out) ?_
     try simp only [Act.put, List.setIfInBounds_toArray, List.set_cons_zero, List.set_cons_succ]
     refine wpTill_ready (rs := [23]) (by kernel_rfl) (by simp) ?_
     refine TillAll.cons (o := ⟨none, _, _, _, _, _⟩) rfl (fun K hK => ?_) TillAll.nil
     go_simp; refine hK.out _ _ (fun h => absurd h (by decide)) ?_
     clear hK K; try simp only [Act.put, List.setIfInBounds_toArray, List.set_cons_zero, List.set_cons_succ]
     have fb1 := blk_cell (blk_set hbb 0 (.slice AN' (S1.names.length + 1) cN')) 1; have ff1 := blk_free (blk_set hbb 0 (.slice AN' (S1.names.length + 1) cN')); simp only [mCells] at fb1
     refine wpTill_pure (i := 24) (oi := ⟨some 58, _, _, _, _, _⟩) (v := .pointer (some ⟨p, 0, none⟩)) rfl (by kernel_rfl) (by kernel_rfl) (by kernel_rfl) (by kernel_rfl) (by kernel_rfl) (fun _ _ _ h => h) (Or.inl ⟨by rfl, fun V_ _ => by go_simp⟩) (fun h => absurd h (by decide)) ?_
     try simp only [Act.put, List.setIfInBounds_toArray, List.set_cons_zero, List.set_cons_succ]
     refine wpTill_pure (i := 25) (oi := ⟨some 59, _, _, _, _, _⟩) (v := .pointer (some ⟨p, 0, none⟩)) rfl (by kernel_rfl) (by kernel_rfl) (by kernel_rfl) (by kernel_rfl) (by kernel_rfl) (fun _ _ _ h => h) (Or.inl ⟨by rfl, fun V_ _ => by go_simp⟩) (fun h => absurd h (by decide)) ?_
     try simp only [Act.put, List.setIfInBounds_toArray, List.set_cons_zero, List.set_cons_succ]
     refine wpTill_pure (i := 26) (oi := ⟨some 60, _, _, _, _, _⟩) (v := .pointer (some ⟨p, 1, none⟩)) rfl (by kernel_rfl) (by kernel_rfl) (by kernel_rfl) (by kernel_rfl) (by kernel_rfl) (fun _ _ _ h => h) (Or.inl ⟨by rfl, fun V_ _ => by go_simp⟩) (fun h => absurd h (by decide)) ?_
     try simp only [Act.put, List.setIfInBounds_toArray, List.set_cons_zero, List.set_cons_succ]
     refine wpTill_ready (rs := [27]) (by kernel_rfl) (by simp) ?_
     refine TillAll.cons (o := ⟨none, _, _, _, _, _⟩) rfl (fun K hK => ?_) TillAll.nil
     go_simp; refine hK.out _ _ (fun h => absurd h (by decide)) ?_
     clear hK K fb ff fb1 ff1 hbb; refine wpTill_done (by kernel_rfl) ?_ _
     have hfin := HEv.out.pushVar (Nat.le_trans HEv.out.hb (Nat.le_of_lt (blk_lt HEv.out.blk))) HK4.out HM14.out HM2.out HON.out HOV.out; go_wp2; first | go_end0 | refine bodyPost_ret (results_none rfl _ _ _) rfl ?_
     exact ⟨_, none, HDo.out, ⟨_, _, _, _, _, hfin.2⟩, HFr.out.keep hfin.1 HBr.out.size (fun q h => h.elim (fun e => by subst e; exact Nat.le_trans hbase HEv.out.hb) (fun e => e.elim (fun e => Nat.le_trans hbase (HEv.out.fn q e)) (fun e => Nat.le_trans hbase (HEv.out.fv q e)))) (fun q cs h => h.elim (fun e => HEv.out.noBox q cs e) (fun e => e.elim (fun e => own_noBox HEv.out.names (by decide) q cs e) (fun e => own_noBox HEv.out.vals (by decide) q cs e))), rfl⟩
    ·have t1 : (s.kind == 1) = false := by simp [hK]
     have t2 : (s.kind == 2) = true := by simp [hK]
     have t3 : (s.kind == 3) = false := by simp [hK]
     have t4 : (s.kind == 4) = false := by simp [hK]
     have t5 : (s.kind == 5) = false := by simp [hK]
     have t6 : (s.kind == 6) = false := by simp [hK]
     have t7 : (s.kind == 7) = false := by simp [hK]
     have t8 : (s.kind == 8) = false := by simp [hK]
     have t9 : (s.kind == 9) = false := by simp [hK]
     have hnx := HNN.out; have f1 := blk_cell HXr.out 1
     cases hi : lastIdx S1.names s.name with
     | none =>
      have HI := Lib.hid (show findE S1.names s.name = ovr 0 0 by rw [findE, hi])
      have HDo := Lib.hid (show Does B (.stmt s) S S1 (some (0, 0)) by have h := HDD.out (by omega); rwa [show doV S1 s a b = (S1, some (0, 0)) by simp [doV, hK, hi]] at h)
      clear hi hK; go_wp2; go_still_tail 5, (by kernel_rfl)
      go_wp2_with fail; refine (find_calls _ p base B S1 N V M O I (HEv.out.drewN _) s.name (by omega)).mono ?_
      rintro y w4 ⟨rfl, rfl⟩; rw [HI.out]; exact ⟨rfl, S1, some (0, 0), HDo.out, ⟨_, _, _, _, _, HEv.out.drewN _⟩, HFr.out.belowR HBr.out.size (below_drewN (Below.refl _ _) _), rfl⟩
     | some i =>
      have hil := lastIdx_lt hi; have HI := Lib.hid (show findE S1.names s.name = .returned (.int .i64 (i : Int)) by rw [findE, hi])
      have HDo := Lib.hid (show Does B (.stmt s) S { S1 with vals := S1.vals.set i a } (none) by have h := HDD.out (by omega); rwa [show doV S1 s a b = ({ S1 with vals := S1.vals.set i a }, none) by simp [doV, hK, hi]] at h)
      have hiv : i < S1.vals.length := by have := HEv.out.eq; omega
      obtain ⟨gv, cv, rfl, xv, fv⟩ := HEv.out.vals.cell (nums_get hiv); have HXV := Lib.hid xv; have HFV := Lib.hid fv; have hi0 : (0 : Int) ≤ (i : Int) := by omega
      have hi1 : (i : Int) < (S1.vals.length : Int) := by omega
      clear hi xv fv hK hil; go_wp2; go_still_tail 5, (by kernel_rfl)
      go_wp2_with fail; refine (find_calls _ p base B S1 N _ M O I (HEv.out.drewN _) s.name (by omega)).mono ?_
      rintro y w4 ⟨rfl, hw4⟩; rw [HI.out]; have HE4 := Lib.hid (hw4 ▸ HEv.out.drewN _ : EvAt w4 p base B S1 N _ M O I); have HF4 := Lib.hid (show Fx W w w4 from hw4 ▸ HFr.out.belowR HBr.out.size (below_drewN (Below.refl _ _) _))
      have HB4w := Lib.hid (HBW.out.trans HF4.out.below); have q1 : w4.cell? ⟨p, 1, none⟩ = some (.slice (some ⟨gv, 0, none⟩) S1.vals.length cv) := blk_cell HE4.out.blk 1
      have q2 : w4.cell? ⟨b4, 0, none⟩ = some (.int .i64 a) := by subst hw4; exact blk_cell HAx.out 0
      have HQ3 := Lib.hid (show (w4.cell? ⟨gv, i, none⟩).isSome = true by subst hw4; rw [show (wr.drewN _).cell? ⟨gv, i, none⟩ = _ from HXV.out]; rfl)
      have HQ4 := Lib.hid (show w4.frozen? ⟨gv, i, none⟩ = false by subst hw4; exact HFV.out)
      clear hw4 f1; go_wp2; go_still_tail 9, (by kernel_rfl)
      refine wpList_store_any (by rfl) 2 _ _ (by rfl) gv i (by rfl) .i64 a (by rfl) (by kernel_rfl) HQ3.out HQ4.out ?_
      go_wp2; first | go_end0 | refine bodyPost_ret (results_none rfl _ _ _) rfl ?_
      have he := (HE4.out.drewN 1).setVal i a; have hk : Keep (fun q => q = gv) w4 ((w4.drewN 1).setCell ⟨gv, i, none⟩ (.int .i64 a)) := Keep.set (O := fun q => q = gv) (Keep.drewN (Keep.refl _ w4) 1) (p := ⟨gv, i, none⟩) (.inl rfl) _
      exact ⟨_, none, HDo.out, ⟨_, _, _, _, _, he⟩, HF4.out.keep hk HB4w.out.size (fun q h => by subst h; exact Nat.le_trans hbase (HE4.out.fv _ rfl)) (fun q cs e hq => own_noBox HE4.out.vals (by decide) q cs (by rw [e]; rfl) hq), rfl⟩
    ·have t1 : (s.kind == 1) = false := by simp [hK]
     have t2 : (s.kind == 2) = false := by simp [hK]
     have t3 : (s.kind == 3) = true := by simp [hK]
     have t4 : (s.kind == 4) = false := by simp [hK]
     have t5 : (s.kind == 5) = false := by simp [hK]
     have t6 : (s.kind == 6) = false := by simp [hK]
     have t7 : (s.kind == 7) = false := by simp [hK]
     have t8 : (s.kind == 8) = false := by simp [hK]
     have t9 : (s.kind == 9) = false := by simp [hK]
     have m0 := blk_cell HAx.out 0; by_cases hin : 0 ≤ a ∧ a < S1.mem.length
     ·obtain ⟨j, rfl⟩ : ∃ j : Nat, a = j := ⟨a.toNat, by omega⟩
      have hj : j < S1.mem.length := by omega
      have HP := Lib.hid (show placeE S1.mem.length (j : Int) = .returned (.int .i64 (j : Int)) from if_pos hin)
      have HDo := Lib.hid (show Does B (.stmt s) S { S1 with mem := S1.mem.set j b } none by have h := HDD.out (by omega); rwa [show doV S1 s (j : Int) b = ({ S1 with mem := S1.mem.set j b }, none) by simp [doV, hK, hj]] at h)
      obtain ⟨gm, cm, rfl, xm, fm⟩ := HEv.out.mem.cell (nums_get hj); have HXM := Lib.hid xm; have HFM := Lib.hid fm; have hi0 : (0 : Int) ≤ (j : Int) := by omega
      have hi1 : (j : Int) < (S1.mem.length : Int) := by omega
      clear hin xm fm hK; go_wp2_with fail; refine (at_calls _ p base B S1 N V _ O I HEv.out _).mono ?_; rintro y w4 ⟨rfl, hw4⟩; obtain rfl := hw4.symm
      rw [HP.out]; have q1 : wr.cell? ⟨p, 2, none⟩ = some (.slice (some ⟨gm, 0, none⟩) S1.mem.length cm) := blk_cell HEv.out.blk 2
      have q2 : wr.cell? ⟨b4, 1, none⟩ = some (.int .i64 b) := blk_cell HAx.out 1
      have HQ3 := Lib.hid (show (wr.cell? ⟨gm, j, none⟩).isSome = true by rw [HXM.out]; rfl)
      have HQ4 := HFM; go_wp2; go_still_tail 9, (by kernel_rfl)
      refine wpList_store_any (by rfl) 2 _ _ (by rfl) gm j (by rfl) .i64 b (by rfl) (by kernel_rfl) HQ3.out HQ4.out ?_
      go_wp2; first | go_end0 | refine bodyPost_ret (results_none rfl _ _ _) rfl ?_
      have he := (HEv.out.drewN 1).setMem j b; have hk : Keep (fun q => q = gm) wr ((wr.drewN 1).setCell ⟨gm, j, none⟩ (.int .i64 b)) := Keep.set (O := fun q => q = gm) (Keep.drewN (Keep.refl _ wr) 1) (p := ⟨gm, j, none⟩) (.inl rfl) _
      exact ⟨_, none, HDo.out, ⟨_, _, _, _, _, he⟩, HFr.out.keep hk HBr.out.size (fun q h => by subst h; exact Nat.le_trans hbase (HEv.out.fm _ rfl)) (fun q cs e hq => own_noBox HEv.out.mem (by decide) q cs (by rw [e]; rfl) hq), rfl⟩
     ·have HP := Lib.hid (show placeE S1.mem.length a = ovr 3 a from if_neg hin)
      have HDo := Lib.hid (show Does B (.stmt s) S S1 (some (3, a)) by have h := HDD.out (by omega); rwa [show doV S1 s a b = (S1, some (3, a)) by simp [doV, hK, hin]] at h)
      clear hin hK; go_wp2_with fail; refine (at_calls _ p base B S1 N V M O I HEv.out _).mono ?_; rintro y w4 ⟨rfl, hw4⟩; obtain rfl := hw4.symm
      rw [HP.out]; exact ⟨rfl, S1, some (3, a), HDo.out, ⟨_, _, _, _, _, HEv.out⟩, HFr.out, rfl⟩
    ·have t1 : (s.kind == 1) = false := by simp [hK]
     have t2 : (s.kind == 2) = false := by simp [hK]
     have t3 : (s.kind == 3) = false := by simp [hK]
     have t4 : (s.kind == 4) = true := by simp [hK]
     have t5 : (s.kind == 5) = false := by simp [hK]
     have t6 : (s.kind == 6) = false := by simp [hK]
     have t7 : (s.kind == 7) = false := by simp [hK]
     have t8 : (s.kind == 8) = false := by simp [hK]
     have t9 : (s.kind == 9) = false := by simp [hK]
     have HDo := Lib.hid (show Does B (.stmt s) S { S1 with outs := S1.outs ++ [a] } (none) by have h := HDD.out (by omega); rwa [show doV S1 s a b = ({ S1 with outs := S1.outs ++ [a] }, none) by simp [doV, hK]] at h)
     have m0 := blk_cell HAx.out 0; have hne0 := World.new_ne wr _ m0; obtain ⟨AX, cX, hX, _⟩ := HEv.out.outs.slice; subst hX; have q1 : wr.cell? ⟨p, 3, none⟩ = some (.slice AX S1.outs.length cX) := blk_cell HEv.out.blk 3
     have n1 := fun o => (Below.al (Below.refl wr.heap.size wr) (o := o)).cellOf q1
     have n2 := fun o => (Below.al (Below.refl wr.heap.size wr) (o := o)).cellOf m0
     have HNB := Lib.hid (HEv.out.outs.ne HEv.out.blk (by decide))
     have HR := Lib.hid (HEv.out.outs.alloc (.cells #[.int .i64 a] 2)); have HL := Lib.hid (Row.laid (w := wr) (g := wr.heap.size) (n := 1) (cs := #[.int .i64 a]) (e := 2) (size := 1) rfl rfl (by decide))
     have HSZ2 := Lib.hid (show (S1.outs.length : Int) ≤ 1000000 by have := HSZ1.out.o; have := HTB1.out.1; omega)
     clear hK hne0; go_wp2_with fail; go_region_law (first | (refine step_append_rows (by rfl) _ _ 46 (by rfl) 2 (.int .i64 0) 1 8 Try.underlying46 info_i64 rfl (.slice AX S1.outs.length cX) _ _ (by rfl) (by first | exact HR.out | exact HR.out.drewed) (.slice (some ⟨wr.heap.size, 0, none⟩) 1 1) 1 [.int .i64 a] (by rfl) (by first | exact HL.out | exact HL.out.drewed) (by simp [Value.oneCell']) (by have := HSZ2.out; unfold maxLen; omega) (by have := HSZ2.out; omega) ?_; intro v' w' hrow' hgrow hown; obtain ⟨A', c', hv', hc'⟩ := hrow'.slice; subst hv'; have hbb := grown_blk hgrow (blk_alloc HEv.out.blk _) HNB.out; have fb := blk_cell hbb 3; have ff := blk_free hbb; simp only [mCells] at fb))
     all_goals
      clear q1 n1 n2 fb ff hbb m0 f0; have hfin := HEv.out.pushOut (Nat.le_trans HEv.out.hb (Nat.le_of_lt (blk_lt HEv.out.blk))) (grown_undrew hgrow) hrow' hown; go_wp2; first | go_end0 | refine bodyPost_ret (results_none rfl _ _ _) rfl ?_
      exact ⟨_, none, HDo.out, ⟨_, _, _, _, _, hfin.2⟩, HFr.out.keep hfin.1 HBr.out.size (fun q h => h.elim (fun e => by subst e; exact Nat.le_trans hbase HEv.out.hb) (fun e => Nat.le_trans hbase (HEv.out.fo q e))) (fun q cs h => h.elim (fun e => HEv.out.noBox q cs e) (fun e => own_noBox HEv.out.outs (by decide) q cs e)), rfl⟩
    ·have t1 : (s.kind == 1) = false := by simp [hK]
     have t2 : (s.kind == 2) = false := by simp [hK]
     have t3 : (s.kind == 3) = false := by simp [hK]
     have t4 : (s.kind == 4) = false := by simp [hK]
     have t5 : (s.kind == 5) = true := by simp [hK]
     have t6 : (s.kind == 6) = false := by simp [hK]
     have t7 : (s.kind == 7) = false := by simp [hK]
     have t8 : (s.kind == 8) = false := by simp [hK]
     have t9 : (s.kind == 9) = false := by simp [hK]
     have HDo := Lib.hid (show Does B (.stmt s) S { S1 with intos := S1.intos ++ [(s.cell, a)] } (none) by have h := HDD.out (by omega); rwa [show doV S1 s a b = ({ S1 with intos := S1.intos ++ [(s.cell, a)] }, none) by simp [doV, hK]] at h)
     have m0 := blk_cell HAx.out 0; have hne0 := World.new_ne wr _ m0; have f2 := blk_cell HXr.out 2; obtain ⟨AX, cX, hX, _⟩ := HEv.out.intos.slice; subst hX; have q1 : wr.cell? ⟨p, 4, none⟩ = some (.slice AX S1.intos.length cX) := blk_cell HEv.out.blk 4
     have n1 := fun o => (Below.al (Below.refl wr.heap.size wr) (o := o)).cellOf q1
     have n2 := fun o => (Below.al (Below.refl wr.heap.size wr) (o := o)).cellOf m0
     have n3 := fun o => (Below.al (Below.refl wr.heap.size wr) (o := o)).cellOf f2
     have HNB := Lib.hid (HEv.out.intos.ne HEv.out.blk (by decide))
     have HR := Lib.hid (HEv.out.intos.alloc (.cells #[.int .i64 s.cell, .int .i64 a] 98)); have HL := Lib.hid (Row.laid (w := wr) (g := wr.heap.size) (n := 1) (cs := #[.int .i64 s.cell, .int .i64 a]) (e := 98) (size := 2) rfl rfl (by decide))
     have HSZ2 := Lib.hid (show (S1.intos.length : Int) ≤ 1000000 by have := HSZ1.out.i; have := HTB1.out.1; omega)
     clear hK hne0; go_wp2_with fail; go_region_law (first | (refine step_append_rows (by rfl) _ _ 52 (by rfl) 98 (.agg #[.int .i64 0, .int .i64 0]) 2 16 Try.underlying52 info_into rfl (.slice AX S1.intos.length cX) _ _ (by rfl) (by first | exact HR.out | exact HR.out.drewed) (.slice (some ⟨wr.heap.size, 0, none⟩) 1 1) 1 [.int .i64 s.cell, .int .i64 a] (by rfl) (by first | exact HL.out | exact HL.out.drewed) (by simp [Value.oneCell']) (by have := HSZ2.out; unfold maxLen; omega) (by have := HSZ2.out; omega) ?_; intro v' w' hrow' hgrow hown; obtain ⟨A', c', hv', hc'⟩ := hrow'.slice; subst hv'; have hbb := grown_blk hgrow (blk_alloc HEv.out.blk _) HNB.out; have fb := blk_cell hbb 4; have ff := blk_free hbb; simp only [mCells] at fb))
     all_goals
      clear q1 n1 n2 fb ff hbb m0 f0; have hfin := HEv.out.pushInto (Nat.le_trans HEv.out.hb (Nat.le_of_lt (blk_lt HEv.out.blk))) (grown_undrew hgrow) hrow' hown; go_wp2; first | go_end0 | refine bodyPost_ret (results_none rfl _ _ _) rfl ?_
      exact ⟨_, none, HDo.out, ⟨_, _, _, _, _, hfin.2⟩, HFr.out.keep hfin.1 HBr.out.size (fun q h => h.elim (fun e => by subst e; exact Nat.le_trans hbase HEv.out.hb) (fun e => Nat.le_trans hbase (HEv.out.fi q e))) (fun q cs h => h.elim (fun e => HEv.out.noBox q cs e) (fun e => own_noBox HEv.out.intos (by decide) q cs e)), rfl⟩
    ·have t1 : (s.kind == 1) = false := by simp [hK]
     have t2 : (s.kind == 2) = false := by simp [hK]
     have t3 : (s.kind == 3) = false := by simp [hK]
     have t4 : (s.kind == 4) = false := by simp [hK]
     have t5 : (s.kind == 5) = false := by simp [hK]
     have t6 : (s.kind == 6) = true := by simp [hK]
     have t7 : (s.kind == 7) = false := by simp [hK]
     have t8 : (s.kind == 8) = false := by simp [hK]
     have t9 : (s.kind == 9) = false := by simp [hK]
     have HK6 := Lib.hid hK; have m0 := blk_cell HAx.out 0; clear hK; by_cases hz : a = 0
     ·have hz' : (a != 0) = false := by simp [hz]
      have HZ := Lib.hid hz; clear hz; have f5 := blk_cell HXr.out 5; go_wp2_with fail; refine (HBe.out S1 wr HSZ1.out HTB1.out.1 HTB1.out.2 HBr.out ⟨_, _, _, _, _, HEv.out⟩).mono ?_; rintro y w4 ⟨S4, o4, hd4, he4, hf4, rfl⟩; have HD4 := Lib.hid (HDe.out vs S4 o4 HK6.out HVV.out (by rw [HA0.out]; exact HZ.out) hd4)
      have HE4 := Lib.hid he4; have HF4 := Lib.hid (HFr.out.trans hf4); clear hd4 he4 hf4 f5
      cases o4 with
      | none =>
       simp only [leftE]
       go_wp2; first | go_end0 | refine bodyPost_ret (results_none rfl _ _ _) rfl ?_
       exact ⟨S4, none, HD4.out, HE4.out, HF4.out, rfl⟩
      | some x => exact ⟨rfl, S4, some x, HD4.out, HE4.out, HF4.out, rfl⟩
     ·have hz' : (a != 0) = true := by simp [hz]
      have HZ := Lib.hid hz; clear hz; have f4 := blk_cell HXr.out 4; go_wp2_with fail; refine (HBb.out HK6.out S1 wr HSZ1.out HTB1.out.1 HTB1.out.2 HBr.out ⟨_, _, _, _, _, HEv.out⟩).mono ?_; rintro y w4 ⟨S4, o4, hd4, he4, hf4, rfl⟩; have HD4 := Lib.hid (HDt.out vs S4 o4 HK6.out HVV.out (by rw [HA0.out]; exact HZ.out) hd4)
      have HE4 := Lib.hid he4; have HF4 := Lib.hid (HFr.out.trans hf4); clear hd4 he4 hf4 f4
      cases o4 with
      | none =>
       simp only [leftE]
       go_wp2; first | go_end0 | refine bodyPost_ret (results_none rfl _ _ _) rfl ?_
       exact ⟨S4, none, HD4.out, HE4.out, HF4.out, rfl⟩
      | some x => exact ⟨rfl, S4, some x, HD4.out, HE4.out, HF4.out, rfl⟩
    ·have t1 : (s.kind == 1) = false := by simp [hK]
     have t2 : (s.kind == 2) = false := by simp [hK]
     have t3 : (s.kind == 3) = false := by simp [hK]
     have t4 : (s.kind == 4) = false := by simp [hK]
     have t5 : (s.kind == 5) = false := by simp [hK]
     have t6 : (s.kind == 6) = false := by simp [hK]
     have t7 : (s.kind == 7) = false := by simp [hK]
     have t8 : (s.kind == 8) = true := by simp [hK]
     have t9 : (s.kind == 9) = false := by simp [hK]
     have HDo := Lib.hid (show Does B (.stmt s) S S1 (some (4, a)) by have h := HDD.out (by omega); rwa [show doV S1 s a b = (S1, some (4, a)) by simp [doV, hK]] at h)
     have m0 := blk_cell HAx.out 0; clear hK; go_wp2; exact ⟨rfl, S1, some (4, a), HDo.out, ⟨_, _, _, _, _, HEv.out⟩, HFr.out, rfl⟩
    ·have t1 : (s.kind == 1) = false := by simp [hK]
     have t2 : (s.kind == 2) = false := by simp [hK]
     have t3 : (s.kind == 3) = false := by simp [hK]
     have t4 : (s.kind == 4) = false := by simp [hK]
     have t5 : (s.kind == 5) = false := by simp [hK]
     have t6 : (s.kind == 6) = false := by simp [hK]
     have t7 : (s.kind == 7) = false := by simp [hK]
     have t8 : (s.kind == 8) = false := by simp [hK]
     have t9 : (s.kind == 9) = true := by simp [hK]
     have HDo := Lib.hid (show Does B (.stmt s) S S1 (some (1, 0)) by have h := HDD.out (by omega); rwa [show doV S1 s a b = (S1, some (1, 0)) by simp [doV, hK]] at h)
     clear hK; go_wp2; exact ⟨rfl, S1, some (1, 0), HDo.out, ⟨_, _, _, _, _, HEv.out⟩, HFr.out, rfl⟩
end Go.Proofs.Ytjlnpppjkdcpkaa.My
