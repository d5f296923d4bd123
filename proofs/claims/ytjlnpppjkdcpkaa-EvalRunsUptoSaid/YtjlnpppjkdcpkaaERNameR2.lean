/- Layer 6: the document's Go functions Block, one, Slots. Conditions: the tree was there in the world W, which is kept; it has at most 10^9 nodes. -/
import Derived.Test.YtjlnpppjkdcpkaaERNameR
import Derived.Deep.RegionHeld3
import Derived.StillTactics
namespace Go.Proofs.Ytjlnpppjkdcpkaa.My
open Go.RowKit Go.Maps
/-- where a row lies that was made of another one -/
def From (w : World) (v v' : Value) : Prop := v'.ownBlock = v.ownBlock ∨ ∀ g, v'.ownBlock = some g → w.heap.size ≤ g
theorem From.refl (w : World) (v : Value) : From w v v := .inl rfl
theorem From.trans {w w1 : World} {v v1 v2 : Value} (h : From w v v1) (k : From w1 v1 v2) (hs : w.heap.size ≤ w1.heap.size) : From w v v2 := by
 rcases k with k | k
 ·rcases h with h | h
  ·exact .inl (k.trans h)
  ·exact .inr fun g hg => h g (k ▸ hg)
 ·exact .inr fun g hg => Nat.le_trans hs (k g hg)
theorem From.keep {w w1 w2 : World} {v v1 : Value} (h : From w v v1) (K : Keep (fun k => v.ownBlock = some k) w w1) (K1 : Keep (fun k => v1.ownBlock = some k) w1 w2) : Keep (fun k => v.ownBlock = some k) w w2 :=
 K.trans K1 fun k hk e => by
  rcases h with h | h
  ·exact h ▸ e
  ·have := h k e; omega
/-- what a call hands back: the code; where it is 0 the rows and the most; it writes into its row of registers alone -/
def Told (w : World) (vo : Value) (r : Int × Sc) (x : Ending) (w' : World) : Prop :=
 ∃ v' vt' m', x = .returned (.tuple #[v', vt', .int .i64 m', .int .i64 r.1]) ∧ (r.1 = 0 → Row w' 3 1 v' r.2.out.length (r.2.out.map (.int .i64)) ∧ Row w' 9 1 vt' r.2.names.length (r.2.names.map .string) ∧ m' = r.2.most ∧ From w vo v') ∧
  Keep (fun k => vo.ownBlock = some k) w w'
/-- the rows of a state -/
structure Has (W w : World) (vt vo : Value) (S : Sc) : Prop where
 names : Row w 9 1 vt S.names.length (S.names.map .string)
 out : Row w 3 1 vo S.out.length (S.out.map (.int .i64))
 ok : S.names.length ≤ 8
 young : ∀ g, vo.ownBlock = some g → W.heap.size ≤ g
theorem Has.keep {W w w' : World} {vt vo : Value} {S : Sc} (h : Has W w vt vo S) (hB : Below w.heap.size w w') : Has W w' vt vo S :=
 ⟨h.names.keep fun g hg => hB.block g (h.names.lt hg), h.out.keep fun g hg => hB.block g (h.out.lt hg), h.ok, h.young⟩
def OneOK (W : World) (N : Nat) : Prop := ∀ (s : Stmt) (A0 : Option Addr) (c0 : Nat) (A1 : Option Addr) (c1 : Nat) (A2 : Option Addr) (c2 : Nat), s.nodes ≤ N → Expr.rds W s.args A0 0 → Stmt.rds W s.body A1 0 → Stmt.rds W s.els A2 0 → s.name.size ≤ maxLen →
  ∀ (S : Sc) (vt vo : Value) (w : World), S.out.length + s.nodes ≤ 1000000000 → Below W.heap.size W w → Has W w vt vo S →
  Calls Try.prog 71 #[s.val A0 c0 A1 c1 A2 c2, vt, .int .i64 S.cells, vo, .int .i64 S.most] w (Told w vo (stmtS S s))
set_option maxRecDepth 100000 in
theorem nblock_of (W : World) (N : Nat) (ih : OneOK W N) (l : List Stmt) (A : Option Addr) (c : Nat) (hN : Stmt.nodesL l ≤ N) (hrd : Stmt.rds W l A 0) (S : Sc) (vt vo : Value) (w : World) (hl : S.out.length + Stmt.nodesL l ≤ 1000000000) (hB : Below W.heap.size W w) (hS : Has W w vt vo S) :
  Calls Try.prog 50 #[.slice A l.length c, vt, .int .i64 S.cells, vo, .int .i64 S.most] w (Told w vo (stmtsS S l)) := by
 have hal := Stmt.nodesL_len l; go_enter Try.func50, Try.ntmps50
 go_wp2; go_loopw [1, 3, 4, 14] (fun t o m at_ wr => ∃ (k : Nat), at_ = .int .i64 (k : Int) ∧ k ≤ l.length ∧ Hid ((stmtsS S (l.take k)).1 = 0) ∧ Hid (Has W wr t o (stmtsS S (l.take k)).2) ∧ m = .int .i64 (stmtsS S (l.take k)).2.most ∧ Hid (From w vo o) ∧ Keep (fun k => vo.ownBlock = some k) w wr) (fun _ _ _ a _ => l.length - (intOf a).toNat)
 case atStart => exact ⟨0, rfl, Nat.zero_le _, Lib.hid (by simp [stmtsS]), Lib.hid (by simpa [stmtsS] using hS), by simp [stmtsS], Lib.hid (From.refl _ _), Keep.refl _ _⟩
 case round =>
  obtain ⟨k, rfl, hk, HZ, HS, rfl, HF, HK⟩ := hrel; have HB : Below W.heap.size w wr := HK.toBelow hB.size hS.young
  by_cases hlt : k < l.length
  ·have hsz := Stmt.nodesL_take l k hlt
   have hln := stmtsS_len S (l.take k); obtain ⟨b, o, A0, c0, A2, c2, A3, c3, rfl, hbW, g0, g1, g2, g3, g4, g5, e0, e1, e2, hs', r0, r1, r2⟩ := Stmt.at hrd (hB.trans HB) hlt; have hlt' : ((k : Int) < (l.length : Int)) := by omega
   have hsn := stmtsS_snoc S (l.take k) l[k]; rw [List.take_append_getElem hlt, if_pos HZ.out] at hsn; have hI := ih l[k] A0 c0 A2 c2 A3 c3 (by omega) r0 r1 r2 hs' (stmtsS S (l.take k)).2 _ _ wr (by omega) (hB.trans HB) HS.out
   rw [stmtsS_cells] at hI; obtain ⟨r, hr⟩ : ∃ r, stmtS (stmtsS S (l.take k)).2 l[k] = r := ⟨_, rfl⟩
   have hok := stmtS_le8 HS.out.ok l[k]; rw [hr] at hsn hI hok; unfold Stmt.val at hI
   have HI := Lib.hid hI; have HR := Lib.hid hsn; clear hsn hI hr; by_cases hz : r.1 = 0
   ·have hz' : (r.1 == 0) = true := by simp [hz]
    go_wp2_with (go_at_call 71; go_must (refine HI.out.mono ?_); rintro x w' ⟨v1, vt1, m1, rfl, hw, hb⟩)
    obtain ⟨q1, q2, rfl, q4⟩ := hw hz; have hF := HF.out.trans q4 HK.size; have hH : Has W w' vt1 v1 r.2 := ⟨q2, q1, hok, fun g hg => hF.elim (fun h => hS.young g (h ▸ hg)) fun h => Nat.le_trans hB.size (h g hg)⟩
    go_roundw
    case rel => exact ⟨k + 1, by go_num, by omega, Lib.hid (by rw [HR.out]; exact hz), Lib.hid (by rw [HR.out]; exact hH), by rw [HR.out], Lib.hid hF, HF.out.keep HK hb⟩
    case measure => simp [intOf]; omega
   ·have hz' : (r.1 == 0) = false := by simp [hz]
    have hst := stmtsS_stop S l (k + 1) (by rw [HR.out]; exact hz)
    rw [HR.out] at hst; have HT := Lib.hid hst; clear hst; go_wp2_with (go_at_call 71; go_must (refine HI.out.mono ?_); rintro x w' ⟨v1, vt1, m1, rfl, hw, hb⟩)
    try simp only [Exit.inBlock, Exit.then]
    refine bodyPost_ret (results_tmp4 rfl _ _ _) rfl ?_; rw [HT.out]; exact ⟨_, _, _, rfl, fun h => absurd h hz, HF.out.keep HK hb⟩
  ·go_wp2
   have hk' : k = l.length := by omega
   subst hk'; have hz := HZ.out; have hq := HS.out; rw [List.take_length] at hz hq ⊢; try simp only [Exit.inBlock, Exit.then]
   refine bodyPost_ret (results_tmp4 rfl _ _ _) rfl ?_; exact ⟨_, _, _, by rw [hz]; rfl, fun _ => ⟨hq.out, hq.names, rfl, HF.out⟩, HK⟩
theorem Row.apart {w : World} {e e' : TypeId} {size size' n n' g : Nat} {v v' : Value} {xs xs' : List Value} (h : Row w e size v n xs) (h' : Row w e' size' v' n' xs') (hne : e ≠ e') (hg : v.ownBlock = some g) (hg' : v'.ownBlock = some g) : False := by
 rcases h.2 with ⟨rfl, _⟩ | ⟨g1, cap, cur, rfl, hc, _⟩
 ·simp [Value.ownBlock] at hg
 ·simp [Value.ownBlock] at hg; subst hg; exact h'.ne hc (Ne.symm hne) hg'
theorem Row.past {w w1 : World} {e e' : TypeId} {size size' n n' : Nat} {v v' : Value} {xs xs' : List Value} {o : Obj} (h : Row w e size v n xs) (h' : Row w e' size' v' n' xs') (hne : e ≠ e') (hg : (w.alloc o).grownBy w1 v'.ownBlock) : Row w1 e size v n xs :=
 h.keep fun g hk => (hg.block g (Nat.lt_of_lt_of_le (h.lt hk) (World.grownBy_alloc w o none).size) fun he => Row.apart h h' hne hk he.symm).trans (Below.heap_alloc w o g (h.lt hk))
theorem blk_past {w w1 : World} {e' t : TypeId} {size' n' g : Nat} {v' : Value} {xs' : List Value} {cs : Array Value} {fr : Nat × Nat} {o : Obj} (h : w.heap[g]? = some (.cells cs t fr)) (h' : Row w e' size' v' n' xs') (hne : e' ≠ t) (hg : (w.alloc o).grownBy w1 v'.ownBlock) : w1.heap[g]? = some (.cells cs t fr) :=
 (hg.block g (Nat.lt_of_lt_of_le (blk_lt h) (World.grownBy_alloc w o none).size) (Ne.symm (h'.ne h hne))).trans (blk_alloc h o)
theorem from_append {w : World} {o : Obj} {v v' : Value} (h : v'.ownBlock = v.ownBlock ∨ v'.ownBlock = some (w.alloc o).heap.size) : From w v v' :=
 h.imp id fun h g hg => by rw [hg] at h; have h := Option.some.inj h; have := (World.grownBy_alloc w o none).size; omega
theorem regOf_nonneg {names : List ByteArray} {x : ByteArray} {r : Int} (h : regOf names x = some r) : 0 ≤ r ∧ r < 3 + (names.length : Int) := by
 unfold regOf at h; split at h
 ·cases h; omega
 ·split at h
  ·cases h; omega
  ·split at h
   ·cases h; omega
   ·obtain ⟨j, hj, rfl⟩ := Option.map_eq_some_iff.1 h
    have := idx_lt hj
    omega
theorem regs_step {names l : List ByteArray} {k : Nat} {rs : List Int} {r : Int} (hlt : k < l.length) (h : regs names (l.take k) = some rs) (hr : regOf names l[k] = some r) : regs names (l.take (k + 1)) = some (rs ++ [r]) := by
 rw [← List.take_append_getElem hlt, regs_append, h]; simp [regs, hr]
theorem regs_stop {names l : List ByteArray} {k : Nat} (hlt : k < l.length) (hr : regOf names l[k] = none) : regs names l = none := by
 rw [← List.take_append_drop k l, List.drop_eq_getElem_cons hlt, regs_append]; simp [regs, hr]
theorem s23 {w w' : World} {b : Nat} {cs : Array Value} {t : TypeId} (hb : w.heap[b]? = some (.cells cs t (0, 0))) (hB : Below w.heap.size w w') : w'.cell? ⟨b, 1, none⟩ = cs[1]? ∧ Below w.heap.size w w' :=
 ⟨blk_cell (below_blk hB hb (blk_lt hb)) 1, hB⟩
theorem g2 (w : World) (o : Obj) (x : ByteArray) : Row ((w.alloc o).alloc (.cells #[.string x] 9)).drew 9 1 (.slice (some ⟨w.heap.size + 1, 0, none⟩) 1 1) 1 [.string x] ∧ Row ((w.alloc (.cells #[.string x] 9)).alloc o).drew 9 1 (.slice (some ⟨w.heap.size, 0, none⟩) 1 1) 1 [.string x] :=
 ⟨(Row.laid (cs := #[.string x]) (by simp) rfl (by decide)).drewed, ((Row.laid (cs := #[.string x]) rfl rfl (by decide)).alloc o).drewed⟩
theorem g3 {w w' : World} {e : TypeId} {size n : Nat} {v : Value} {xs : List Value} {o : Option Nat} (hg : w.grownBy w' o) (h : Row w e size v n xs) (hne : v.ownBlock ≠ o) : Row w' e size v n xs :=
 h.keep fun g hk => hg.block g (h.lt hk) fun e => hne (hk.trans e)
theorem one_grown {W w w1 w3 w5 : World} {vo u3 v3 v5 : Value} {S : Sc} {rs : List Int} {x : ByteArray} {r m : Int} {o : Obj} (hB : Below W.heap.size W w) (K : Keep (fun k => vo.ownBlock = some k) w w1) (F : From w vo u3) (hy : ∀ g, vo.ownBlock = some g → W.heap.size ≤ g) (hr3 : Row w3 3 1 v3 ((S.out ++ rs).length + 1) ((S.out ++ rs).map (.int .i64) ++ [.int .i64 r])) (hg3 : (w1.alloc o).grownBy w3 u3.ownBlock) (hn3 : v3.ownBlock = u3.ownBlock ∨ v3.ownBlock = some (w1.alloc o).heap.size) (hr5 : Row w5 9 1 v5 (S.names.length + 1) (S.names.map .string ++ [.string x])) (hX5 : Below w3.heap.size w3 w5) (h8 : S.names.length ≤ 8) (hl : ¬ S.names.length = 8) :
  Has W w5 v5 v3 ⟨S.names ++ [x], S.out ++ rs ++ [r], m, S.cells⟩ ∧ Keep (fun k => vo.ownBlock = some k) w w5 ∧ From w vo v3 := by
 have F3 := F.trans (from_append hn3) K.size; have K3 := F.keep K (((Keep.refl _ _).alloc o).grown hg3 fun k hk => .inl hk)
 refine ⟨⟨?_, ?_, ?_, ?_⟩, K3.below hX5, F3⟩
 ·simpa using hr5
 ·have h := hr3.keep fun g hg => hX5.block g (hr3.lt hg)
  rw [List.length_append, List.map_append]; exact h
 ·simp; omega
 ·intro g hg
  rcases F3 with h | h
  ·exact hy g (h ▸ hg)
  ·exact Nat.le_trans hB.size (h g hg)
theorem declare_new {S : Sc} {out : List Int} {x : ByteArray} (h : regOf S.names x = none) (h8 : ¬ S.names.length = 8) : declare { S with out := out } x = (0, ⟨S.names ++ [x], out ++ [3 + (S.names.length : Int)], if S.most < (S.names.length : Int) + 1 then (S.names.length : Int) + 1 else S.most, S.cells⟩) := by
 unfold declare; rw [h, if_neg (by simp), if_neg h8]
 unfold look; simp only [← regOf_put h, putF, if_pos]
theorem has_next {W w w2 : World} {vt o v2 : Value} {S S2 : Sc} {n : List ByteArray} {c : Int} (h : Has W w vt o S) (K : Keep (fun k => o.ownBlock = some k) w w2) (p1 : Row w2 3 1 v2 S2.out.length (S2.out.map (.int .i64))) (p4 : From w o v2) (hn : n = S.names) (hW : W.heap.size ≤ w.heap.size) : Has W w2 vt v2 ⟨n, S2.out, S2.most, c⟩ := by
 subst hn; exact ⟨h.names.keep fun g hg => K.block g (h.names.lt hg) fun e => Row.apart h.names h.out (by decide) hg e, p1, h.ok, fun g hg => p4.elim (fun e => h.young g (e ▸ hg)) fun e => Nat.le_trans hW (e g hg)⟩
set_option maxRecDepth 100000 in
set_option maxHeartbeats 2000000 in
theorem none_calls (W : World) (N : Nat) : OneOK W N := by
 induction N with
 | zero => intro s A0 c0 A1 c1 A2 c2 hN; have := s.nodes_eq; omega
 | succ N ih =>
  intro s A0 c0 A1 c1 A2 c2 hN hrd hrd1 hrd2 hs S vt vo w hl hB hS; have hne := s.nodes_eq; have hal := Expr.nodesL_len s.args; have HX := Lib.hid (stmtS_uses S s); have h8 := hS.ok; have hu : s.uses.length ≤ Expr.nodesL s.args + 1 := by
   unfold Stmt.uses; have := Expr.namesL_len s.args; rw [List.length_append]; split <;> simp <;> omega
  unfold Stmt.val
  go_enter Try.func71, Try.ntmps71
  go_wp2; have HBX := Lib.hid (blk_new w (.cells #[.int .i64 s.kind, .string s.name, .int .i64 s.cell, .slice A0 s.args.length c0, .slice A1 s.body.length c1, .slice A2 s.els.length c2] 36)); go_loopw [14, 15] (fun v at_ wr => ∃ (k : Nat), at_ = .int .i64 (k : Int) ∧ k ≤ s.args.length ∧ Hid (Row wr 9 1 v (Expr.namesL (s.args.take k)).length ((Expr.namesL (s.args.take k)).map .string)) ∧ Hid (∀ g, v.ownBlock = some g → w.heap.size ≤ g) ∧ Below w.heap.size w wr ∧ Hid (wr.heap[w.heap.size]? = some (.cells #[.int .i64 s.kind, .string s.name, .int .i64 s.cell, .slice A0 s.args.length c0, .slice A1 s.body.length c1, .slice A2 s.els.length c2] 36 (0, 0)))) (fun _ a _ => s.args.length - (intOf a).toNat)
  case atStart => exact ⟨0, rfl, Nat.zero_le _, Row.nil _ _ _, fun g hg => by simp [Value.ownBlock] at hg, (Below.refl _ _).alloc (Nat.le_refl _) _, HBX⟩
  case round =>
   obtain ⟨k, rfl, hk, HR, HO, HB, HBk⟩ := hrel; clear HBX; have b3 := blk_cell HBk.out 3; by_cases hlt : k < s.args.length
   ·have hsz := Expr.nodesL_take s.args k hlt
    have hln := Expr.namesL_len (s.args.take k); have hl1 := Expr.names_len s.args[k]; obtain ⟨b, o, A', c', rfl, hbW, g0, g1, g2, g3, g4, hc', hs', hrd'⟩ := Expr.at hrd (hB.trans (HB.mono hB.size)) hlt; have hlt' : ((k : Int) < (s.args.length : Int)) := by omega
    have hI := names_calls W _ s.args[k] A' c' (Nat.le_refl _) hrd' (by omega) wr (hB.trans (HB.mono hB.size))
    unfold Expr.val at hI
    have HS := Lib.hid (Expr.namesL_snoc s.args k hlt); go_wp2_with (first
     | (at_builtin; go_must (refine wpList_append_rows _ rfl _ _ 78 rfl 9 (.string ⟨#[]⟩) 1 16 Try.underlying78 info_strings rfl u14 _ _ rfl (HR.out.keep fun g hg => hb2.block g (HR.out.lt hg)) v2 _ _ rfl hr2 (row_oneS _) (by unfold maxLen; omega) (by omega) ?_); intro v3 w2 hr3 hg3 hn3)
     | (go_at_call 88; go_must (refine hI.mono ?_); rintro x w1 ⟨v2, rfl, hr2, ho2, hb2⟩))
    go_roundw
    case rel =>
     have hlt2 := blk_lt HBk.out; have hvn : u14.ownBlock ≠ some w.heap.size := HR.out.ne HBk.out (by decide)
     refine ⟨k + 1, by go_num, by omega, ?_, ?_, ?_, ?_⟩
     ·rw [HS.out]
      refine Lib.hid ?_; rw [List.length_append, List.map_append]; exact hr3
     ·refine Lib.hid fun g hg => ?_
      rcases hn3 with h | h
      ·exact HO.out g (h ▸ hg)
      ·rw [hg] at h; have h := Option.some.inj h; have := hb2.size; have := HB.size; omega
     ·have K1 : Keep (fun _ => False) w wr := ⟨HB.os, HB.tape, HB.output, HB.size, fun k hk _ => HB.block k hk⟩
      have K2 := (K1.below hb2).grown hg3 fun g hg => .inr (HO.out g hg)
      exact K2.toBelow (Nat.le_refl _) (fun _ h => h.elim)
     ·exact Lib.hid ((hg3.block _ (Nat.lt_of_lt_of_le hlt2 hb2.size) (Ne.symm hvn)).trans (below_blk hb2 HBk.out hlt2))
    case measure => simp [intOf]; omega
   ·have hk' : k = s.args.length := by omega
    subst hk'; have hq := HR.out; rw [List.take_length] at hq; clear HR; have b0 := blk_cell HBk.out 0; have b1 := blk_cell HBk.out 1; by_cases k2 : s.kind = 2
    ·have k2' : (s.kind == 2) = true := by simp [k2]
     go_wp2_with (at_builtin; go_must (refine wpList_append_row _ rfl _ _ 78 rfl 9 (.string ⟨#[]⟩) 1 16 Try.underlying78 info_string rfl u14 _ _ rfl (hq.keep fun g hg => Below.heap_alloc wr _ g (hq.lt hg)) ⟨wr.heap.size, 0, none⟩ 1 1 [.string s.name] rfl rfl (cell_one_new _ _ _) (by simp [Value.oneCell']) (by decide) (by unfold maxLen; have := Expr.namesL_len s.args; omega) (by have := Expr.namesL_len s.args; omega) ?_); intro v' w2 hr2 hg2 hn2)
     have HBq : Below w.heap.size w w2 := by
      have K1 : Keep (fun _ => False) w wr := ⟨HB.os, HB.tape, HB.output, HB.size, fun k hk _ => HB.block k hk⟩
      exact ((K1.alloc _).grown hg2 fun g hg => .inr (HO.out g hg)).toBelow (Nat.le_refl _) (fun _ h => h.elim)
     have hxq := (hg2.block _ (Nat.lt_of_lt_of_le (blk_lt HBk.out) (World.grownBy_alloc _ _ none).size) (Ne.symm (hq.ne HBk.out (by decide)))).trans (blk_alloc HBk.out _)
     have HXq := Lib.hid hxq; have HQ := Lib.hid (show Row w2 9 1 v' s.uses.length (s.uses.map .string) by unfold Stmt.uses; rw [if_pos k2, List.length_append, List.map_append]; exact hr2)
     clear hxq hr2 HO HBk; have HVt := Lib.hid (hS.keep HBq).names; have HVo := Lib.hid (hS.keep HBq).out; have HKq : Keep (fun k => vo.ownBlock = some k) w w2 := ⟨HBq.os, HBq.tape, HBq.output, HBq.size, fun k hk _ => HBq.block k hk⟩
     go_loopw [3, 16] (fun o at_ wl => ∃ (k : Nat) (rs : List Int), at_ = .int .i64 (k : Int) ∧ k ≤ s.uses.length ∧ Hid (regs S.names (s.uses.take k) = some rs) ∧ Hid (Row wl 3 1 o (S.out ++ rs).length ((S.out ++ rs).map (.int .i64))) ∧ Hid (From w vo o) ∧ Hid (Keep (fun k => vo.ownBlock = some k) w wl) ∧ Hid (Row wl 9 1 v' s.uses.length (s.uses.map .string)) ∧ Hid (Row wl 9 1 vt S.names.length (S.names.map .string)) ∧ Hid (wl.heap[w.heap.size]? = some (.cells #[.int .i64 s.kind, .string s.name, .int .i64 s.cell, .slice A0 s.args.length c0, .slice A1 s.body.length c1, .slice A2 s.els.length c2] 36 (0, 0)))) (fun _ a _ => s.uses.length - (intOf a).toNat)
     case atStart => exact ⟨0, [], rfl, Nat.zero_le _, Lib.hid rfl, Lib.hid (by simpa using HVo.out), Lib.hid (From.refl _ _), Lib.hid HKq, HQ, HVt, HXq⟩
     case round =>
      obtain ⟨k, rs, rfl, hk, HG, HRo, HFl, HKl, HU, HV, HXl⟩ := hrel; have HFl := HFl.out; have HKl := HKl.out; have hrl := regs_len HG.out; rw [List.length_take] at hrl; by_cases hlt : k < s.uses.length
      ·obtain ⟨g, cu, hv, hcell, _⟩ := HU.out.cell (j := k) (u := .string s.uses[k]) (by simp [hlt])
       subst hv; have hI := nfind_calls S.names s.uses[k] vt _ (by omega) HV.out
       have hlt' : ((k : Int) < (s.uses.length : Int)) := by omega
       cases hreg : regOf S.names s.uses[k] with
       | none =>
        have hfd : findP S.names s.uses[k] = -1 := by unfold findP; rw [hreg]; rfl
        rw [hfd] at hI; have h60 := regs_stop hlt hreg; have hlk := lookL_regs S s.uses; rw [h60] at hlk; have hx := HX.out; rw [hlk, if_neg (by decide)] at hx
        have HI := Lib.hid hI; have HT := Lib.hid (show (stmtS S s).1 = 60 by rw [hx]; exact hlk)
        clear hI hfd h60 hlk hx hreg; go_wp2_with (go_at_call 89; go_must (refine HI.out.mono ?_); rintro x w1 ⟨rfl, rfl⟩)
        try simp only [Exit.inBlock, Exit.then]
        refine bodyPost_ret (results_tmp4 rfl _ _ _) rfl ?_; exact ⟨_, _, _, by rw [HT.out]; rfl, fun h => absurd (HT.out.symm.trans h) (by decide), HKl⟩
       | some r =>
        have hfd : findP S.names s.uses[k] = r := by unfold findP; rw [hreg]; rfl
        have hr0 := regOf_nonneg hreg; rw [hfd] at hI; have HI := Lib.hid hI; have HG' := Lib.hid (regs_step hlt HG.out hreg); clear hI hfd hreg; have hr0' : ¬ (r < 0) := by omega
        go_wp2_with (first
         | (at_builtin; go_must (refine wpList_append_row _ rfl _ _ 68 rfl 3 (.int .i64 0) 1 8 Try.underlying68 info_int rfl u3 _ _ rfl (HRo.out.keep fun g hg => Below.heap_alloc _ _ g (HRo.out.lt hg)) ⟨_, 0, none⟩ 1 1 [.int .i64 r] rfl rfl (cell_one_new _ _ _) (by simp [Value.oneCell']) (by decide) (by simp; unfold maxLen; omega) (by simp; omega) ?_); intro v3 w3 hr3 hg3 hn3)
         | (go_at_call 89; go_must (refine HI.out.mono ?_); rintro x w1 ⟨rfl, rfl⟩))
        go_roundw
        case rel =>
         refine ⟨k + 1, rs ++ [r], by go_num, by omega, HG', ?_, ?_, ?_, ?_, ?_, ?_⟩
         ·refine Lib.hid ?_
          rw [← List.append_assoc, List.length_append, List.map_append]; exact hr3
         ·exact Lib.hid (HFl.trans (from_append hn3) HKl.size)
         ·exact Lib.hid (HFl.keep HKl (((Keep.refl _ _).alloc _).grown hg3 fun k hk => .inl hk))
         ·exact Lib.hid (HU.out.past HRo.out (by decide) hg3)
         ·exact Lib.hid (HV.out.past HRo.out (by decide) hg3)
         ·exact Lib.hid (blk_past HXl.out HRo.out (by decide) hg3)
        case measure => simp [intOf]; omega
      ·have hk' : k = s.uses.length := by omega
       subst hk'; have hg := HG.out; rw [List.take_length] at hg; have hlk := lookL_regs S s.uses; rw [hg] at hlk; have hR := HX.out; rw [hlk] at hR; simp only [if_true] at hR
       have hrl' : rs.length = s.uses.length := regs_len hg
       clear HX HG hlk hg; obtain ⟨Au, cu, hvu, _⟩ := HU.out.slice; subst hvu; have hH1 : Has W _ vt u3 { S with out := S.out ++ rs } := ⟨HV.out, HRo.out, hS.ok, fun g hg => HFl.elim (fun h => hS.young g (h ▸ hg)) fun h => Nat.le_trans hB.size (h g hg)⟩
       have hcl : ({ S with out := S.out ++ rs } : Sc).cells = S.cells := rfl
       have hol : ({ S with out := S.out ++ rs } : Sc).out.length = S.out.length + rs.length := by simp
       have b0 := blk_cell HXl.out 0; have b1 := blk_cell HXl.out 1; have b2 := blk_cell HXl.out 2; have k5' : (s.kind == 5) = false := by simp [k2]
       have k1' : (s.kind == 1) = false := by simp [k2]
       have hre : restS { S with out := S.out ++ rs } s = if (blockS { S with out := S.out ++ rs } s.body).1 = 0 then blockS (blockS { S with out := S.out ++ rs } s.body).2 s.els else blockS { S with out := S.out ++ rs } s.body := by
        unfold restS; rw [if_neg (by rw [k2]; simp)]
        simp only [k2, show ¬ ((2 : Int) = 1) by decide, if_false, if_true]
       rw [hre] at hR; clear hre; have hBl : Below W.heap.size W _ := hB.trans (HKl.toBelow hB.size hS.young)
       have b4 := blk_cell HXl.out 4; obtain ⟨q, hq⟩ : ∃ q, stmtsS { S with out := S.out ++ rs } s.body = q := ⟨_, rfl⟩
       have hbq : blockS { S with out := S.out ++ rs } s.body = (q.1, { q.2 with names := q.2.names.take ({ S with out := S.out ++ rs }).names.length }) := by rw [blockS, hq]
       have hbn := blockS_same { S with out := S.out ++ rs } s.body
       have hbc := blockS_cells { S with out := S.out ++ rs } s.body
       have hqln := stmtsS_len { S with out := S.out ++ rs } s.body
       rw [hbq] at hbn hbc; have hS2 : ({ q.2 with names := q.2.names.take ({ S with out := S.out ++ rs }).names.length } : Sc) = ⟨S.names, q.2.out, q.2.most, S.cells⟩ := by rw [Sc.mk.injEq]; exact ⟨hbn, rfl, rfl, hbc.trans hcl⟩
       rw [hbq, hS2] at hR; rw [hq] at hqln; have C1 := nblock_of W N ih s.body A1 c1 (by omega) hrd1 { S with out := S.out ++ rs } vt u3 _ (by omega) hBl hH1
       rw [hq, hcl] at C1; have C1 := Lib.hid C1; clear hq hbq hS2 hbn hbc; dsimp only at hR; by_cases hz : q.1 = 0
       ·have hz' : (q.1 == 0) = true := by simp [hz]
        rw [if_pos hz] at hR; have HR' := Lib.hid hR; clear hR; have C2 := Lib.hid (show ∀ w2 v2, Below W.heap.size W w2 → Has W w2 vt v2 ⟨S.names, q.2.out, q.2.most, S.cells⟩ → Calls Try.prog 50 #[.slice A2 s.els.length c2, vt, .int .i64 S.cells, v2, .int .i64 q.2.most] w2 (Told w2 v2 (stmtsS ⟨S.names, q.2.out, q.2.most, S.cells⟩ s.els)) from fun w2 v2 h1 h2 =>
         nblock_of W N ih s.els A2 c2 (by omega) hrd2 ⟨S.names, q.2.out, q.2.most, S.cells⟩ vt v2 w2 (by show q.2.out.length + _ ≤ _; omega) h1 h2)
        go_wp2_with (first
         | (go_at_call 50; refine (C2.out _ _ hB2 hH2).mono ?_; rintro x3 w3 ⟨v3, vt3, m3, rfl, hw3, hb3⟩)
         | (go_at_call 50; go_must (refine C1.out.mono ?_); rintro x2 w2 ⟨v2, vt2, m2, rfl, hw2, hb2⟩; obtain ⟨p1, p2, rfl, p4⟩ := hw2 hz; have hB2 : Below W.heap.size W w2 := hBl.trans (hb2.toBelow hBl.size hH1.young); have hbx2 := hb2.blk HXl.out (hH1.out.ne HXl.out (by decide)); have b5 := blk_cell hbx2 5; have hH2 : Has W w2 vt v2 ⟨S.names, q.2.out, q.2.most, S.cells⟩ := has_next hH1 hb2 p1 p4 rfl hBl.size))
        try simp only [Exit.inBlock, Exit.then]
        refine bodyPost_ret (results_tmp4 rfl _ _ _) rfl ?_; have hbs := blockS_same ⟨S.names, q.2.out, q.2.most, S.cells⟩ s.els; have hbe : blockS ⟨S.names, q.2.out, q.2.most, S.cells⟩ s.els = ((stmtsS ⟨S.names, q.2.out, q.2.most, S.cells⟩ s.els).1, { (stmtsS ⟨S.names, q.2.out, q.2.most, S.cells⟩ s.els).2 with names := (stmtsS ⟨S.names, q.2.out, q.2.most, S.cells⟩ s.els).2.names.take (⟨S.names, q.2.out, q.2.most, S.cells⟩ : Sc).names.length }) := by rw [blockS]
        rw [hbe] at hbs; rw [HR'.out, hbe]; dsimp only at hbs ⊢
        have hF2 := HFl.trans p4 HKl.size; have hK2 := HFl.keep HKl hb2; refine ⟨_, _, _, rfl, fun h => ?_, hF2.keep hK2 hb3⟩
        obtain ⟨k1, k2, k3, k4⟩ := hw3 h; refine ⟨k1, ?_, k3, hF2.trans k4 hK2.size⟩
        dsimp only
        rw [hbs]; exact hH2.names.keep fun g hg => hb3.block g (hH2.names.lt hg) fun e => Row.apart hH2.names p1 (by decide) hg e
       ·have hz' : (q.1 == 0) = false := by simp [hz]
        rw [if_neg hz] at hR; have HR' := Lib.hid hR; clear hR; go_wp2_with (go_at_call 50; go_must (refine C1.out.mono ?_); rintro x2 w2 ⟨v2, vt2, m2, rfl, hw2, hb2⟩)
        try simp only [Exit.inBlock, Exit.then]
        refine bodyPost_ret (results_tmp4 rfl _ _ _) rfl ?_; rw [HR'.out]; exact ⟨_, _, _, rfl, fun h => absurd h hz, HFl.keep HKl hb2⟩
    ·have k2' : (s.kind == 2) = false := by simp [k2]
     go_wp2; have HBq := HB; have HXq := HBk; have HQ := Lib.hid (show Row wr 9 1 u14 s.uses.length (s.uses.map .string) by unfold Stmt.uses; rw [if_neg k2, List.append_nil]; exact hq)
     have HVt := Lib.hid (hS.keep HBq).names; have HVo := Lib.hid (hS.keep HBq).out; have HKq : Keep (fun k => vo.ownBlock = some k) w wr := ⟨HBq.os, HBq.tape, HBq.output, HBq.size, fun k hk _ => HBq.block k hk⟩
     go_loopw [3, 16] (fun o at_ wl => ∃ (k : Nat) (rs : List Int), at_ = .int .i64 (k : Int) ∧ k ≤ s.uses.length ∧ Hid (regs S.names (s.uses.take k) = some rs) ∧ Hid (Row wl 3 1 o (S.out ++ rs).length ((S.out ++ rs).map (.int .i64))) ∧ Hid (From w vo o) ∧ Hid (Keep (fun k => vo.ownBlock = some k) w wl) ∧ Hid (Row wl 9 1 u14 s.uses.length (s.uses.map .string)) ∧ Hid (Row wl 9 1 vt S.names.length (S.names.map .string)) ∧ Hid (wl.heap[w.heap.size]? = some (.cells #[.int .i64 s.kind, .string s.name, .int .i64 s.cell, .slice A0 s.args.length c0, .slice A1 s.body.length c1, .slice A2 s.els.length c2] 36 (0, 0)))) (fun _ a _ => s.uses.length - (intOf a).toNat)
     case atStart => exact ⟨0, [], rfl, Nat.zero_le _, Lib.hid rfl, Lib.hid (by simpa using HVo.out), Lib.hid (From.refl _ _), Lib.hid HKq, HQ, HVt, HXq⟩
     case round =>
      obtain ⟨k, rs, rfl, hk, HG, HRo, HFl, HKl, HU, HV, HXl⟩ := hrel; have HFl := HFl.out; have HKl := HKl.out; have hrl := regs_len HG.out; rw [List.length_take] at hrl; by_cases hlt : k < s.uses.length
      ·obtain ⟨g, cu, hv, hcell, _⟩ := HU.out.cell (j := k) (u := .string s.uses[k]) (by simp [hlt])
       subst hv; have hI := nfind_calls S.names s.uses[k] vt _ (by omega) HV.out
       have hlt' : ((k : Int) < (s.uses.length : Int)) := by omega
       cases hreg : regOf S.names s.uses[k] with
       | none =>
        have hfd : findP S.names s.uses[k] = -1 := by unfold findP; rw [hreg]; rfl
        rw [hfd] at hI; have h60 := regs_stop hlt hreg; have hlk := lookL_regs S s.uses; rw [h60] at hlk; have hx := HX.out; rw [hlk, if_neg (by decide)] at hx
        have HI := Lib.hid hI; have HT := Lib.hid (show (stmtS S s).1 = 60 by rw [hx]; exact hlk)
        clear hI hfd h60 hlk hx hreg; go_wp2_with (go_at_call 89; go_must (refine HI.out.mono ?_); rintro x w1 ⟨rfl, rfl⟩)
        try simp only [Exit.inBlock, Exit.then]
        refine bodyPost_ret (results_tmp4 rfl _ _ _) rfl ?_; exact ⟨_, _, _, by rw [HT.out]; rfl, fun h => absurd (HT.out.symm.trans h) (by decide), HKl⟩
       | some r =>
        have hfd : findP S.names s.uses[k] = r := by unfold findP; rw [hreg]; rfl
        have hr0 := regOf_nonneg hreg; rw [hfd] at hI; have HI := Lib.hid hI; have HG' := Lib.hid (regs_step hlt HG.out hreg); clear hI hfd hreg; have hr0' : ¬ (r < 0) := by omega
        go_wp2_with (first
         | (at_builtin; go_must (refine wpList_append_row _ rfl _ _ 68 rfl 3 (.int .i64 0) 1 8 Try.underlying68 info_int rfl u3 _ _ rfl (HRo.out.keep fun g hg => Below.heap_alloc _ _ g (HRo.out.lt hg)) ⟨_, 0, none⟩ 1 1 [.int .i64 r] rfl rfl (cell_one_new _ _ _) (by simp [Value.oneCell']) (by decide) (by simp; unfold maxLen; omega) (by simp; omega) ?_); intro v3 w3 hr3 hg3 hn3)
         | (go_at_call 89; go_must (refine HI.out.mono ?_); rintro x w1 ⟨rfl, rfl⟩))
        go_roundw
        case rel =>
         refine ⟨k + 1, rs ++ [r], by go_num, by omega, HG', ?_, ?_, ?_, ?_, ?_, ?_⟩
         ·refine Lib.hid ?_
          rw [← List.append_assoc, List.length_append, List.map_append]; exact hr3
         ·exact Lib.hid (HFl.trans (from_append hn3) HKl.size)
         ·exact Lib.hid (HFl.keep HKl (((Keep.refl _ _).alloc _).grown hg3 fun k hk => .inl hk))
         ·exact Lib.hid (HU.out.past HRo.out (by decide) hg3)
         ·exact Lib.hid (HV.out.past HRo.out (by decide) hg3)
         ·exact Lib.hid (blk_past HXl.out HRo.out (by decide) hg3)
        case measure => simp [intOf]; omega
      ·have hk' : k = s.uses.length := by omega
       subst hk'; have hg := HG.out; rw [List.take_length] at hg; have hlk := lookL_regs S s.uses; rw [hg] at hlk; have hR := HX.out; rw [hlk] at hR; simp only [if_true] at hR
       have hrl' : rs.length = s.uses.length := regs_len hg
       clear HX HG hlk hg; obtain ⟨Au, cu, hvu, _⟩ := HU.out.slice; subst hvu; have hH1 : Has W _ vt u3 { S with out := S.out ++ rs } := ⟨HV.out, HRo.out, hS.ok, fun g hg => HFl.elim (fun h => hS.young g (h ▸ hg)) fun h => Nat.le_trans hB.size (h g hg)⟩
       have hcl : ({ S with out := S.out ++ rs } : Sc).cells = S.cells := rfl
       have hol : ({ S with out := S.out ++ rs } : Sc).out.length = S.out.length + rs.length := by simp
       have b0 := blk_cell HXl.out 0; have b1 := blk_cell HXl.out 1; have b2 := blk_cell HXl.out 2; by_cases k5 : s.kind = 5
       ·have k5' : (s.kind == 5) = true := by simp [k5]
        have k1 : ¬ s.kind = 1 := by omega
        have k1' : (s.kind == 1) = false := by simp [k1]
        by_cases h5a : s.cell ≥ S.cells
        ·have hre : restS { S with out := S.out ++ rs } s = (63, { S with out := S.out ++ rs }) := by unfold restS; rw [if_pos ⟨k5, by dsimp only; split <;> omega⟩]
         rw [hre] at hR; have HR' := Lib.hid hR; clear hR hre; go_wp2; try simp only [Exit.inBlock, Exit.then]
         refine bodyPost_ret (results_tmp4 rfl _ _ _) rfl ?_; rw [HR'.out]; exact ⟨_, _, _, rfl, fun h => absurd h (by simp), HKl⟩
        ·by_cases h5b : s.cell ≥ 4
         ·have hre : restS { S with out := S.out ++ rs } s = (63, { S with out := S.out ++ rs }) := by unfold restS; rw [if_pos ⟨k5, by dsimp only; split <;> omega⟩]
          rw [hre] at hR; have HR' := Lib.hid hR; clear hR hre; go_wp2; try simp only [Exit.inBlock, Exit.then]
          refine bodyPost_ret (results_tmp4 rfl _ _ _) rfl ?_; rw [HR'.out]; exact ⟨_, _, _, rfl, fun h => absurd h (by simp), HKl⟩
         ·have hnc : ¬ (s.kind = 5 ∧ s.cell ≥ (if 4 < S.cells then 4 else S.cells)) := by rintro ⟨_, h⟩; split at h <;> omega
          have hre : restS { S with out := S.out ++ rs } s = if (blockS { S with out := S.out ++ rs } s.body).1 = 0 then blockS (blockS { S with out := S.out ++ rs } s.body).2 s.els else blockS { S with out := S.out ++ rs } s.body := by
           unfold restS; rw [if_neg hnc]; simp only [k1, if_false, if_true]
          rw [hre] at hR; clear hre; have hBl : Below W.heap.size W _ := hB.trans (HKl.toBelow hB.size hS.young)
          have b4 := blk_cell HXl.out 4; obtain ⟨q, hq⟩ : ∃ q, stmtsS { S with out := S.out ++ rs } s.body = q := ⟨_, rfl⟩
          have hbq : blockS { S with out := S.out ++ rs } s.body = (q.1, { q.2 with names := q.2.names.take ({ S with out := S.out ++ rs }).names.length }) := by rw [blockS, hq]
          have hbn := blockS_same { S with out := S.out ++ rs } s.body
          have hbc := blockS_cells { S with out := S.out ++ rs } s.body
          have hqln := stmtsS_len { S with out := S.out ++ rs } s.body
          rw [hbq] at hbn hbc; have hS2 : ({ q.2 with names := q.2.names.take ({ S with out := S.out ++ rs }).names.length } : Sc) = ⟨S.names, q.2.out, q.2.most, S.cells⟩ := by rw [Sc.mk.injEq]; exact ⟨hbn, rfl, rfl, hbc.trans hcl⟩
          rw [hbq, hS2] at hR; rw [hq] at hqln; have C1 := nblock_of W N ih s.body A1 c1 (by omega) hrd1 { S with out := S.out ++ rs } vt u3 _ (by omega) hBl hH1
          rw [hq, hcl] at C1; have C1 := Lib.hid C1; clear hq hbq hS2 hbn hbc; dsimp only at hR; by_cases hz : q.1 = 0
          ·have hz' : (q.1 == 0) = true := by simp [hz]
           rw [if_pos hz] at hR; have HR' := Lib.hid hR; clear hR; have C2 := Lib.hid (show ∀ w2 v2, Below W.heap.size W w2 → Has W w2 vt v2 ⟨S.names, q.2.out, q.2.most, S.cells⟩ → Calls Try.prog 50 #[.slice A2 s.els.length c2, vt, .int .i64 S.cells, v2, .int .i64 q.2.most] w2 (Told w2 v2 (stmtsS ⟨S.names, q.2.out, q.2.most, S.cells⟩ s.els)) from fun w2 v2 h1 h2 =>
            nblock_of W N ih s.els A2 c2 (by omega) hrd2 ⟨S.names, q.2.out, q.2.most, S.cells⟩ vt v2 w2 (by show q.2.out.length + _ ≤ _; omega) h1 h2)
           go_wp2_with (first
            | (go_at_call 50; refine (C2.out _ _ hB2 hH2).mono ?_; rintro x3 w3 ⟨v3, vt3, m3, rfl, hw3, hb3⟩)
            | (go_at_call 50; go_must (refine C1.out.mono ?_); rintro x2 w2 ⟨v2, vt2, m2, rfl, hw2, hb2⟩; obtain ⟨p1, p2, rfl, p4⟩ := hw2 hz; have hB2 : Below W.heap.size W w2 := hBl.trans (hb2.toBelow hBl.size hH1.young); have hbx2 := hb2.blk HXl.out (hH1.out.ne HXl.out (by decide)); have b5 := blk_cell hbx2 5; have hH2 : Has W w2 vt v2 ⟨S.names, q.2.out, q.2.most, S.cells⟩ := has_next hH1 hb2 p1 p4 rfl hBl.size))
           try simp only [Exit.inBlock, Exit.then]
           refine bodyPost_ret (results_tmp4 rfl _ _ _) rfl ?_; have hbs := blockS_same ⟨S.names, q.2.out, q.2.most, S.cells⟩ s.els; have hbe : blockS ⟨S.names, q.2.out, q.2.most, S.cells⟩ s.els = ((stmtsS ⟨S.names, q.2.out, q.2.most, S.cells⟩ s.els).1, { (stmtsS ⟨S.names, q.2.out, q.2.most, S.cells⟩ s.els).2 with names := (stmtsS ⟨S.names, q.2.out, q.2.most, S.cells⟩ s.els).2.names.take (⟨S.names, q.2.out, q.2.most, S.cells⟩ : Sc).names.length }) := by rw [blockS]
           rw [hbe] at hbs; rw [HR'.out, hbe]; dsimp only at hbs ⊢
           have hF2 := HFl.trans p4 HKl.size; have hK2 := HFl.keep HKl hb2; refine ⟨_, _, _, rfl, fun h => ?_, hF2.keep hK2 hb3⟩
           obtain ⟨k1, k2, k3, k4⟩ := hw3 h; refine ⟨k1, ?_, k3, hF2.trans k4 hK2.size⟩
           dsimp only
           rw [hbs]; exact hH2.names.keep fun g hg => hb3.block g (hH2.names.lt hg) fun e => Row.apart hH2.names p1 (by decide) hg e
          ·have hz' : (q.1 == 0) = false := by simp [hz]
           rw [if_neg hz] at hR; have HR' := Lib.hid hR; clear hR; go_wp2_with (go_at_call 50; go_must (refine C1.out.mono ?_); rintro x2 w2 ⟨v2, vt2, m2, rfl, hw2, hb2⟩)
           try simp only [Exit.inBlock, Exit.then]
           refine bodyPost_ret (results_tmp4 rfl _ _ _) rfl ?_; rw [HR'.out]; exact ⟨_, _, _, rfl, fun h => absurd h hz, HFl.keep HKl hb2⟩
       ·have k5' : (s.kind == 5) = false := by simp [k5]
        by_cases k1 : s.kind = 1
        ·have k1' : (s.kind == 1) = true := by simp [k1]
         have hre : restS { S with out := S.out ++ rs } s = if (declare { S with out := S.out ++ rs } s.name).1 = 0 then (if (blockS (declare { S with out := S.out ++ rs } s.name).2 s.body).1 = 0 then blockS (blockS (declare { S with out := S.out ++ rs } s.name).2 s.body).2 s.els else blockS (declare { S with out := S.out ++ rs } s.name).2 s.body) else declare { S with out := S.out ++ rs } s.name := by
          unfold restS; rw [if_neg (by rintro ⟨h, _⟩; exact k5 h)]
          simp only [k1, if_true]
         rw [hre] at hR; clear hre; have hI := nfind_calls S.names s.name vt _ (by omega) HV.out
         cases hreg : regOf S.names s.name with
         | some r =>
          have hfd : findP S.names s.name = r := by unfold findP; rw [hreg]; rfl
          have hr0 := regOf_nonneg hreg; have hr0' : r ≥ 0 := hr0.1
          rw [hfd] at hI; have hde : declare { S with out := S.out ++ rs } s.name = (61, { S with out := S.out ++ rs }) := by unfold declare; rw [hreg]; rfl
          rw [hde, if_neg (by simp)] at hR
          have HR' := Lib.hid hR; have HI := Lib.hid hI; clear hR hI hde hfd hreg; go_wp2_with (go_at_call 89; go_must (refine HI.out.mono ?_); rintro x w1 ⟨rfl, rfl⟩)
          try simp only [Exit.inBlock, Exit.then]
          refine bodyPost_ret (results_tmp4 rfl _ _ _) rfl ?_; rw [HR'.out]; exact ⟨_, _, _, rfl, fun h => absurd h (by simp), HKl⟩
         | none =>
          have hfd : findP S.names s.name = -1 := by unfold findP; rw [hreg]; rfl
          rw [hfd] at hI; have HI := Lib.hid hI; clear hI hfd; obtain ⟨At, ct, hvt, _⟩ := HV.out.slice; subst hvt; by_cases hl8 : S.names.length = 8
          ·have hde : declare { S with out := S.out ++ rs } s.name = (62, { S with out := S.out ++ rs }) := by unfold declare; rw [hreg, if_neg (by simp), if_pos hl8]
           rw [hde, if_neg (by simp)] at hR
           have HR' := Lib.hid hR; have hl8' : ((S.names.length : Int) ≥ 8) := by omega
           clear hR hde hreg hl8; go_wp2_with (go_at_call 89; go_must (refine HI.out.mono ?_); rintro x w1 ⟨rfl, rfl⟩)
           try simp only [Exit.inBlock, Exit.then]
           refine bodyPost_ret (results_tmp4 rfl _ _ _) rfl ?_; rw [HR'.out]; exact ⟨_, _, _, rfl, fun h => absurd h (by simp), HKl⟩
          ·have hl8' : ¬ ((S.names.length : Int) ≥ 8) := by omega
           go_wp2_with (first
            | (at_builtin; go_must (refine wpList_append_row _ rfl _ _ 68 rfl 3 (.int .i64 0) 1 8 Try.underlying68 info_int rfl u3 _ _ rfl (HRo.out.keep fun g hg => Below.heap_alloc _ _ g (HRo.out.lt hg)) ⟨_, 0, none⟩ 1 1 [.int .i64 (3 + (S.names.length : Int))] rfl rfl (cell_one_new _ _ _) (by simp [Value.oneCell']) (by decide) (by simp; unfold maxLen; omega) (by simp; omega) ?_); intro v3 w3 hr3 hg3 hn3; have HVx := HV.out.past HRo.out (by decide) hg3; have hbx3 := blk_past HXl.out HRo.out (by decide) hg3; have d1 : w3.drew.cell? ⟨w.heap.size, 1, none⟩ = some (.string s.name) := blk_cell hbx3 1)
            | (go_at_call 89; go_must (refine HI.out.mono ?_); rintro x w1 ⟨rfl, rfl⟩))
           go_region_held3 (fun w' => w'.cell? ⟨w.heap.size, 1, none⟩ = some (.string s.name) ∧ Below w3.heap.size w3 w')
            (first
             | exact s23 hbx3 (Below.refl _ _).drew
             | exact s23 hbx3 (Below.alloc (Below.refl _ _) (Nat.le_refl _) _).drew
             | exact s23 hbx3 (Below.alloc (Below.alloc (Below.refl _ _) (Nat.le_refl _) _) (by simp) _).drew
             | exact s23 hbx3 hX5
             | exact s23 hbx3 hX4
             | exact s23 hbx3 (hX4.alloc hX4.size _)
             | exact s23 hbx3 (hX4.alloc hX4.size _).drew)
            (first
             | (refine step_append_rows (by rfl) _ _ _ (by rfl) 9 (.string ⟨#[]⟩) 1 16 Try.underlying78 info_string rfl v4 _ _ (by rfl) (by first | exact hr4 | exact hr4.alloc _ | exact (hr4.alloc _).drewed) (.slice (some ⟨w4.heap.size, 0, none⟩) 1 1) 1 [.string s.name] (by rfl) (by first | exact Row.laid (w := w4) (cs := #[.string s.name]) (by simp) rfl (by decide) | exact (Row.laid (w := w4) (cs := #[.string s.name]) (by simp) rfl (by decide)).drewed) (by simp [Value.oneCell']) (by unfold maxLen; omega) (by omega) ?_; intro v5 w5 hr5 hg5 hn5; have hX5 : Below w3.heap.size w3 w5 := (by first | exact Below.grown hX4 hg5 hX4.size hY4 | exact Below.grown (hX4.alloc hX4.size _) hg5 (hX4.alloc hX4.size _).size hY4 | exact Below.grown (hX4.alloc hX4.size _).drew hg5 (hX4.alloc hX4.size _).size hY4))
             | (refine step_append_rows (by rfl) _ _ _ (by rfl) 9 (.string ⟨#[]⟩) 1 16 Try.underlying78 info_string rfl v4 _ _ (by rfl) (by first | exact hr4 | exact hr4.alloc _ | exact (hr4.alloc _).drewed) (.slice (some ⟨w3.heap.size + 1, 0, none⟩) 1 1) 1 [.string s.name] (by rfl) (g3 hg4 (g2 w3 (.cells #[] 9) s.name).1 (by simp [Value.ownBlock])) (by simp [Value.oneCell']) (by unfold maxLen; omega) (by omega) ?_; intro v5 w5 hr5 hg5 hn5; have hX5 : Below w3.heap.size w3 w5 := (by first | exact Below.grown hX4 hg5 hX4.size hY4 | exact Below.grown (hX4.alloc hX4.size _) hg5 (hX4.alloc hX4.size _).size hY4 | exact Below.grown (hX4.alloc hX4.size _).drew hg5 (hX4.alloc hX4.size _).size hY4))
             | (refine step_append_rows (by rfl) _ _ _ (by rfl) 9 (.string ⟨#[]⟩) 1 16 Try.underlying78 info_string rfl v4 _ _ (by rfl) (by first | exact hr4 | exact hr4.alloc _ | exact (hr4.alloc _).drewed) (.slice (some ⟨w3.heap.size, 0, none⟩) 1 1) 1 [.string s.name] (by rfl) (g3 hg4 (g2 w3 (.cells #[] 9) s.name).2 (by simp [Value.ownBlock])) (by simp [Value.oneCell']) (by unfold maxLen; omega) (by omega) ?_; intro v5 w5 hr5 hg5 hn5; have hX5 : Below w3.heap.size w3 w5 := (by first | exact Below.grown hX4 hg5 hX4.size hY4 | exact Below.grown (hX4.alloc hX4.size _) hg5 (hX4.alloc hX4.size _).size hY4 | exact Below.grown (hX4.alloc hX4.size _).drew hg5 (hX4.alloc hX4.size _).size hY4))
             | (refine step_append_rows (by rfl) _ _ _ (by rfl) 9 (.string ⟨#[]⟩) 1 16 Try.underlying78 info_string rfl (.slice (some ⟨w3.heap.size, 0, none⟩) 0 0) 0 [] (by rfl) (by first | exact (Row.laid (cs := #[]) (by simp) rfl (by decide)).drewed | exact ((Row.laid (cs := #[]) (by simp) rfl (by decide)).alloc _).drewed) (.slice At S.names.length ct) _ _ (by rfl) (by first | exact (HVx.alloc _).drewed | exact ((HVx.alloc _).alloc _).drewed) (row_oneS _) (by unfold maxLen; omega) (by omega) ?_; intro v4 w4 hr4 hg4 hn4; have hX4 : Below w3.heap.size w3 w4 := (by first | exact Below.grown (Below.alloc (Below.refl _ _) (Nat.le_refl _) _).drew hg4 (by simp) (by intro k hk; simp [Value.ownBlock] at hk; omega) | exact Below.grown (Below.alloc (Below.alloc (Below.refl _ _) (Nat.le_refl _) _) (by simp) _).drew hg4 (by simp; omega) (by intro k hk; simp [Value.ownBlock] at hk; omega)); have hY4 : ∀ g, v4.ownBlock = some g → w3.heap.size ≤ g := (by intro g hg; rcases hn4 with h | h <;> rw [h] at hg <;> simp [Value.ownBlock] at hg <;> omega))
             | (refine step_append_rows (by rfl) _ _ _ (by rfl) 9 (.string ⟨#[]⟩) 1 16 Try.underlying78 info_string rfl (.slice (some ⟨w3.heap.size + 1, 0, none⟩) 0 0) 0 [] (by rfl) (by first | exact (Row.laid (cs := #[]) (by simp) rfl (by decide)).drewed | exact ((Row.laid (cs := #[]) (by simp) rfl (by decide)).alloc _).drewed) (.slice At S.names.length ct) _ _ (by rfl) (by first | exact (HVx.alloc _).drewed | exact ((HVx.alloc _).alloc _).drewed) (row_oneS _) (by unfold maxLen; omega) (by omega) ?_; intro v4 w4 hr4 hg4 hn4; have hX4 : Below w3.heap.size w3 w4 := (by first | exact Below.grown (Below.alloc (Below.refl _ _) (Nat.le_refl _) _).drew hg4 (by simp) (by intro k hk; simp [Value.ownBlock] at hk; omega) | exact Below.grown (Below.alloc (Below.alloc (Below.refl _ _) (Nat.le_refl _) _) (by simp) _).drew hg4 (by simp; omega) (by intro k hk; simp [Value.ownBlock] at hk; omega)); have hY4 : ∀ g, v4.ownBlock = some g → w3.heap.size ≤ g := (by intro g hg; rcases hn4 with h | h <;> rw [h] at hg <;> simp [Value.ownBlock] at hg <;> omega)))
           all_goals (
            clear hr4 hg4 hn4 hX4 hY4; have hr5 : Row w5 9 1 v5 (S.names.length + 1) (S.names.map .string ++ [.string s.name]) := by simpa using hr5
            obtain ⟨A5, c5, hv5, hl5⟩ := hr5.slice; subst hv5; have hXc := below_blk hX5 hbx3 (blk_lt hbx3); have hu1 : s.uses.length ≤ Expr.nodesL s.args := by
             unfold Stmt.uses; rw [if_neg k2, List.append_nil]; exact Expr.namesL_len s.args
            rw [declare_new hreg hl8, if_pos rfl] at hR; dsimp only at hR; by_cases hm : S.most < (S.names.length : Int) + 1
            ·rw [if_pos hm] at hR
             have hm' : ((S.names.length : Int) + 1 > S.most) := by omega
             obtain ⟨hH1, HKl, HFl⟩ := one_grown (m := (S.names.length : Int) + 1) hB HKl HFl hS.young hr3 hg3 hn3 hr5 hX5 h8 hl8; have hol : (⟨S.names ++ [s.name], S.out ++ rs ++ [3 + (S.names.length : Int)], (S.names.length : Int) + 1, S.cells⟩ : Sc).out.length = S.out.length + rs.length + 1 := by simp; omega
             have hcl : (⟨S.names ++ [s.name], S.out ++ rs ++ [3 + (S.names.length : Int)], (S.names.length : Int) + 1, S.cells⟩ : Sc).cells = S.cells := rfl
             have hol : (S.out ++ rs ++ [3 + (S.names.length : Int)]).length = S.out.length + rs.length + 1 := hol
             have HXl := Lib.hid hXc; clear hXc hr3 hg3 hn3 hr5; have hBl : Below W.heap.size W _ := hB.trans (HKl.toBelow hB.size hS.young)
             have b4 := blk_cell HXl.out 4; obtain ⟨q, hq⟩ : ∃ q, stmtsS (⟨S.names ++ [s.name], S.out ++ rs ++ [3 + (S.names.length : Int)], (S.names.length : Int) + 1, S.cells⟩ : Sc) s.body = q := ⟨_, rfl⟩
             have hbq : blockS (⟨S.names ++ [s.name], S.out ++ rs ++ [3 + (S.names.length : Int)], (S.names.length : Int) + 1, S.cells⟩ : Sc) s.body = (q.1, { q.2 with names := q.2.names.take ((⟨S.names ++ [s.name], S.out ++ rs ++ [3 + (S.names.length : Int)], (S.names.length : Int) + 1, S.cells⟩ : Sc)).names.length }) := by rw [blockS, hq]
             have hbn := blockS_same (⟨S.names ++ [s.name], S.out ++ rs ++ [3 + (S.names.length : Int)], (S.names.length : Int) + 1, S.cells⟩ : Sc) s.body; have hbc := blockS_cells (⟨S.names ++ [s.name], S.out ++ rs ++ [3 + (S.names.length : Int)], (S.names.length : Int) + 1, S.cells⟩ : Sc) s.body; have hqln := stmtsS_len (⟨S.names ++ [s.name], S.out ++ rs ++ [3 + (S.names.length : Int)], (S.names.length : Int) + 1, S.cells⟩ : Sc) s.body; rw [hbq] at hbn hbc; have hS2 : ({ q.2 with names := q.2.names.take ((⟨S.names ++ [s.name], S.out ++ rs ++ [3 + (S.names.length : Int)], (S.names.length : Int) + 1, S.cells⟩ : Sc)).names.length } : Sc) = ⟨S.names ++ [s.name], q.2.out, q.2.most, S.cells⟩ := by rw [Sc.mk.injEq]; exact ⟨hbn, rfl, rfl, hbc.trans hcl⟩
             rw [hbq, hS2] at hR; rw [hq] at hqln; have C1 := nblock_of W N ih s.body A1 c1 (by omega) hrd1 (⟨S.names ++ [s.name], S.out ++ rs ++ [3 + (S.names.length : Int)], (S.names.length : Int) + 1, S.cells⟩ : Sc) (.slice A5 (S.names.length + 1) c5) v3 _ (by omega) hBl hH1
             rw [hq, hcl] at C1; have C1 := Lib.hid C1; clear hq hbq hS2 hbn hbc; dsimp only at hR; by_cases hz : q.1 = 0
             ·have hz' : (q.1 == 0) = true := by simp [hz]
              rw [if_pos hz] at hR; have HR' := Lib.hid hR; clear hR; have C2 := Lib.hid (show ∀ w2 v2, Below W.heap.size W w2 → Has W w2 (.slice A5 (S.names.length + 1) c5) v2 ⟨S.names ++ [s.name], q.2.out, q.2.most, S.cells⟩ → Calls Try.prog 50 #[.slice A2 s.els.length c2, (.slice A5 (S.names.length + 1) c5), .int .i64 S.cells, v2, .int .i64 q.2.most] w2 (Told w2 v2 (stmtsS ⟨S.names ++ [s.name], q.2.out, q.2.most, S.cells⟩ s.els)) from fun w2 v2 h1 h2 =>
               nblock_of W N ih s.els A2 c2 (by omega) hrd2 ⟨S.names ++ [s.name], q.2.out, q.2.most, S.cells⟩ (.slice A5 (S.names.length + 1) c5) v2 w2 (by show q.2.out.length + _ ≤ _; omega) h1 h2)
              go_wp2_with (first
               | (go_at_call 50; refine (C2.out _ _ hB2 hH2).mono ?_; rintro x3 w3 ⟨v3, vt3, m3, rfl, hw3, hb3⟩)
               | (go_at_call 50; go_must (refine C1.out.mono ?_); rintro x2 w2 ⟨v2, vt2, m2, rfl, hw2, hb2⟩; obtain ⟨p1, p2, rfl, p4⟩ := hw2 hz; have hB2 : Below W.heap.size W w2 := hBl.trans (hb2.toBelow hBl.size hH1.young); have hbx2 := hb2.blk HXl.out (hH1.out.ne HXl.out (by decide)); have b5 := blk_cell hbx2 5; have hH2 : Has W w2 (.slice A5 (S.names.length + 1) c5) v2 ⟨S.names ++ [s.name], q.2.out, q.2.most, S.cells⟩ := has_next hH1 hb2 p1 p4 rfl hBl.size))
              try simp only [Exit.inBlock, Exit.then]
              refine bodyPost_ret (results_tmp4 rfl _ _ _) rfl ?_; have hbs := blockS_same ⟨S.names ++ [s.name], q.2.out, q.2.most, S.cells⟩ s.els; have hbe : blockS ⟨S.names ++ [s.name], q.2.out, q.2.most, S.cells⟩ s.els = ((stmtsS ⟨S.names ++ [s.name], q.2.out, q.2.most, S.cells⟩ s.els).1, { (stmtsS ⟨S.names ++ [s.name], q.2.out, q.2.most, S.cells⟩ s.els).2 with names := (stmtsS ⟨S.names ++ [s.name], q.2.out, q.2.most, S.cells⟩ s.els).2.names.take (⟨S.names ++ [s.name], q.2.out, q.2.most, S.cells⟩ : Sc).names.length }) := by rw [blockS]
              rw [hbe] at hbs; rw [HR'.out, hbe]; dsimp only at hbs ⊢
              have hF2 := HFl.trans p4 HKl.size; have hK2 := HFl.keep HKl hb2; refine ⟨_, _, _, rfl, fun h => ?_, hF2.keep hK2 hb3⟩
              obtain ⟨k1, k2, k3, k4⟩ := hw3 h; refine ⟨k1, ?_, k3, hF2.trans k4 hK2.size⟩
              dsimp only
              rw [hbs]; exact hH2.names.keep fun g hg => hb3.block g (hH2.names.lt hg) fun e => Row.apart hH2.names p1 (by decide) hg e
             ·have hz' : (q.1 == 0) = false := by simp [hz]
              rw [if_neg hz] at hR; have HR' := Lib.hid hR; clear hR; go_wp2_with (go_at_call 50; go_must (refine C1.out.mono ?_); rintro x2 w2 ⟨v2, vt2, m2, rfl, hw2, hb2⟩)
              try simp only [Exit.inBlock, Exit.then]
              refine bodyPost_ret (results_tmp4 rfl _ _ _) rfl ?_; rw [HR'.out]; exact ⟨_, _, _, rfl, fun h => absurd h hz, HFl.keep HKl hb2⟩
            ·rw [if_neg hm] at hR
             have hm' : ¬ ((S.names.length : Int) + 1 > S.most) := by omega
             obtain ⟨hH1, HKl, HFl⟩ := one_grown (m := S.most) hB HKl HFl hS.young hr3 hg3 hn3 hr5 hX5 h8 hl8; have hol : (⟨S.names ++ [s.name], S.out ++ rs ++ [3 + (S.names.length : Int)], S.most, S.cells⟩ : Sc).out.length = S.out.length + rs.length + 1 := by simp; omega
             have hcl : (⟨S.names ++ [s.name], S.out ++ rs ++ [3 + (S.names.length : Int)], S.most, S.cells⟩ : Sc).cells = S.cells := rfl
             have hol : (S.out ++ rs ++ [3 + (S.names.length : Int)]).length = S.out.length + rs.length + 1 := hol
             have HXl := Lib.hid hXc; clear hXc hr3 hg3 hn3 hr5; have hBl : Below W.heap.size W _ := hB.trans (HKl.toBelow hB.size hS.young)
             have b4 := blk_cell HXl.out 4; obtain ⟨q, hq⟩ : ∃ q, stmtsS (⟨S.names ++ [s.name], S.out ++ rs ++ [3 + (S.names.length : Int)], S.most, S.cells⟩ : Sc) s.body = q := ⟨_, rfl⟩
             have hbq : blockS (⟨S.names ++ [s.name], S.out ++ rs ++ [3 + (S.names.length : Int)], S.most, S.cells⟩ : Sc) s.body = (q.1, { q.2 with names := q.2.names.take ((⟨S.names ++ [s.name], S.out ++ rs ++ [3 + (S.names.length : Int)], S.most, S.cells⟩ : Sc)).names.length }) := by rw [blockS, hq]
             have hbn := blockS_same (⟨S.names ++ [s.name], S.out ++ rs ++ [3 + (S.names.length : Int)], S.most, S.cells⟩ : Sc) s.body; have hbc := blockS_cells (⟨S.names ++ [s.name], S.out ++ rs ++ [3 + (S.names.length : Int)], S.most, S.cells⟩ : Sc) s.body; have hqln := stmtsS_len (⟨S.names ++ [s.name], S.out ++ rs ++ [3 + (S.names.length : Int)], S.most, S.cells⟩ : Sc) s.body; rw [hbq] at hbn hbc; have hS2 : ({ q.2 with names := q.2.names.take ((⟨S.names ++ [s.name], S.out ++ rs ++ [3 + (S.names.length : Int)], S.most, S.cells⟩ : Sc)).names.length } : Sc) = ⟨S.names ++ [s.name], q.2.out, q.2.most, S.cells⟩ := by rw [Sc.mk.injEq]; exact ⟨hbn, rfl, rfl, hbc.trans hcl⟩
             rw [hbq, hS2] at hR; rw [hq] at hqln; have C1 := nblock_of W N ih s.body A1 c1 (by omega) hrd1 (⟨S.names ++ [s.name], S.out ++ rs ++ [3 + (S.names.length : Int)], S.most, S.cells⟩ : Sc) (.slice A5 (S.names.length + 1) c5) v3 _ (by omega) hBl hH1
             rw [hq, hcl] at C1; have C1 := Lib.hid C1; clear hq hbq hS2 hbn hbc; dsimp only at hR; by_cases hz : q.1 = 0
             ·have hz' : (q.1 == 0) = true := by simp [hz]
              rw [if_pos hz] at hR; have HR' := Lib.hid hR; clear hR; have C2 := Lib.hid (show ∀ w2 v2, Below W.heap.size W w2 → Has W w2 (.slice A5 (S.names.length + 1) c5) v2 ⟨S.names ++ [s.name], q.2.out, q.2.most, S.cells⟩ → Calls Try.prog 50 #[.slice A2 s.els.length c2, (.slice A5 (S.names.length + 1) c5), .int .i64 S.cells, v2, .int .i64 q.2.most] w2 (Told w2 v2 (stmtsS ⟨S.names ++ [s.name], q.2.out, q.2.most, S.cells⟩ s.els)) from fun w2 v2 h1 h2 =>
               nblock_of W N ih s.els A2 c2 (by omega) hrd2 ⟨S.names ++ [s.name], q.2.out, q.2.most, S.cells⟩ (.slice A5 (S.names.length + 1) c5) v2 w2 (by show q.2.out.length + _ ≤ _; omega) h1 h2)
              go_wp2_with (first
               | (go_at_call 50; refine (C2.out _ _ hB2 hH2).mono ?_; rintro x3 w3 ⟨v3, vt3, m3, rfl, hw3, hb3⟩)
               | (go_at_call 50; go_must (refine C1.out.mono ?_); rintro x2 w2 ⟨v2, vt2, m2, rfl, hw2, hb2⟩; obtain ⟨p1, p2, rfl, p4⟩ := hw2 hz; have hB2 : Below W.heap.size W w2 := hBl.trans (hb2.toBelow hBl.size hH1.young); have hbx2 := hb2.blk HXl.out (hH1.out.ne HXl.out (by decide)); have b5 := blk_cell hbx2 5; have hH2 : Has W w2 (.slice A5 (S.names.length + 1) c5) v2 ⟨S.names ++ [s.name], q.2.out, q.2.most, S.cells⟩ := has_next hH1 hb2 p1 p4 rfl hBl.size))
              try simp only [Exit.inBlock, Exit.then]
              refine bodyPost_ret (results_tmp4 rfl _ _ _) rfl ?_; have hbs := blockS_same ⟨S.names ++ [s.name], q.2.out, q.2.most, S.cells⟩ s.els; have hbe : blockS ⟨S.names ++ [s.name], q.2.out, q.2.most, S.cells⟩ s.els = ((stmtsS ⟨S.names ++ [s.name], q.2.out, q.2.most, S.cells⟩ s.els).1, { (stmtsS ⟨S.names ++ [s.name], q.2.out, q.2.most, S.cells⟩ s.els).2 with names := (stmtsS ⟨S.names ++ [s.name], q.2.out, q.2.most, S.cells⟩ s.els).2.names.take (⟨S.names ++ [s.name], q.2.out, q.2.most, S.cells⟩ : Sc).names.length }) := by rw [blockS]
              rw [hbe] at hbs; rw [HR'.out, hbe]; dsimp only at hbs ⊢
              have hF2 := HFl.trans p4 HKl.size; have hK2 := HFl.keep HKl hb2; refine ⟨_, _, _, rfl, fun h => ?_, hF2.keep hK2 hb3⟩
              obtain ⟨k1, k2, k3, k4⟩ := hw3 h; refine ⟨k1, ?_, k3, hF2.trans k4 hK2.size⟩
              dsimp only
              rw [hbs]; exact hH2.names.keep fun g hg => hb3.block g (hH2.names.lt hg) fun e => Row.apart hH2.names p1 (by decide) hg e
             ·have hz' : (q.1 == 0) = false := by simp [hz]
              rw [if_neg hz] at hR; have HR' := Lib.hid hR; clear hR; go_wp2_with (go_at_call 50; go_must (refine C1.out.mono ?_); rintro x2 w2 ⟨v2, vt2, m2, rfl, hw2, hb2⟩)
              try simp only [Exit.inBlock, Exit.then]
              refine bodyPost_ret (results_tmp4 rfl _ _ _) rfl ?_; rw [HR'.out]; exact ⟨_, _, _, rfl, fun h => absurd h hz, HFl.keep HKl hb2⟩
            )
        ·have k1' : (s.kind == 1) = false := by simp [k1]
         have hre : restS { S with out := S.out ++ rs } s = if (blockS { S with out := S.out ++ rs } s.body).1 = 0 then blockS (blockS { S with out := S.out ++ rs } s.body).2 s.els else blockS { S with out := S.out ++ rs } s.body := by
          unfold restS; rw [if_neg (by rintro ⟨h, _⟩; exact k5 h)]
          simp only [k1, if_false, if_true]
         rw [hre] at hR; clear hre; have hBl : Below W.heap.size W _ := hB.trans (HKl.toBelow hB.size hS.young)
         have b4 := blk_cell HXl.out 4; obtain ⟨q, hq⟩ : ∃ q, stmtsS { S with out := S.out ++ rs } s.body = q := ⟨_, rfl⟩
         have hbq : blockS { S with out := S.out ++ rs } s.body = (q.1, { q.2 with names := q.2.names.take ({ S with out := S.out ++ rs }).names.length }) := by rw [blockS, hq]
         have hbn := blockS_same { S with out := S.out ++ rs } s.body
         have hbc := blockS_cells { S with out := S.out ++ rs } s.body
         have hqln := stmtsS_len { S with out := S.out ++ rs } s.body
         rw [hbq] at hbn hbc; have hS2 : ({ q.2 with names := q.2.names.take ({ S with out := S.out ++ rs }).names.length } : Sc) = ⟨S.names, q.2.out, q.2.most, S.cells⟩ := by rw [Sc.mk.injEq]; exact ⟨hbn, rfl, rfl, hbc.trans hcl⟩
         rw [hbq, hS2] at hR; rw [hq] at hqln; have C1 := nblock_of W N ih s.body A1 c1 (by omega) hrd1 { S with out := S.out ++ rs } vt u3 _ (by omega) hBl hH1
         rw [hq, hcl] at C1; have C1 := Lib.hid C1; clear hq hbq hS2 hbn hbc; dsimp only at hR; by_cases hz : q.1 = 0
         ·have hz' : (q.1 == 0) = true := by simp [hz]
          rw [if_pos hz] at hR; have HR' := Lib.hid hR; clear hR; have C2 := Lib.hid (show ∀ w2 v2, Below W.heap.size W w2 → Has W w2 vt v2 ⟨S.names, q.2.out, q.2.most, S.cells⟩ → Calls Try.prog 50 #[.slice A2 s.els.length c2, vt, .int .i64 S.cells, v2, .int .i64 q.2.most] w2 (Told w2 v2 (stmtsS ⟨S.names, q.2.out, q.2.most, S.cells⟩ s.els)) from fun w2 v2 h1 h2 =>
           nblock_of W N ih s.els A2 c2 (by omega) hrd2 ⟨S.names, q.2.out, q.2.most, S.cells⟩ vt v2 w2 (by show q.2.out.length + _ ≤ _; omega) h1 h2)
          go_wp2_with (first
           | (go_at_call 50; refine (C2.out _ _ hB2 hH2).mono ?_; rintro x3 w3 ⟨v3, vt3, m3, rfl, hw3, hb3⟩)
           | (go_at_call 50; go_must (refine C1.out.mono ?_); rintro x2 w2 ⟨v2, vt2, m2, rfl, hw2, hb2⟩; obtain ⟨p1, p2, rfl, p4⟩ := hw2 hz; have hB2 : Below W.heap.size W w2 := hBl.trans (hb2.toBelow hBl.size hH1.young); have hbx2 := hb2.blk HXl.out (hH1.out.ne HXl.out (by decide)); have b5 := blk_cell hbx2 5; have hH2 : Has W w2 vt v2 ⟨S.names, q.2.out, q.2.most, S.cells⟩ := has_next hH1 hb2 p1 p4 rfl hBl.size))
          try simp only [Exit.inBlock, Exit.then]
          refine bodyPost_ret (results_tmp4 rfl _ _ _) rfl ?_; have hbs := blockS_same ⟨S.names, q.2.out, q.2.most, S.cells⟩ s.els; have hbe : blockS ⟨S.names, q.2.out, q.2.most, S.cells⟩ s.els = ((stmtsS ⟨S.names, q.2.out, q.2.most, S.cells⟩ s.els).1, { (stmtsS ⟨S.names, q.2.out, q.2.most, S.cells⟩ s.els).2 with names := (stmtsS ⟨S.names, q.2.out, q.2.most, S.cells⟩ s.els).2.names.take (⟨S.names, q.2.out, q.2.most, S.cells⟩ : Sc).names.length }) := by rw [blockS]
          rw [hbe] at hbs; rw [HR'.out, hbe]; dsimp only at hbs ⊢
          have hF2 := HFl.trans p4 HKl.size; have hK2 := HFl.keep HKl hb2; refine ⟨_, _, _, rfl, fun h => ?_, hF2.keep hK2 hb3⟩
          obtain ⟨k1, k2, k3, k4⟩ := hw3 h; refine ⟨k1, ?_, k3, hF2.trans k4 hK2.size⟩
          dsimp only
          rw [hbs]; exact hH2.names.keep fun g hg => hb3.block g (hH2.names.lt hg) fun e => Row.apart hH2.names p1 (by decide) hg e
         ·have hz' : (q.1 == 0) = false := by simp [hz]
          rw [if_neg hz] at hR; have HR' := Lib.hid hR; clear hR; go_wp2_with (go_at_call 50; go_must (refine C1.out.mono ?_); rintro x2 w2 ⟨v2, vt2, m2, rfl, hw2, hb2⟩)
          try simp only [Exit.inBlock, Exit.then]
          refine bodyPost_ret (results_tmp4 rfl _ _ _) rfl ?_; rw [HR'.out]; exact ⟨_, _, _, rfl, fun h => absurd h hz, HFl.keep HKl hb2⟩
end Go.Proofs.Ytjlnpppjkdcpkaa.My
