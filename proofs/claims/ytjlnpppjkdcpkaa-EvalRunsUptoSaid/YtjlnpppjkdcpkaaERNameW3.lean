/- Layer 6: name.Slots and name.Most. Conditions: the tree was there in the world W, which is kept; it has at most 10^9 nodes. -/
import Derived.Test.YtjlnpppjkdcpkaaEREvT
import Derived.Recover
import Derived.Test.YtjlnpppjkdcpkaaERNameW2
namespace Go.Proofs.Ytjlnpppjkdcpkaa.My
open Go.RowKit Go.Proofs.Ytjlnpppjkdcpkaa.NumA
set_option linter.unusedVariables false
set_option linter.unusedSimpArgs false
def oCells (N V M O I : Value) (h v ticks B : Int) : Array Value := #[N, V, M, O, I, .int .i64 h, .int .i64 v, .int .i64 ticks, .int .i64 B]
set_option maxRecDepth 100000 in
set_option maxHeartbeats 4000000 in
theorem catch_panicking (bx p : Nat) (N V M O I : Value) (t B h v : Int) (w : World) (hbp : p ≠ bx) (hx : w.cell? ⟨bx, 0, none⟩ = some (.pointer (some ⟨p, 0, none⟩))) (hp : w.heap[p]? = some (.cells (oCells N V M O I 0 0 t B) 91 (0, 0))) :
  CallsD Try.prog 57 #[.pointer (some ⟨bx, 0, none⟩)] (.panicking [{ v := .iface 121 (.agg #[.int .i64 h, .int .i64 v]), recovered := false }]) w fun e u' w' =>
   e = .returned (.tuple #[]) ∧ u' = .panicking [{ v := .iface 121 (.agg #[.int .i64 h, .int .i64 v]), recovered := true }] ∧ Keep (fun q => q = p) w w' ∧ w'.heap[p]? = some (.cells (oCells N V M O I h v t B) 91 (0, 0)) := by
 refine callsD_of_wpS Try.func57 rfl fun c₀ cs hu => ?_
 rw [show (#[.pointer (some ⟨bx, 0, none⟩)] ++ Array.replicate (Try.f57.ntmps - (#[.pointer (some ⟨bx, 0, none⟩)] : Array Value).size) undef : Array Value) = #[.pointer (some ⟨bx, 0, none⟩), undef, undef, undef, undef, undef, undef, undef, undef, undef, undef, undef, undef, undef, undef, undef, undef, undef, undef, undef, undef, undef, undef, undef] from by kernel_rfl]
 apply wpS_seq
 apply wpS_region
 simp [wpOpsS, go_sem, recoverD, hu, Try.ntmps57, Exit.thenS]
 have hne : ∀ w : World, (binOp BinOp.neq 20 (.iface 121 (.agg #[.int .i64 h, .int .i64 v])) .nilIface).run Try.prog w = .ok (.bool true) w := fun _ => by rfl
 have hta : ∀ w : World, (Instr.typeAssert (.iface 121 (.agg #[.int .i64 h, .int .i64 v])) 20 121 true).run Try.prog w = .ok (.tuple #[.agg #[.int .i64 h, .int .i64 v], .bool true]) w := fun _ => by rfl
 apply wpS_seq
 apply wpS_region
 simp [wpOpsS, go_sem, Exit.thenS]
 refine wpS_cond (t := true) (by simp [Act.eval, Array.replicate]) ?_
 simp only [if_true]
 have q0 : w.cell? ⟨p, 5, none⟩ = some (.int .i64 0) := by rw [blk_cell hp]; rfl
 have q1 : w.cell? ⟨p, 6, none⟩ = some (.int .i64 0) := by rw [blk_cell hp]; rfl
 have qf := fun o => blk_free (blk_alloc hp o)
 have hn1 := World.new_ne w _ q0; have n0 := fun o => (Below.al (Below.refl w.heap.size w) (o := o)).cellOf q0
 have n1 := fun o => (Below.al (Below.refl w.heap.size w) (o := o)).cellOf q1
 have hp2 : p ≠ w.heap.size := by have := blk_lt hp; omega
 have HP := Lib.hid hp; have HU := Lib.hid hu; have hxo := fun o => (Below.al (Below.refl w.heap.size w) (o := o)).cellOf hx
 clear hp hu; refine wpS_of_wp ?_; go_wp2; have hn0 := World.new_ne w _ hx; go_region_held3 (fun V_ => V_.cell? ⟨bx, 0, none⟩ = some (.pointer (some ⟨p, 0, none⟩)) ∧ V_.cell? ⟨w.heap.size, 0, none⟩ = some (.int .i64 h) ∧ V_.cell? ⟨w.heap.size, 1, none⟩ = some (.int .i64 v)) (go_keep) (fail)
 have hk : Keep (fun q => q = p) w (((w.alloc (.cells #[.int .i64 h, .int .i64 v] 121)).setCell ⟨p, 5, none⟩ (.int .i64 h)).setCell ⟨p, 6, none⟩ (.int .i64 v)) :=
  Keep.set (O := fun q => q = p) (Keep.set (O := fun q => q = p) ((Keep.refl _ w).alloc _) (p := ⟨p, 5, none⟩) (.inl rfl) _) (p := ⟨p, 6, none⟩) (.inl rfl) _
 exact ⟨rfl, _, rfl, _, results_none rfl _ _ _, rfl, rfl, hk.drew, blk_set (blk_set (blk_alloc HP.out _) 5 _) 6 _⟩
theorem catch_idle (bx : Nat) (w : World) :
  CallsD Try.prog 57 #[.pointer (some ⟨bx, 0, none⟩)] .returning w fun e u' w' => e = .returned (.tuple #[]) ∧ u' = .returning ∧ w' = w := by
 refine callsD_of_wpS Try.func57 rfl fun c₀ cs hu => ?_
 rw [show (#[.pointer (some ⟨bx, 0, none⟩)] ++ Array.replicate (Try.f57.ntmps - (#[.pointer (some ⟨bx, 0, none⟩)] : Array Value).size) undef : Array Value) = #[.pointer (some ⟨bx, 0, none⟩), undef, undef, undef, undef, undef, undef, undef, undef, undef, undef, undef, undef, undef, undef, undef, undef, undef, undef, undef, undef, undef, undef, undef] from by kernel_rfl]
 have hne : ∀ w : World, (binOp BinOp.neq 20 .nilIface .nilIface).run Try.prog w = .ok (.bool false) w := fun _ => by kernel_rfl
 apply wpS_seq
 apply wpS_region
 simp [wpOpsS, go_sem, recoverD, hu, Try.ntmps57, Exit.thenS]
 apply wpS_seq
 apply wpS_region
 simp [wpOpsS, go_sem, Exit.thenS]
 refine wpS_cond (t := false) (by simp [Act.eval, Array.replicate]) ?_
 simp only [Bool.false_eq_true, if_false]
 refine wpS_of_wp (wp_skip ?_)
 exact ⟨rfl, _, (by cases c₀; simp_all), _, results_none rfl _ _ _, rfl, rfl, rfl⟩
/-- how a run ended -/
def howE : Option (Int × Int) → Int × Int
 | none => (1, 0)
 | some x => x
/-- the effect of a run in the machine -/
structure EvOut (w : World) (p base : Nat) (S : Ev) (x : Int × Int) (M O I : Value) : Prop where
 blk : ∃ N V B, w.heap[p]? = some (.cells (oCells N V M O I x.1 x.2 S.ticks B) 91 (0, 0))
 mem : Row w 2 1 M S.mem.length (nums S.mem)
 outs : Row w 2 1 O S.outs.length (nums S.outs)
 intos : Row w 98 2 I S.intos.length (intoCells S.intos)
 fm : ∀ g, M.ownBlock = some g → base ≤ g
 fo : ∀ g, O.ownBlock = some g → base ≤ g
 fi : ∀ g, I.ownBlock = some g → base ≤ g
 mo : ∀ g, M.ownBlock = some g → O.ownBlock ≠ some g
theorem EvAt.ended {w w' : World} {p base : Nat} {B : Int} {S : Ev} {N V M O I : Value} (h : EvAt w p base B S N V M O I) (k : Keep (fun q => q = p) w w') (x : Int × Int) (hb : w'.heap[p]? = some (.cells (oCells N V M O I x.1 x.2 S.ticks B) 91 (0, 0))) : EvOut w' p base S x M O I :=
 have far : ∀ {v : Value} {z n : Nat} {ty : TypeId} {xs : List Value}, Row w ty z v n xs → ty ≠ 91 → Row w' ty z v n xs := fun hr hne => hr.keep fun g hg => k.block g (hr.lt hg) (fun e => hr.ne h.blk hne (by rw [hg, e]))
 ⟨⟨_, _, _, hb⟩, far h.mem (by decide), far h.outs (by decide), far h.intos (by decide), h.fm, h.fo, h.fi, h.mo⟩
set_option maxRecDepth 100000 in
set_option maxHeartbeats 4000000 in
theorem whole_calls (W : World) (p base : Nat) (B : Int) (hbase : W.heap.size ≤ base) (hB1 : B ≤ 1000000) (l : List Stmt) (A : Option Addr) (c d : Nat) (hrd : Stmt.rds W l A 0) (hnl : Stmt.nodesL l ≤ 1000000000) (hr : Stmt.rightsB nameB d l = true) (S : Ev) (w : World) (hsz : szE S) (htB : S.ticks ≤ B) (hB : Below W.heap.size W w) (hE : EvIn w p base B S) :
  Calls Try.prog 41 #[.pointer (some ⟨p, 0, none⟩), .slice A l.length c] w fun E w' => E = .returned (.tuple #[]) ∧ ∃ S' o M O I, Does B (.block l) S S' o ∧ Fx W w w' ∧ EvOut w' p base S' (howE o) M O I := by
 have hmf : ∀ (fn : Fn) (first cap : Array Value) (w : World), (Instr.makeFunc fn first cap).run Try.prog w = .ok (.func fn first cap) w := fun _ _ _ _ => rfl
 have hx := blk_new w (.cells #[.pointer (some ⟨p, 0, none⟩)] 87); have hb0 : Below w.heap.size w (w.alloc (.cells #[.pointer (some ⟨p, 0, none⟩)] 87)) := (Below.refl _ _).al
 have hf0 : Fx W w (w.alloc (.cells #[.pointer (some ⟨p, 0, none⟩)] 87)) := (Fx.refl _ _).belowR hB.size hb0
 have hk := eblock_of W p base B hbase hB1 (B.toNat + 2000000) (estmt_calls W p base B hbase hB1 _) l A c d hrd hnl hr S (w.alloc (.cells #[.pointer (some ⟨p, 0, none⟩)] 87)) hsz htB (by have := hsz.t; omega) (hB.trans hf0.below) (hE.below hb0)
 have hpw : p ≠ w.heap.size := by obtain ⟨N, V, M, O, I, h⟩ := hE; have := blk_lt h.blk; omega
 obtain ⟨bx, hbx⟩ : ∃ x, w.heap.size = x := ⟨_, rfl⟩
 obtain ⟨w0, hw0⟩ : ∃ x, w.alloc (.cells #[.pointer (some ⟨p, 0, none⟩)] 87) = x := ⟨_, rfl⟩
 rw [hbx] at hx hpw; rw [hw0] at hx hf0 hk; have HX := Lib.hid hx; have HF0 := Lib.hid hf0; have HK := Lib.hid hk; have HW := Lib.hid hw0; have HBX := Lib.hid hbx; have HB := Lib.hid (hB.trans hf0.below); have HBS := Lib.hid hbase; clear hx hf0 hk hw0 hb0 hbx hrd hnl hr hsz htB hB hE hbase hB1; go_enter_defers Try.func41, Try.ntmps41
 go_wp2_with (have tk := HW; clear tk; rw [HW.out, HBX.out]; clear HW; have f0 := blk_cell HX.out 0)
 refine HK.out.mono ?_; rintro y w1 ⟨S1, o, hd, ⟨N, V, M, O, I, he⟩, hf, rfl⟩; have hx1 : w1.heap[bx]? = some (.cells #[.pointer (some ⟨p, 0, none⟩)] 87 (0, 0)) := hf.boxes _ (_, 1) HX.out
 have HX1 := Lib.hid hx1; have HF1 := Lib.hid (HF0.out.trans hf); have HE1 := Lib.hid he; have HB1 := Lib.hid (HB.out.trans hf.below); have HD := Lib.hid hd; have hbl : ∀ (x : Int × Int), w1.heap[p]? = some (.cells (oCells N V M O I 0 0 S1.ticks B) 91 (0, 0)) := fun _ => he.blk
 clear f0 hd hf he hx1; have f1 : w1.cell? ⟨bx, 0, none⟩ = some (.pointer (some ⟨p, 0, none⟩)) := blk_cell HX1.out 0
 cases o with
 | none =>
  simp only [leftE]
  have q5 : w1.cell? ⟨p, 5, none⟩ = some (.int .i64 0) := blk_cell HE1.out.blk 5
  have qf := blk_free HE1.out.blk; go_wp2; refine leaves_cons (f := 57) (args := #[.pointer (some ⟨bx, 0, none⟩)]) (by simp) (by simp [go_sem]) ?_
  refine (catch_idle bx _).mono ?_; rintro e u' w2 ⟨rfl, rfl, rfl⟩; have hk : Keep (fun q => q = p) w1 (w1.setCell ⟨p, 5, none⟩ (.int .i64 1)) := Keep.set (O := fun q => q = p) (Keep.refl _ w1) (p := ⟨p, 5, none⟩) (.inl rfl) _
  have hfin : EvOut (w1.setCell ⟨p, 5, none⟩ (.int .i64 1)) p base S1 (1, 0) M O I := HE1.out.ended hk (1, 0) (blk_set HE1.out.blk 5 _)
  have hff := HF1.out.keep hk HB1.out.size (fun q h => by subst h; exact Nat.le_trans HBS.out HE1.out.hb) (fun q cs h hq => HE1.out.noBox q cs h hq)
  exact ⟨_, results_none rfl _ _ _, rfl, S1, none, M, O, I, HD.out, hff, hfin⟩
 | some x =>
  refine leaves_cons (f := 57) (args := #[.pointer (some ⟨bx, 0, none⟩)]) (by simp) (by simp [go_sem]) ?_
  refine (catch_panicking bx p N V M O I S1.ticks B x.1 x.2 w1 hpw f1 (hbl x)).mono ?_; rintro e u' w2 ⟨rfl, rfl, hk, hb2⟩; have hfin := HE1.out.ended hk x hb2; have hff := HF1.out.keep hk HB1.out.size (fun q h => by subst h; exact Nat.le_trans HBS.out HE1.out.hb) (fun q cs h hq => HE1.out.noBox q cs h hq)
  exact ⟨_, results_none rfl _ _ _, rfl, S1, some x, M, O, I, HD.out, hff, hfin⟩
end Go.Proofs.Ytjlnpppjkdcpkaa.My
namespace Go.Proofs.Ytjlnpppjkdcpkaa.My
open Go.RowKit Go.Maps
def slotsP (l : List Stmt) (cells : Int) : List Int × Int := if (stmtsS ⟨[], [], 0, cells⟩ l).1 = 0 then ((stmtsS ⟨[], [], 0, cells⟩ l).2.out, 0) else ([], (stmtsS ⟨[], [], 0, cells⟩ l).1)
def mostP (l : List Stmt) (cells : Int) : Int × Int := if (stmtsS ⟨[], [], 0, cells⟩ l).1 = 0 then ((stmtsS ⟨[], [], 0, cells⟩ l).2.most, 0) else (0, (stmtsS ⟨[], [], 0, cells⟩ l).1)
theorem Sc0.cell4 {W w : World} {p : Nat} {S : Sc} (h : Sc0 W w p S) : ∃ vo, w.cell? ⟨p, 4, none⟩ = some vo ∧ Row w 3 1 vo S.out.length (S.out.map (.int .i64)) := by
 obtain ⟨O, ⟨bm, vn, vo, hb, hM, hn, ho, r⟩, hO⟩ := h; exact ⟨vo, blk_cell hb 4, ho⟩
mutual
theorem Expr.rd_keep {w w' : World} (hB : Below w.heap.size w w') : ∀ {e : Expr} {cs : List Value}, e.rd w cs → e.rd w' cs
 | .mk k n s o xs, cs, h => by
  simp only [Expr.rd] at h ⊢
  obtain ⟨A, c, h1, h2, h3, h4⟩ := h; exact ⟨A, c, h1, h2, h3, Expr.rds_keep hB h4⟩
theorem Expr.rds_keep {w w' : World} (hB : Below w.heap.size w w') : ∀ {l : List Expr} {A : Option Addr} {i : Nat}, Expr.rds w l A i → Expr.rds w' l A i
 | [], _, _, _ => by simp [Expr.rds]
 | e :: l, A, i, h => by
  simp only [Expr.rds] at h ⊢
  obtain ⟨⟨b, o, cs, h1, h2, h3⟩, h4⟩ := h; exact ⟨⟨b, o, cs, h1, Expr.rd_keep hB h2, fun j u hu => (hB.cell (World.block_lt_of_cell? w _ (h3 j u hu))).trans (h3 j u hu)⟩, Expr.rds_keep hB h4⟩
end
mutual
theorem Stmt.rd_keep {w w' : World} (hB : Below w.heap.size w w') : ∀ {e : Stmt} {cs : List Value}, e.rd w cs → e.rd w' cs
 | .mk k s c xs bs es, cs, h => by
  simp only [Stmt.rd] at h ⊢
  obtain ⟨A0, c0, A1, c1, A2, c2, h1, h2, h3, h4, h5, h6, h7, h8⟩ := h; exact ⟨A0, c0, A1, c1, A2, c2, h1, h2, h3, h4, h5, Expr.rds_keep hB h6, Stmt.rds_keep hB h7, Stmt.rds_keep hB h8⟩
theorem Stmt.rds_keep {w w' : World} (hB : Below w.heap.size w w') : ∀ {l : List Stmt} {A : Option Addr} {i : Nat}, Stmt.rds w l A i → Stmt.rds w' l A i
 | [], _, _, _ => by simp [Stmt.rds]
 | e :: l, A, i, h => by
  simp only [Stmt.rds] at h ⊢
  obtain ⟨⟨b, o, cs, h1, h2, h3⟩, h4⟩ := h; exact ⟨⟨b, o, cs, h1, Stmt.rd_keep hB h2, fun j u hu => (hB.cell (World.block_lt_of_cell? w _ (h3 j u hu))).trans (h3 j u hu)⟩, Stmt.rds_keep hB h4⟩
end
set_option maxRecDepth 100000 in
theorem slots_calls (W : World) (l : List Stmt) (A : Option Addr) (c : Nat) (cells : Int) (hrd : Stmt.rds W l A 0) (hl : Stmt.nodesL l ≤ 1000000000) (w : World) (hB : Below W.heap.size W w) :
  Calls Try.prog 30 #[.slice A l.length c, .int .i64 cells] w fun e w' => ∃ v, e = .returned (.tuple #[v, .int .i64 (slotsP l cells).2]) ∧ Row w' 3 1 v (slotsP l cells).1.length ((slotsP l cells).1.map (.int .i64)) ∧ Below w.heap.size w w' := by
 have hal := Stmt.nodesL_len l; go_enter Try.func30, Try.ntmps30
 go_wp2_with (go_at_call 47; refine (fresh_calls cells w).mono ?_; rintro e w1 ⟨p, O, rfl, hsc, hO, hK⟩)
 have hS0 : Sc0 w w1 p ⟨[], [], 0, cells⟩ := ⟨O, hsc, hO⟩
 have hB1 : Below w.heap.size w w1 := hK.toBelow (Nat.le_refl _) (fun _ h => h.elim)
 have hrdw : Stmt.rds w l A 0 := Stmt.rds_keep hB hrd
 clear hsc hO hK; go_loopw [14] (fun at_ wr => ∃ (k : Nat), at_ = .int .i64 (k : Int) ∧ k ≤ l.length ∧ Hid ((stmtsS ⟨[], [], 0, cells⟩ (l.take k)).1 = 0) ∧ Hid (Sc0 w wr p (stmtsS ⟨[], [], 0, cells⟩ (l.take k)).2) ∧ Below w.heap.size w wr) (fun a _ => l.length - (intOf a).toNat)
 case atStart => exact ⟨0, rfl, Nat.zero_le _, Lib.hid (by simp [stmtsS]), Lib.hid (by simpa [stmtsS] using hS0), hB1⟩
 case round =>
  obtain ⟨k, rfl, hk, HZ, HS, HB⟩ := hrel; by_cases hlt : k < l.length
  ·have hsz := Stmt.nodesL_take l k hlt
   have hln := stmtsS_len ⟨[], [], 0, cells⟩ (l.take k); have hln' : (stmtsS ⟨[], [], 0, cells⟩ (l.take k)).2.out.length ≤ Stmt.nodesL (l.take k) := by simpa using hln
   obtain ⟨b, o, A0, c0, A2, c2, A3, c3, rfl, hbW, g0, g1, g2, g3, g4, g5, e0, e1, e2, hs', r0, r1, r2⟩ := Stmt.at hrdw HB hlt; have hlt' : ((k : Int) < (l.length : Int)) := by omega
   have hsn := stmtsS_snoc ⟨[], [], 0, cells⟩ (l.take k) l[k]; rw [List.take_append_getElem hlt, if_pos HZ.out] at hsn; obtain ⟨r, hr⟩ : ∃ r, stmtS (stmtsS ⟨[], [], 0, cells⟩ (l.take k)).2 l[k] = r := ⟨_, rfl⟩
   rw [hr] at hsn; have HR := Lib.hid hsn; clear hsn; have hBa := HB.alloc HB.size (.cells #[.int .i64 l[k].kind, .string l[k].name, .int .i64 l[k].cell, .slice A0 l[k].args.length c0, .slice A2 l[k].body.length c2, .slice A3 l[k].els.length c3] 36); have hSa := HS.out.keep ((Below.refl wr.heap.size wr).alloc (Nat.le_refl _) (.cells #[.int .i64 l[k].kind, .string l[k].name, .int .i64 l[k].cell, .slice A0 l[k].args.length c0, .slice A2 l[k].body.length c2, .slice A3 l[k].els.length c3] 36)); have hI := stmt_calls w p _ l[k] A0 c0 A2 c2 A3 c3 (Nat.le_refl _) r0 r1 r2 e0 e1 e2 hs' (stmtsS ⟨[], [], 0, cells⟩ (l.take k)).2 _ (by omega) hBa hSa
   rw [hr] at hI; unfold Stmt.val at hI
   have HI := Lib.hid hI; clear hI hr hln; by_cases hz : r.1 = 0
   ·have hz' : (r.1 == 0) = true := by simp [hz]
    go_wp2_with (go_at_call 48; go_must (refine HI.out.mono ?_); rintro x w' ⟨rfl, hw, hb⟩)
    go_roundw
    case rel => exact ⟨k + 1, by go_num, by omega, Lib.hid (by rw [HR.out]; exact hz), Lib.hid (by rw [HR.out]; exact hw), (HB.alloc HB.size _).trans hb.below⟩
    case measure => simp [intOf]; omega
   ·have hz' : (r.1 == 0) = false := by simp [hz]
    have hst := stmtsS_stop ⟨[], [], 0, cells⟩ l (k + 1) (by rw [HR.out]; exact hz)
    rw [HR.out] at hst; have HT := Lib.hid (show slotsP l cells = ([], r.1) by unfold slotsP; rw [hst, if_neg hz])
    clear hst; go_wp2_with (go_at_call 48; go_must (refine HI.out.mono ?_); rintro x w' ⟨rfl, hw, hb⟩)
    go_ret2
    rw [HT.out]; exact ⟨_, rfl, Row.nil _ _ _, (HB.alloc HB.size _).trans hb.below⟩
  ·have hk' : k = l.length := by omega
   subst hk'; have hz := HZ.out; have hq := HS.out; rw [List.take_length] at hz hq; have HT := Lib.hid (show slotsP l cells = ((stmtsS ⟨[], [], 0, cells⟩ l).2.out, 0) by unfold slotsP; rw [if_pos hz])
   obtain ⟨vo, hvo, hro⟩ := hq.cell4; go_wp2; go_ret2
   rw [HT.out]; exact ⟨_, rfl, hro, HB⟩
end Go.Proofs.Ytjlnpppjkdcpkaa.My
