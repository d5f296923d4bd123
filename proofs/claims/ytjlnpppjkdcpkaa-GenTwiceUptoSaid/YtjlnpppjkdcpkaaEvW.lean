/- The evaluator's whole run, its panic caught. Conditions: the tree was there in the world W, which is kept; the machine lies in memory. -/
import Derived.Test.YtjlnpppjkdcpkaaEvT
import Derived.Recover
namespace Go.Proofs.Ytjlnpppjkdcpkaa.My
open Go.RowKit Go.Proofs.Ytjlnpppjkdcpkaa.NumA
set_option linter.unusedVariables false
set_option linter.unusedSimpArgs false
def oCells (N V M O I : Value) (h v ticks B : Int) : Array Value := #[N, V, M, O, I, .int .i64 h, .int .i64 v, .int .i64 ticks, .int .i64 B]
set_option maxRecDepth 100000 in
set_option maxHeartbeats 4000000 in
theorem catch_panicking (bx p : Nat) (N V M O I : Value) (t B h v : Int) (w : World) (hbp : p ≠ bx) (hx : w.cell? ⟨bx, 0, none⟩ = some (.pointer (some ⟨p, 0, none⟩))) (hp : w.heap[p]? = some (.cells (oCells N V M O I 0 0 t B) 91 (0, 0))) :
    CallsD Try.prog 57 #[.pointer (some ⟨bx, 0, none⟩)] (.panicking [{ v := .iface 121 (.agg #[.int .i64 h, .int .i64 v]), recovered := false }]) w fun e u' w' =>
      e = .returned (.tuple #[]) ∧ u' = .panicking [{ v := .iface 121 (.agg #[.int .i64 h, .int .i64 v]), recovered := true }] ∧ Keep (fun q => q = p) w w' ∧ w'.heap[p]? = some (.cells (oCells N V M O I h v t B) 91 (0, 0)) := by
  refine callsD_of_wpS Try.func57 rfl fun c₀ cs hu => ?_
  rw [show (#[.pointer (some ⟨bx, 0, none⟩)] ++ Array.replicate (Try.f57.ntmps - (#[.pointer (some ⟨bx, 0, none⟩)] : Array Value).size) undef : Array Value) = #[.pointer (some ⟨bx, 0, none⟩), undef, undef, undef, undef, undef, undef, undef, undef, undef, undef, undef, undef, undef, undef, undef, undef, undef, undef, undef, undef, undef, undef, undef] from by kernel_rfl]
  apply wpS_seq
  apply wpS_region
  simp [wpOpsS, go_sem, recoverD, hu, Try.ntmps57, Exit.thenS]
  have hne : ∀ w : World, (binOp BinOp.neq 20 (.iface 121 (.agg #[.int .i64 h, .int .i64 v])) .nilIface).run Try.prog w = .ok (.bool true) w := fun _ => by rfl
  have hta : ∀ w : World, (Instr.typeAssert (.iface 121 (.agg #[.int .i64 h, .int .i64 v])) 20 121 true).run Try.prog w = .ok (.tuple #[.agg #[.int .i64 h, .int .i64 v], .bool true]) w := fun _ => by rfl
  apply wpS_seq
  apply wpS_region
  simp [wpOpsS, go_sem, Exit.thenS]
  refine wpS_cond (t := true) (by simp [Act.eval, Array.replicate]) ?_
  simp only [if_true]
  have q0 : w.cell? ⟨p, 5, none⟩ = some (.int .i64 0) := by rw [blk_cell hp]; rfl
  have q1 : w.cell? ⟨p, 6, none⟩ = some (.int .i64 0) := by rw [blk_cell hp]; rfl
  have qf := fun o => blk_free (blk_alloc hp o)
  have hn1 := World.new_ne w _ q0
  have n0 := fun o => (Below.al (Below.refl w.heap.size w) (o := o)).cellOf q0
  have n1 := fun o => (Below.al (Below.refl w.heap.size w) (o := o)).cellOf q1
  have hp2 : p ≠ w.heap.size := by have := blk_lt hp; omega
  have HP := Lib.hid hp
  have HU := Lib.hid hu
  have hxo := fun o => (Below.al (Below.refl w.heap.size w) (o := o)).cellOf hx
  clear hp hu
  refine wpS_of_wp ?_
  go_wp2
  have hn0 := World.new_ne w _ hx
  go_region_held3 (fun V_ => V_.cell? ⟨bx, 0, none⟩ = some (.pointer (some ⟨p, 0, none⟩)) ∧ V_.cell? ⟨w.heap.size, 0, none⟩ = some (.int .i64 h) ∧ V_.cell? ⟨w.heap.size, 1, none⟩ = some (.int .i64 v)) (go_keep) (fail)
  have hk : Keep (fun q => q = p) w (((w.alloc (.cells #[.int .i64 h, .int .i64 v] 121)).setCell ⟨p, 5, none⟩ (.int .i64 h)).setCell ⟨p, 6, none⟩ (.int .i64 v)) :=
    Keep.set (O := fun q => q = p) (Keep.set (O := fun q => q = p) ((Keep.refl _ w).alloc _) (p := ⟨p, 5, none⟩) (.inl rfl) _) (p := ⟨p, 6, none⟩) (.inl rfl) _
  exact ⟨rfl, _, rfl, _, results_none rfl _ _ _, rfl, rfl, hk.drew, blk_set (blk_set (blk_alloc HP.out _) 5 _) 6 _⟩
theorem catch_idle (bx : Nat) (w : World) :
    CallsD Try.prog 57 #[.pointer (some ⟨bx, 0, none⟩)] .returning w fun e u' w' => e = .returned (.tuple #[]) ∧ u' = .returning ∧ w' = w := by
  refine callsD_of_wpS Try.func57 rfl fun c₀ cs hu => ?_
  rw [show (#[.pointer (some ⟨bx, 0, none⟩)] ++ Array.replicate (Try.f57.ntmps - (#[.pointer (some ⟨bx, 0, none⟩)] : Array Value).size) undef : Array Value) = #[.pointer (some ⟨bx, 0, none⟩), undef, undef, undef, undef, undef, undef, undef, undef, undef, undef, undef, undef, undef, undef, undef, undef, undef, undef, undef, undef, undef, undef, undef] from by kernel_rfl]
  have hne : ∀ w : World, (binOp BinOp.neq 20 .nilIface .nilIface).run Try.prog w = .ok (.bool false) w := fun _ => by kernel_rfl
  apply wpS_seq
  apply wpS_region
  simp [wpOpsS, go_sem, recoverD, hu, Try.ntmps57, Exit.thenS]
  apply wpS_seq
  apply wpS_region
  simp [wpOpsS, go_sem, Exit.thenS]
  refine wpS_cond (t := false) (by simp [Act.eval, Array.replicate]) ?_
  simp only [Bool.false_eq_true, if_false]
  refine wpS_of_wp (wp_skip ?_)
  exact ⟨rfl, _, (by cases c₀; simp_all), _, results_none rfl _ _ _, rfl, rfl, rfl⟩
/-- how a run ended -/
def howE : Option (Int × Int) → Int × Int
  | none => (1, 0)
  | some x => x
/-- the effect of a run in the machine -/
structure EvOut (w : World) (p base : Nat) (S : Ev) (x : Int × Int) (M O I : Value) : Prop where
  blk : ∃ N V B, w.heap[p]? = some (.cells (oCells N V M O I x.1 x.2 S.ticks B) 91 (0, 0))
  mem : Row w 2 1 M S.mem.length (nums S.mem)
  outs : Row w 2 1 O S.outs.length (nums S.outs)
  intos : Row w 98 2 I S.intos.length (intoCells S.intos)
  fm : ∀ g, M.ownBlock = some g → base ≤ g
  fo : ∀ g, O.ownBlock = some g → base ≤ g
  fi : ∀ g, I.ownBlock = some g → base ≤ g
  mo : ∀ g, M.ownBlock = some g → O.ownBlock ≠ some g
theorem EvAt.ended {w w' : World} {p base : Nat} {B : Int} {S : Ev} {N V M O I : Value} (h : EvAt w p base B S N V M O I) (k : Keep (fun q => q = p) w w') (x : Int × Int) (hb : w'.heap[p]? = some (.cells (oCells N V M O I x.1 x.2 S.ticks B) 91 (0, 0))) : EvOut w' p base S x M O I :=
  have far : ∀ {v : Value} {z n : Nat} {ty : TypeId} {xs : List Value}, Row w ty z v n xs → ty ≠ 91 → Row w' ty z v n xs := fun hr hne => hr.keep fun g hg => k.block g (hr.lt hg) (fun e => hr.ne h.blk hne (by rw [hg, e]))
  ⟨⟨_, _, _, hb⟩, far h.mem (by decide), far h.outs (by decide), far h.intos (by decide), h.fm, h.fo, h.fi, h.mo⟩
set_option maxRecDepth 100000 in
set_option maxHeartbeats 4000000 in
theorem whole_calls (W : World) (p base : Nat) (B : Int) (hbase : W.heap.size ≤ base) (hB1 : B ≤ 1000000) (l : List Stmt) (A : Option Addr) (c d : Nat) (hrd : Stmt.rds W l A 0) (hnl : Stmt.nodesL l ≤ 1000000000) (hr : Stmt.rightsB nameB d l = true) (S : Ev) (w : World) (hsz : szE S) (htB : S.ticks ≤ B) (hB : Below W.heap.size W w) (hE : EvIn w p base B S) :
    Calls Try.prog 41 #[.pointer (some ⟨p, 0, none⟩), .slice A l.length c] w fun E w' => E = .returned (.tuple #[]) ∧ ∃ S' o M O I, Does B (.block l) S S' o ∧ Fx W w w' ∧ EvOut w' p base S' (howE o) M O I := by
  have hmf : ∀ (fn : Fn) (first cap : Array Value) (w : World), (Instr.makeFunc fn first cap).run Try.prog w = .ok (.func fn first cap) w := fun _ _ _ _ => rfl
  have hx := blk_new w (.cells #[.pointer (some ⟨p, 0, none⟩)] 87)
  have hb0 : Below w.heap.size w (w.alloc (.cells #[.pointer (some ⟨p, 0, none⟩)] 87)) := (Below.refl _ _).al
  have hf0 : Fx W w (w.alloc (.cells #[.pointer (some ⟨p, 0, none⟩)] 87)) := (Fx.refl _ _).belowR hB.size hb0
  have hk := eblock_of W p base B hbase hB1 (B.toNat + 2000000) (estmt_calls W p base B hbase hB1 _) l A c d hrd hnl hr S (w.alloc (.cells #[.pointer (some ⟨p, 0, none⟩)] 87)) hsz htB (by have := hsz.t; omega) (hB.trans hf0.below) (hE.below hb0)
  have hpw : p ≠ w.heap.size := by obtain ⟨N, V, M, O, I, h⟩ := hE; have := blk_lt h.blk; omega
  obtain ⟨bx, hbx⟩ : ∃ x, w.heap.size = x := ⟨_, rfl⟩
  obtain ⟨w0, hw0⟩ : ∃ x, w.alloc (.cells #[.pointer (some ⟨p, 0, none⟩)] 87) = x := ⟨_, rfl⟩
  rw [hbx] at hx hpw
  rw [hw0] at hx hf0 hk
  have HX := Lib.hid hx
  have HF0 := Lib.hid hf0
  have HK := Lib.hid hk
  have HW := Lib.hid hw0
  have HBX := Lib.hid hbx
  have HB := Lib.hid (hB.trans hf0.below)
  have HBS := Lib.hid hbase
  clear hx hf0 hk hw0 hb0 hbx hrd hnl hr hsz htB hB hE hbase hB1
  go_enter_defers Try.func41, Try.ntmps41
  go_wp2_with (have tk := HW; clear tk; rw [HW.out, HBX.out]; clear HW; have f0 := blk_cell HX.out 0)
  refine HK.out.mono ?_
  rintro y w1 ⟨S1, o, hd, ⟨N, V, M, O, I, he⟩, hf, rfl⟩
  have hx1 : w1.heap[bx]? = some (.cells #[.pointer (some ⟨p, 0, none⟩)] 87 (0, 0)) := hf.boxes _ (_, 1) HX.out
  have HX1 := Lib.hid hx1
  have HF1 := Lib.hid (HF0.out.trans hf)
  have HE1 := Lib.hid he
  have HB1 := Lib.hid (HB.out.trans hf.below)
  have HD := Lib.hid hd
  have hbl : ∀ (x : Int × Int), w1.heap[p]? = some (.cells (oCells N V M O I 0 0 S1.ticks B) 91 (0, 0)) := fun _ => he.blk
  clear f0 hd hf he hx1
  have f1 : w1.cell? ⟨bx, 0, none⟩ = some (.pointer (some ⟨p, 0, none⟩)) := blk_cell HX1.out 0
  cases o with
  | none =>
    simp only [leftE]
    have q5 : w1.cell? ⟨p, 5, none⟩ = some (.int .i64 0) := blk_cell HE1.out.blk 5
    have qf := blk_free HE1.out.blk
    go_wp2
    refine leaves_cons (f := 57) (args := #[.pointer (some ⟨bx, 0, none⟩)]) (by simp) (by simp [go_sem]) ?_
    refine (catch_idle bx _).mono ?_
    rintro e u' w2 ⟨rfl, rfl, rfl⟩
    have hk : Keep (fun q => q = p) w1 (w1.setCell ⟨p, 5, none⟩ (.int .i64 1)) := Keep.set (O := fun q => q = p) (Keep.refl _ w1) (p := ⟨p, 5, none⟩) (.inl rfl) _
    have hfin : EvOut (w1.setCell ⟨p, 5, none⟩ (.int .i64 1)) p base S1 (1, 0) M O I := HE1.out.ended hk (1, 0) (blk_set HE1.out.blk 5 _)
    have hff := HF1.out.keep hk HB1.out.size (fun q h => by subst h; exact Nat.le_trans HBS.out HE1.out.hb) (fun q cs h hq => HE1.out.noBox q cs h hq)
    exact ⟨_, results_none rfl _ _ _, rfl, S1, none, M, O, I, HD.out, hff, hfin⟩
  | some x =>
    refine leaves_cons (f := 57) (args := #[.pointer (some ⟨bx, 0, none⟩)]) (by simp) (by simp [go_sem]) ?_
    refine (catch_panicking bx p N V M O I S1.ticks B x.1 x.2 w1 hpw f1 (hbl x)).mono ?_
    rintro e u' w2 ⟨rfl, rfl, hk, hb2⟩
    have hfin := HE1.out.ended hk x hb2
    have hff := HF1.out.keep hk HB1.out.size (fun q h => by subst h; exact Nat.le_trans HBS.out HE1.out.hb) (fun q cs h hq => HE1.out.noBox q cs h hq)
    exact ⟨_, results_none rfl _ _ _, rfl, S1, some x, M, O, I, HD.out, hff, hfin⟩
end Go.Proofs.Ytjlnpppjkdcpkaa.My
