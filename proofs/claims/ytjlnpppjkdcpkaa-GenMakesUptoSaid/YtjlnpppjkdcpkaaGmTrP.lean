/- Which statements may be, in plain Lean; 'nm' says which texts are names. No program in sight. -/
import Derived.Test.YtjlnpppjkdcpkaaGmEvP
import Derived.Test.YtjlnpppjkdcpkaaGmLib
import Derived.Deep.MidRow
import Derived.Deep.AppendLies
import Derived.Deep.RegionLaw
import Derived.Deep.RegionHeld3
import Derived.StillTailTactics
namespace Go.Proofs.Ytjlnpppjkdcpkaa.My
open Go.RowKit Go.Proofs.Ytjlnpppjkdcpkaa.NumA
theorem Does.app {B : Int} {m : List Stmt} {S2 : Ev} {o : Option (Int × Int)} : ∀ {l : List Stmt} {S S' : Ev}, Does B (.seq l) S S' none → Does B (.seq m) S' S2 o → Does B (.seq (l ++ m)) S S2 o
  | [], _, _, h, h2 => by cases h; exact h2
  | _ :: _, _, _, h, h2 => by
    cases h with
    | next h h' => exact .next h (Does.app h' h2)
theorem doV_ticks (S : Ev) (s : Stmt) (a b : Int) : (doV S s a b).1.ticks = S.ticks := by
  unfold doV
  repeat' split
  all_goals rfl
theorem doV_more (S : Ev) (s : Stmt) (a b : Int) : S.outs <+: (doV S s a b).1.outs ∧ S.intos <+: (doV S s a b).1.intos := by
  unfold doV
  repeat' split
  all_goals first | exact ⟨List.prefix_rfl, List.prefix_rfl⟩ | exact ⟨List.prefix_append _ _, List.prefix_rfl⟩ | exact ⟨List.prefix_rfl, List.prefix_append _ _⟩
theorem Does.ticks {B : Int} {t : Task} {S S' : Ev} {o : Option (Int × Int)} (h : Does B t S S' o) : S.ticks ≤ S'.ticks ∧ (S.ticks ≤ B → S'.ticks ≤ B) := by
  induction h with
  | nil => exact ⟨Int.le_refl _, id⟩
  | first _ ih => exact ih
  | next _ _ ih1 ih2 => exact ⟨Int.le_trans ih1.1 ih2.1, fun h => ih2.2 (ih1.2 h)⟩
  | block _ ih => exact ih
  | blockLeft _ ih => exact ih
  | loops hk _ ih => exact ih
  | spent hk ht => exact ⟨Int.le_refl _, id⟩
  | fell hk ht he => exact ⟨by simp only [Ev.tick]; omega, fun h => by simp only [Ev.tick]; omega⟩
  | does hk hk2 ht he => rw [doV_ticks]; exact ⟨by simp only [Ev.tick]; omega, fun h => by simp only [Ev.tick]; omega⟩
  | thn hk ht he hv _ ih => simp only [Ev.tick] at ih; exact ⟨by omega, fun h => ih.2 (by omega)⟩
  | els hk ht he hv _ ih => simp only [Ev.tick] at ih; exact ⟨by omega, fun h => ih.2 (by omega)⟩
  | loopSpent ht => exact ⟨Int.le_refl _, id⟩
  | loopFell ht he => exact ⟨by simp only [Ev.tick]; omega, fun h => by simp only [Ev.tick]; omega⟩
  | loopEnd ht he hv => exact ⟨by simp only [Ev.tick]; omega, fun h => by simp only [Ev.tick]; omega⟩
  | loopLeft ht he hv _ ih => simp only [Ev.tick] at ih; exact ⟨by omega, fun h => ih.2 (by omega)⟩
  | again ht he hv _ _ ih1 ih2 => simp only [Ev.tick] at ih1; exact ⟨by omega, fun h => ih2.2 (ih1.2 (by omega))⟩
theorem Does.outs {B : Int} {t : Task} {S S' : Ev} {o : Option (Int × Int)} (h : Does B t S S' o) : S.outs <+: S'.outs ∧ S.intos <+: S'.intos := by
  induction h with
  | nil => exact ⟨List.prefix_rfl, List.prefix_rfl⟩
  | first _ ih => exact ih
  | next _ _ ih1 ih2 => exact ⟨ih1.1.trans ih2.1, ih1.2.trans ih2.2⟩
  | block _ ih => exact ih
  | blockLeft _ ih => exact ih
  | loops hk _ ih => exact ih
  | spent hk ht => exact ⟨List.prefix_rfl, List.prefix_rfl⟩
  | fell hk ht he => exact ⟨List.prefix_rfl, List.prefix_rfl⟩
  | @does s S vs hk hk2 ht he => exact doV_more S.tick s _ _
  | thn hk ht he hv _ ih => exact ih
  | els hk ht he hv _ ih => exact ih
  | loopSpent ht => exact ⟨List.prefix_rfl, List.prefix_rfl⟩
  | loopFell ht he => exact ⟨List.prefix_rfl, List.prefix_rfl⟩
  | loopEnd ht he hv => exact ⟨List.prefix_rfl, List.prefix_rfl⟩
  | loopLeft ht he hv _ ih => exact ih
  | again ht he hv _ _ ih1 ih2 => exact ⟨ih1.1.trans ih2.1, ih1.2.trans ih2.2⟩
end Go.Proofs.Ytjlnpppjkdcpkaa.My
namespace Go.Proofs.Ytjlnpppjkdcpkaa.My
open Go.RowKit
set_option linter.unusedVariables false
theorem _root_.Go.RowKit.Below.al {a w : World} {o : Obj} (h : Below a.heap.size a w) : Below a.heap.size a (w.alloc o) := h.alloc h.size o
theorem _root_.Go.RowKit.Below.cellOf {w w' : World} (hB : Below w.heap.size w w') {a : Addr} {v : Value} (h : w.cell? a = some v) : w'.cell? a = some v := (hB.cell (World.block_lt_of_cell? w _ h)).trans h
theorem range_at {w : World} {g : Nat} {arr : Array Value} {t : TypeId} (h : w.heap[g]? = some (.cells arr t (0, 0))) (o : Nat) (cs : List Value) (he : (arr.toList.drop o).take cs.length = cs) : w.rangeAt g o cs := by
  intro j v hv
  rw [blk_cell h, ← Array.getElem?_toList]
  have hj : j < cs.length := (List.getElem?_eq_some_iff.1 hv).1
  rw [← he, List.getElem?_take, if_pos hj, List.getElem?_drop] at hv
  exact hv
theorem results_cell {P : Program} {fn : Func} {t : Tmp} {ty : TypeId} {d : TypeDesc} (h : fn.results = #[.cell t ty]) (tmps : Array Value) (w : World) (b : Nat) (cs : List Value) (ht : tmps.getD t undef = .pointer (some ⟨b, 0, none⟩)) (hc : w.rangeAt b 0 cs) (hu : P.underlying ty = some d) (hd : d.isRow = true) (hi : (P.info? ty).map (·.size) = some cs.length) :
    (results fn tmps).run P w = .ok (.agg cs.toArray) w := by
  have ht' : tmps[t]?.getD undef = .pointer (some ⟨b, 0, none⟩) := by simpa using ht
  simp [results, h, ht', asAddr, run_loadVar_mid w b 0 ty cs d hc hu hd hi]
theorem below_drewN {B : Nat} {a w : World} (h : Below B a w) (n : Nat) : Below B a (w.drewN n) := ⟨h.os, h.tape, h.output, h.size, h.block⟩
theorem size_al (w : World) (o : Obj) : (w.alloc o).heap.size = w.heap.size + 1 := by simp
theorem below_fromdrew {w w1 : World} (hb : Below w.drew.heap.size w.drew w1) : Below w.heap.size w w1 := ⟨hb.os, hb.tape, hb.output, hb.size, hb.block⟩
end Go.Proofs.Ytjlnpppjkdcpkaa.My
namespace Go.Proofs.Ytjlnpppjkdcpkaa.My
open Go.RowKit
def wantE (k : Int) : Int := if k = 5 then 2 else if k = 3 ∨ k = 4 then 1 else 0
def fieldsB (nm : ByteArray → Bool) (k n : Int) (s : ByteArray) (o : Int) : Bool :=
  (if k = 1 then decide (0 ≤ n) else decide (n = 0)) && (if k = 2 then nm s else decide (s = ByteArray.empty)) && (if k = 4 then decide (19 ≤ o ∧ o ≤ 21) else if k = 5 then decide (1 ≤ o ∧ o ≤ 18) else decide (o = 0))
mutual
def Expr.rightB (nm : ByteArray → Bool) (deep : Nat) : Expr → Bool
  | .mk k n s o la => decide (deep ≤ 48) && decide (1 ≤ k ∧ k ≤ 5) && decide ((la.length : Int) = wantE k) && fieldsB nm k n s o && Expr.rightsB nm (deep + 1) la
def Expr.rightsB (nm : ByteArray → Bool) (deep : Nat) : List Expr → Bool
  | [] => true
  | e :: l => e.rightB nm deep && Expr.rightsB nm deep l
end
def wantA (k : Int) : Int := if k = 3 then 2 else if k = 9 then 0 else 1
def headB (nm : ByteArray → Bool) (k : Int) (s : ByteArray) (c : Int) (args body els : Nat) : Bool :=
  decide (1 ≤ k ∧ k ≤ 9) && decide ((args : Int) = wantA k) && (if k = 1 ∨ k = 2 then nm s else !nm s && decide (s = ByteArray.empty)) && (if k = 5 then decide (0 ≤ c ∧ c ≤ 255) else decide (c = 0)) &&
    (if k = 6 ∨ k = 7 then true else decide (body = 0)) && (if k = 6 then true else decide (els = 0))
mutual
def Stmt.rightB (nm : ByteArray → Bool) (blocks : Nat) : Stmt → Bool
  | .mk k s c la lb le => headB nm k s c la.length lb.length le.length && Expr.rightsB nm 1 la && (if k = 6 ∨ k = 7 then decide (blocks + 1 ≤ 12) && Stmt.rightsB nm (blocks + 1) lb else true) && (if le.length = 0 then true else decide (blocks + 1 ≤ 12) && Stmt.rightsB nm (blocks + 1) le)
def Stmt.rightsB (nm : ByteArray → Bool) (blocks : Nat) : List Stmt → Bool
  | [] => true
  | s :: l => s.rightB nm blocks && Stmt.rightsB nm blocks l
end
/-- may these statements be? -/
def rightP (nm : ByteArray → Bool) (l : List Stmt) : Bool := Stmt.rightsB nm 0 l && decide (Stmt.nodesL l ≤ 600)
theorem Expr.rightB_eq (nm : ByteArray → Bool) (d : Nat) (e : Expr) : e.rightB nm d = (decide (d ≤ 48) && decide (1 ≤ e.kind ∧ e.kind ≤ 5) && decide ((e.args.length : Int) = wantE e.kind) && fieldsB nm e.kind e.num e.name e.op && Expr.rightsB nm (d + 1) e.args) := by cases e; rfl
theorem Stmt.rightB_eq (nm : ByteArray → Bool) (d : Nat) (e : Stmt) : e.rightB nm d = (headB nm e.kind e.name e.cell e.args.length e.body.length e.els.length && Expr.rightsB nm 1 e.args && (if e.kind = 6 ∨ e.kind = 7 then decide (d + 1 ≤ 12) && Stmt.rightsB nm (d + 1) e.body else true) && (if e.els.length = 0 then true else decide (d + 1 ≤ 12) && Stmt.rightsB nm (d + 1) e.els)) := by cases e; rfl
theorem Expr.rightsB_snoc (nm : ByteArray → Bool) (d : Nat) (e : Expr) : ∀ l : List Expr, Expr.rightsB nm d (l ++ [e]) = (Expr.rightsB nm d l && e.rightB nm d)
  | [] => by simp [Expr.rightsB]
  | x :: l => by simp only [List.cons_append, Expr.rightsB, Expr.rightsB_snoc nm d e l, Bool.and_assoc]
theorem Stmt.rightsB_app (nm : ByteArray → Bool) (d : Nat) (m : List Stmt) : ∀ l : List Stmt, Stmt.rightsB nm d (l ++ m) = (Stmt.rightsB nm d l && Stmt.rightsB nm d m)
  | [] => by simp [Stmt.rightsB]
  | x :: l => by simp only [List.cons_append, Stmt.rightsB, Stmt.rightsB_app nm d m l, Bool.and_assoc]
theorem Expr.rightsB_all {nm : ByteArray → Bool} {d : Nat} : ∀ {l : List Expr}, Expr.rightsB nm d l = true → ∀ e ∈ l, e.rightB nm d = true
  | x :: l, h, e, he => by
    simp only [Expr.rightsB, Bool.and_eq_true] at h
    rcases List.mem_cons.1 he with rfl | he
    · exact h.1
    · exact Expr.rightsB_all h.2 e he
theorem Stmt.rightsB_all {nm : ByteArray → Bool} {d : Nat} : ∀ {l : List Stmt}, Stmt.rightsB nm d l = true → ∀ e ∈ l, e.rightB nm d = true
  | x :: l, h, e, he => by
    simp only [Stmt.rightsB, Bool.and_eq_true] at h
    rcases List.mem_cons.1 he with rfl | he
    · exact h.1
    · exact Stmt.rightsB_all h.2 e he
theorem Stmt.nodesL_app (m : List Stmt) : ∀ l : List Stmt, Stmt.nodesL (l ++ m) = Stmt.nodesL l + Stmt.nodesL m
  | [] => by simp [Stmt.nodesL]
  | x :: l => by simp only [List.cons_append, Stmt.nodesL, Stmt.nodesL_app m l]; omega
theorem Expr.nodesL_app (m : List Expr) : ∀ l : List Expr, Expr.nodesL (l ++ m) = Expr.nodesL l + Expr.nodesL m
  | [] => by simp [Expr.nodesL]
  | x :: l => by simp only [List.cons_append, Expr.nodesL, Expr.nodesL_app m l]; omega
end Go.Proofs.Ytjlnpppjkdcpkaa.My
