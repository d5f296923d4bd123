/- Layer 6 as9 plain functions: which register each name of a tree is, as9 they are gone through. No program in sight. -/
import Derived.Test.YtjlnpppjkdcpkaaEREv64
import Derived.Test.YtjlnpppjkdcpkaaERLib
import Derived.Deep.MidRow
import Derived.Deep.AppendLies
import Derived.Deep.RegionLaw
import Derived.Deep.RegionHeld3
import Derived.StillTailTactics
namespace Go.Proofs.Ytjlnpppjkdcpkaa.My
open Go.RowKit Go.Proofs.Ytjlnpppjkdcpkaa.NumA
theorem Does.app {B : Int} {m : List Stmt} {S2 : Ev} {o : Option (Int × Int)} : ∀ {l : List Stmt} {S S' : Ev}, Does B (.seq l) S S' none → Does B (.seq m) S' S2 o → Does B (.seq (l ++ m)) S S2 o
 | [], _, _, h, h2 => by cases h; exact h2
 | _ :: _, _, _, h, h2 => by
  cases h with
  | next h h' => exact .next h (Does.app h' h2)
theorem doV_ticks (S : Ev) (s : Stmt) (a b : Int) : (doV S s a b).1.ticks = S.ticks := by
 unfold doV; repeat' split
 all_goals rfl
theorem doV_more (S : Ev) (s : Stmt) (a b : Int) : S.outs <+: (doV S s a b).1.outs ∧ S.intos <+: (doV S s a b).1.intos := by
 unfold doV; repeat' split
 all_goals first | exact ⟨List.prefix_rfl, List.prefix_rfl⟩ | exact ⟨List.prefix_append _ _, List.prefix_rfl⟩ | exact ⟨List.prefix_rfl, List.prefix_append _ _⟩
theorem Does.ticks {B : Int} {t : Task} {S S' : Ev} {o : Option (Int × Int)} (h : Does B t S S' o) : S.ticks ≤ S'.ticks ∧ (S.ticks ≤ B → S'.ticks ≤ B) := by
 induction h with
 | nil => exact ⟨Int.le_refl _, id⟩
 | first _ ih => exact ih
 | next _ _ ih1 ih2 => exact ⟨Int.le_trans ih1.1 ih2.1, fun h => ih2.2 (ih1.2 h)⟩
 | block _ ih => exact ih
 | blockLeft _ ih => exact ih
 | loops hk _ ih => exact ih
 | spent hk ht => exact ⟨Int.le_refl _, id⟩
 | fell hk ht he => exact ⟨by simp only [Ev.tick]; omega, fun h => by simp only [Ev.tick]; omega⟩
 | does hk hk2 ht he => rw [doV_ticks]; exact ⟨by simp only [Ev.tick]; omega, fun h => by simp only [Ev.tick]; omega⟩
 | thn hk ht he hv _ ih => simp only [Ev.tick] at ih; exact ⟨by omega, fun h => ih.2 (by omega)⟩
 | els hk ht he hv _ ih => simp only [Ev.tick] at ih; exact ⟨by omega, fun h => ih.2 (by omega)⟩
 | loopSpent ht => exact ⟨Int.le_refl _, id⟩
 | loopFell ht he => exact ⟨by simp only [Ev.tick]; omega, fun h => by simp only [Ev.tick]; omega⟩
 | loopEnd ht he hv => exact ⟨by simp only [Ev.tick]; omega, fun h => by simp only [Ev.tick]; omega⟩
 | loopLeft ht he hv _ ih => simp only [Ev.tick] at ih; exact ⟨by omega, fun h => ih.2 (by omega)⟩
 | again ht he hv _ _ ih1 ih2 => simp only [Ev.tick] at ih1; exact ⟨by omega, fun h => ih2.2 (ih1.2 (by omega))⟩
theorem Does.outs {B : Int} {t : Task} {S S' : Ev} {o : Option (Int × Int)} (h : Does B t S S' o) : S.outs <+: S'.outs ∧ S.intos <+: S'.intos := by
 induction h with
 | nil => exact ⟨List.prefix_rfl, List.prefix_rfl⟩
 | first _ ih => exact ih
 | next _ _ ih1 ih2 => exact ⟨ih1.1.trans ih2.1, ih1.2.trans ih2.2⟩
 | block _ ih => exact ih
 | blockLeft _ ih => exact ih
 | loops hk _ ih => exact ih
 | spent hk ht => exact ⟨List.prefix_rfl, List.prefix_rfl⟩
 | fell hk ht he => exact ⟨List.prefix_rfl, List.prefix_rfl⟩
 | @does s S vs hk hk2 ht he => exact doV_more S.tick s _ _
 | thn hk ht he hv _ ih => exact ih
 | els hk ht he hv _ ih => exact ih
 | loopSpent ht => exact ⟨List.prefix_rfl, List.prefix_rfl⟩
 | loopFell ht he => exact ⟨List.prefix_rfl, List.prefix_rfl⟩
 | loopEnd ht he hv => exact ⟨List.prefix_rfl, List.prefix_rfl⟩
 | loopLeft ht he hv _ ih => exact ih
 | again ht he hv _ _ ih1 ih2 => exact ⟨ih1.1.trans ih2.1, ih1.2.trans ih2.2⟩
end Go.Proofs.Ytjlnpppjkdcpkaa.My
namespace Go.Proofs.Ytjlnpppjkdcpkaa.My
open Go.RowKit
set_option linter.unusedVariables false
theorem _root_.Go.RowKit.Below.al {a w : World} {o : Obj} (h : Below a.heap.size a w) : Below a.heap.size a (w.alloc o) := h.alloc h.size o
theorem _root_.Go.RowKit.Below.cellOf {w w' : World} (hB : Below w.heap.size w w') {a : Addr} {v : Value} (h : w.cell? a = some v) : w'.cell? a = some v := (hB.cell (World.block_lt_of_cell? w _ h)).trans h
theorem range_at {w : World} {g : Nat} {arr : Array Value} {t : TypeId} (h : w.heap[g]? = some (.cells arr t (0, 0))) (o : Nat) (cs : List Value) (he : (arr.toList.drop o).take cs.length = cs) : w.rangeAt g o cs := by
 intro j v hv; rw [blk_cell h, ← Array.getElem?_toList]; have hj : j < cs.length := (List.getElem?_eq_some_iff.1 hv).1
 rw [← he, List.getElem?_take, if_pos hj, List.getElem?_drop] at hv; exact hv
theorem results_cell {P : Program} {fn : Func} {t : Tmp} {ty : TypeId} {d : TypeDesc} (h : fn.results = #[.cell t ty]) (tmps : Array Value) (w : World) (b : Nat) (cs : List Value) (ht : tmps.getD t undef = .pointer (some ⟨b, 0, none⟩)) (hc : w.rangeAt b 0 cs) (hu : P.underlying ty = some d) (hd : d.isRow = true) (hi : (P.info? ty).map (·.size) = some cs.length) :
  (results fn tmps).run P w = .ok (.agg cs.toArray) w := by
 have ht' : tmps[t]?.getD undef = .pointer (some ⟨b, 0, none⟩) := by simpa using ht
 simp [results, h, ht', asAddr, run_loadVar_mid w b 0 ty cs d hc hu hd hi]
theorem below_drewN {B : Nat} {a w : World} (h : Below B a w) (n : Nat) : Below B a (w.drewN n) := ⟨h.os, h.tape, h.output, h.size, h.block⟩
theorem size_al (w : World) (o : Obj) : (w.alloc o).heap.size = w.heap.size + 1 := by simp
theorem below_fromdrew {w w1 : World} (hb : Below w.drew.heap.size w.drew w1) : Below w.heap.size w w1 := ⟨hb.os, hb.tape, hb.output, hb.size, hb.block⟩
theorem keep_cell {W w1 : World} {a : Addr} {v : Value} (hb : Below W.heap.size W w1) (h : W.cell? a = some v) : w1.cell? a = some v := (hb.cell (World.block_lt_of_cell? W _ h)).trans h
end Go.Proofs.Ytjlnpppjkdcpkaa.My
namespace Go.Proofs.Ytjlnpppjkdcpkaa.My
open Go.RowKit
def wantE (k : Int) : Int := if k = 5 then 2 else if k = 3 ∨ k = 4 then 1 else 0
def fieldsB (nm : ByteArray → Bool) (k n : Int) (s : ByteArray) (o : Int) : Bool :=
 (if k = 1 then decide (0 ≤ n) else decide (n = 0)) && (if k = 2 then nm s else decide (s = ByteArray.empty)) && (if k = 4 then decide (19 ≤ o ∧ o ≤ 21) else if k = 5 then decide (1 ≤ o ∧ o ≤ 18) else decide (o = 0))
mutual
def Expr.rightB (nm : ByteArray → Bool) (deep : Nat) : Expr → Bool
 | .mk k n s o la => decide (deep ≤ 48) && decide (1 ≤ k ∧ k ≤ 5) && decide ((la.length : Int) = wantE k) && fieldsB nm k n s o && Expr.rightsB nm (deep + 1) la
def Expr.rightsB (nm : ByteArray → Bool) (deep : Nat) : List Expr → Bool
 | [] => true
 | e :: l => e.rightB nm deep && Expr.rightsB nm deep l
end
def wantA (k : Int) : Int := if k = 3 then 2 else if k = 9 then 0 else 1
def headB (nm : ByteArray → Bool) (k : Int) (s : ByteArray) (c : Int) (args body els : Nat) : Bool :=
 decide (1 ≤ k ∧ k ≤ 9) && decide ((args : Int) = wantA k) && (if k = 1 ∨ k = 2 then nm s else !nm s && decide (s = ByteArray.empty)) && (if k = 5 then decide (0 ≤ c ∧ c ≤ 255) else decide (c = 0)) &&
  (if k = 6 ∨ k = 7 then true else decide (body = 0)) && (if k = 6 then true else decide (els = 0))
mutual
def Stmt.rightB (nm : ByteArray → Bool) (blocks : Nat) : Stmt → Bool
 | .mk k s c la lb le => headB nm k s c la.length lb.length le.length && Expr.rightsB nm 1 la && (if k = 6 ∨ k = 7 then decide (blocks + 1 ≤ 12) && Stmt.rightsB nm (blocks + 1) lb else true) && (if le.length = 0 then true else decide (blocks + 1 ≤ 12) && Stmt.rightsB nm (blocks + 1) le)
def Stmt.rightsB (nm : ByteArray → Bool) (blocks : Nat) : List Stmt → Bool
 | [] => true
 | s :: l => s.rightB nm blocks && Stmt.rightsB nm blocks l
end
/-- may these statements be? -/
def rightP (nm : ByteArray → Bool) (l : List Stmt) : Bool := Stmt.rightsB nm 0 l && decide (Stmt.nodesL l ≤ 600)
theorem Expr.rightB_eq (nm : ByteArray → Bool) (d : Nat) (e : Expr) : e.rightB nm d = (decide (d ≤ 48) && decide (1 ≤ e.kind ∧ e.kind ≤ 5) && decide ((e.args.length : Int) = wantE e.kind) && fieldsB nm e.kind e.num e.name e.op && Expr.rightsB nm (d + 1) e.args) := by cases e; rfl
theorem Stmt.rightB_eq (nm : ByteArray → Bool) (d : Nat) (e : Stmt) : e.rightB nm d = (headB nm e.kind e.name e.cell e.args.length e.body.length e.els.length && Expr.rightsB nm 1 e.args && (if e.kind = 6 ∨ e.kind = 7 then decide (d + 1 ≤ 12) && Stmt.rightsB nm (d + 1) e.body else true) && (if e.els.length = 0 then true else decide (d + 1 ≤ 12) && Stmt.rightsB nm (d + 1) e.els)) := by cases e; rfl
theorem Expr.rightsB_snoc (nm : ByteArray → Bool) (d : Nat) (e : Expr) : ∀ l : List Expr, Expr.rightsB nm d (l ++ [e]) = (Expr.rightsB nm d l && e.rightB nm d)
 | [] => by simp [Expr.rightsB]
 | x :: l => by simp only [List.cons_append, Expr.rightsB, Expr.rightsB_snoc nm d e l, Bool.and_assoc]
theorem Stmt.rightsB_app (nm : ByteArray → Bool) (d : Nat) (m : List Stmt) : ∀ l : List Stmt, Stmt.rightsB nm d (l ++ m) = (Stmt.rightsB nm d l && Stmt.rightsB nm d m)
 | [] => by simp [Stmt.rightsB]
 | x :: l => by simp only [List.cons_append, Stmt.rightsB, Stmt.rightsB_app nm d m l, Bool.and_assoc]
theorem Expr.rightsB_all {nm : ByteArray → Bool} {d : Nat} : ∀ {l : List Expr}, Expr.rightsB nm d l = true → ∀ e ∈ l, e.rightB nm d = true
 | x :: l, h, e, he => by
  simp only [Expr.rightsB, Bool.and_eq_true] at h
  rcases List.mem_cons.1 he with rfl | he
  ·exact h.1
  ·exact Expr.rightsB_all h.2 e he
theorem Stmt.rightsB_all {nm : ByteArray → Bool} {d : Nat} : ∀ {l : List Stmt}, Stmt.rightsB nm d l = true → ∀ e ∈ l, e.rightB nm d = true
 | x :: l, h, e, he => by
  simp only [Stmt.rightsB, Bool.and_eq_true] at h
  rcases List.mem_cons.1 he with rfl | he
  ·exact h.1
  ·exact Stmt.rightsB_all h.2 e he
theorem Stmt.nodesL_app (m : List Stmt) : ∀ l : List Stmt, Stmt.nodesL (l ++ m) = Stmt.nodesL l + Stmt.nodesL m
 | [] => by simp [Stmt.nodesL]
 | x :: l => by simp only [List.cons_append, Stmt.nodesL, Stmt.nodesL_app m l]; omega
theorem Expr.nodesL_app (m : List Expr) : ∀ l : List Expr, Expr.nodesL (l ++ m) = Expr.nodesL l + Expr.nodesL m
 | [] => by simp [Expr.nodesL]
 | x :: l => by simp only [List.cons_append, Expr.nodesL, Expr.nodesL_app m l]; omega
end Go.Proofs.Ytjlnpppjkdcpkaa.My
namespace Go.Proofs.Ytjlnpppjkdcpkaa.My
def idx : List ByteArray → ByteArray → Option Nat
 | [], _ => none
 | x :: l, s => if x = s then some 0 else (idx l s).map (· + 1)
/-- a name's register -/
def regOf (names : List ByteArray) (s : ByteArray) : Option Int :=
 if s = ⟨#[107]⟩ then some 2 else if s = ⟨#[105]⟩ then some 1 else if s = ⟨#[110]⟩ then some 0
 else (idx names s).map fun (j : Nat) => 3 + (j : Int)
def putF (f : ByteArray → Option Int) (x : ByteArray) (c : Int) (s : ByteArray) : Option Int := if s = x then some c else f s
def delF (f : ByteArray → Option Int) (x : ByteArray) (s : ByteArray) : Option Int := if s = x then none else f s
theorem regOf_nil : putF (putF (putF (fun _ => none) ⟨#[110]⟩ 0) ⟨#[105]⟩ 1) ⟨#[107]⟩ 2 = regOf [] := by
 funext s
 simp [putF, regOf, idx]
theorem idx_none {l : List ByteArray} {s : ByteArray} : idx l s = none ↔ s ∉ l := by
 induction l with
 | nil => simp [idx]
 | cons x l ih =>
  by_cases h : x = s
  ·subst h; simp [idx]
  ·simp [idx, h, ih, Ne.symm h]
theorem idx_lt {l : List ByteArray} {s : ByteArray} {j : Nat} (h : idx l s = some j) : j < l.length := by
 induction l generalizing j with
 | nil => simp [idx] at h
 | cons x l ih =>
  by_cases hx : x = s
  ·subst hx; simp [idx] at h; subst h; simp
  ·simp [idx, hx] at h
   obtain ⟨i, hi, rfl⟩ := h; have := ih hi
   simp; omega
theorem idx_append (l m : List ByteArray) (s : ByteArray) : idx (l ++ m) s = match idx l s with | some j => some j | none => (idx m s).map (· + l.length) := by
 induction l with
 | nil => simp [idx]
 | cons x l ih =>
  by_cases hx : x = s
  ·simp [idx, hx]
  ·simp only [List.cons_append, idx, if_neg hx, ih]
   cases idx l s with
   | some j => rfl
   | none =>
    simp [Function.comp_def]
    cases idx m s with
    | none => rfl
    | some j => simp; omega
theorem regOf_far {names : List ByteArray} {x : ByteArray} (h : regOf names x = none) : x ∉ names ∧ x ≠ ⟨#[107]⟩ ∧ x ≠ ⟨#[105]⟩ ∧ x ≠ ⟨#[110]⟩ := by
 unfold regOf at h; split at h
 ·cases h
 ·split at h
  ·cases h
  ·split at h
   ·cases h
   ·rename_i h1 h2 h3
    exact ⟨idx_none.1 (Option.map_eq_none_iff.1 h), h1, h2, h3⟩
theorem regOf_put {names : List ByteArray} {x : ByteArray} (h : regOf names x = none) : putF (regOf names) x (3 + (names.length : Int)) = regOf (names ++ [x]) := by
 obtain ⟨h0, h1, h2, h3⟩ := regOf_far h; funext s
 unfold putF; by_cases hs : s = x
 ·subst hs
  simp [regOf, h1, h2, h3, idx_append, idx_none.2 h0, idx]
 ·simp only [hs, if_false, regOf, idx_append]
  cases hi : idx names s with
  | some j => rfl
  | none => simp [idx, Ne.symm hs]
structure okN (names : List ByteArray) : Prop where
 nodup : names.Nodup
 far : ∀ x ∈ names, x ≠ ⟨#[107]⟩ ∧ x ≠ ⟨#[105]⟩ ∧ x ≠ ⟨#[110]⟩
 len : names.length ≤ 8
 size : ∀ x ∈ names, x.size ≤ 9223372036854775807
theorem okN.nil : okN [] := ⟨List.nodup_nil, by simp, by simp, by simp⟩
theorem okN.put {names : List ByteArray} (h : okN names) {x : ByteArray} (hx : regOf names x = none) (hl : names.length ≠ 8) (hs : x.size ≤ 9223372036854775807) : okN (names ++ [x]) := by
 obtain ⟨h0, h1, h2, h3⟩ := regOf_far hx; have := h.len
 refine ⟨List.nodup_append.2 ⟨h.nodup, by simp, fun a ha b hb e => ?_⟩, fun y hy => ?_, by simp; omega, fun y hy => ?_⟩
 ·simp at hb; subst hb; subst e; exact h0 ha
 ·rcases List.mem_append.1 hy with hy | hy
  ·exact h.far y hy
  ·simp at hy; subst hy; exact ⟨h1, h2, h3⟩
 ·rcases List.mem_append.1 hy with hy | hy
  ·exact h.size y hy
  ·simp at hy; subst hy; exact hs
theorem okN.take {names : List ByteArray} (h : okN names) (m : Nat) : okN (names.take m) :=
 ⟨h.nodup.sublist (List.take_sublist _ _), fun x hx => h.far x (List.mem_of_mem_take hx), by have := h.len; simp; omega, fun x hx => h.size x (List.mem_of_mem_take hx)⟩
theorem okN.back {names : List ByteArray} (h : okN names) (m : Nat) (s : ByteArray) : (s ∈ names.drop m → regOf (names.take m) s = none) ∧ (s ∉ names.drop m → regOf (names.take m) s = regOf names s) := by
 refine ⟨fun hs => ?_, fun hs => ?_⟩
 ·obtain ⟨h1, h2, h3⟩ := h.far s (List.mem_of_mem_drop hs)
  have hn : s ∉ names.take m := fun ht => by
   have hd := h.nodup; rw [← List.take_append_drop m names] at hd; exact (List.nodup_append.1 hd).2.2 s ht s hs rfl
  simp [regOf, h1, h2, h3, idx_none.2 hn]
 ·have e : idx names s = idx (names.take m) s := by
   conv => lhs; rw [← List.take_append_drop m names, idx_append]
   cases idx (names.take m) s with
   | some j => rfl
   | none => simp [idx_none.2 hs]
  simp [regOf, e]
structure Sc where
 names : List ByteArray
 out : List Int
 most : Int
 cells : Int
def look (S : Sc) (x : ByteArray) : Int × Sc :=
 match regOf S.names x with
 | none => (60, S)
 | some r => (0, { S with out := S.out ++ [r] })
def declare (S : Sc) (x : ByteArray) : Int × Sc :=
 if (regOf S.names x).isSome = true then (61, S)
 else if S.names.length = 8 then (62, S)
 else look { S with names := S.names ++ [x], most := if S.most < (S.names.length : Int) + 1 then (S.names.length : Int) + 1 else S.most } x
mutual
def exprS (S : Sc) : Expr → Int × Sc
 | .mk k _ s _ as9 => if k = 2 then look S s else exprsS S as9
def exprsS (S : Sc) : List Expr → Int × Sc
 | [] => (0, S)
 | e :: l => if (exprS S e).1 = 0 then exprsS (exprS S e).2 l else exprS S e
end
def kindS (S : Sc) (k : Int) (s : ByteArray) (c : Int) : Int × Sc :=
 if k = 1 then declare S s else if k = 2 then look S s
 else if k = 5 then (if c ≥ (if 4 < S.cells then 4 else S.cells) then 63 else 0, S) else (0, S)
mutual
def stmtS (S : Sc) : Stmt → Int × Sc
 | .mk k s c as9 bs es =>
  if (exprsS S as9).1 = 0 then
   let r := kindS (exprsS S as9).2 k s c
   if r.1 = 0 then
    let b := blockS r.2 bs
    if b.1 = 0 then blockS b.2 es else b
   else r
  else exprsS S as9
def blockS (S : Sc) (l : List Stmt) : Int × Sc :=
 let r := stmtsS S l
 (r.1, { r.2 with names := r.2.names.take S.names.length })
def stmtsS (S : Sc) : List Stmt → Int × Sc
 | [] => (0, S)
 | s :: l => if (stmtS S s).1 = 0 then stmtsS (stmtS S s).2 l else stmtS S s
end
theorem exprS_eq (S : Sc) (e : Expr) : exprS S e = if e.kind = 2 then look S e.name else exprsS S e.args := by cases e; simp only [exprS]; rfl
theorem exprsS_snoc (S : Sc) (l : List Expr) (e : Expr) : exprsS S (l ++ [e]) = if (exprsS S l).1 = 0 then exprS (exprsS S l).2 e else exprsS S l := by
 induction l generalizing S with
 | nil => simp [exprsS]; intro h; exact Prod.ext h.symm rfl
 | cons x l ih =>
  simp only [List.cons_append, exprsS]
  by_cases h : (exprS S x).1 = 0
  ·simp only [h, if_true, ih]
  ·simp only [h, if_false]
theorem exprsS_stop (S : Sc) (l : List Expr) (k : Nat) (h : (exprsS S (l.take k)).1 ≠ 0) : exprsS S l = exprsS S (l.take k) := by
 induction l generalizing S k with
 | nil => simp
 | cons x l ih =>
  cases k with
  | zero => simp [exprsS] at h
  | succ k =>
   simp only [List.take_succ_cons, exprsS] at h ⊢
   by_cases h1 : (exprS S x).1 = 0
   ·simp only [h1, if_true] at h ⊢; exact ih _ _ h
   ·simp only [h1, if_false]
theorem stmtsS_snoc (S : Sc) (l : List Stmt) (e : Stmt) : stmtsS S (l ++ [e]) = if (stmtsS S l).1 = 0 then stmtS (stmtsS S l).2 e else stmtsS S l := by
 induction l generalizing S with
 | nil => simp [stmtsS]; intro h; exact Prod.ext h.symm rfl
 | cons x l ih =>
  simp only [List.cons_append, stmtsS]
  by_cases h : (stmtS S x).1 = 0
  ·simp only [h, if_true, ih]
  ·simp only [h, if_false]
theorem stmtsS_stop (S : Sc) (l : List Stmt) (k : Nat) (h : (stmtsS S (l.take k)).1 ≠ 0) : stmtsS S l = stmtsS S (l.take k) := by
 induction l generalizing S k with
 | nil => simp
 | cons x l ih =>
  cases k with
  | zero => simp [stmtsS] at h
  | succ k =>
   simp only [List.take_succ_cons, stmtsS] at h ⊢
   by_cases h1 : (stmtS S x).1 = 0
   ·simp only [h1, if_true] at h ⊢; exact ih _ _ h
   ·simp only [h1, if_false]
theorem look_len (S : Sc) (x : ByteArray) : (look S x).2.out.length ≤ S.out.length + 1 := by
 unfold look; split <;> simp
theorem declare_len (S : Sc) (x : ByteArray) : (declare S x).2.out.length ≤ S.out.length + 1 := by
 unfold declare; split
 ·simp
 ·split
  ·simp
  ·exact look_len _ _
theorem kindS_len (S : Sc) (k : Int) (x : ByteArray) (c : Int) : (kindS S k x c).2.out.length ≤ S.out.length + 1 := by
 unfold kindS; split
 ·exact declare_len _ _
 ·split
  ·exact look_len _ _
  ·split <;> simp
mutual
theorem exprS_len (S : Sc) : ∀ e : Expr, (exprS S e).2.out.length ≤ S.out.length + e.nodes
 | .mk k n s o as9 => by
  rw [exprS, Expr.nodes]; split
  ·have := look_len S s; omega
  ·have := exprsS_len S as9; omega
theorem exprsS_len (S : Sc) : ∀ l : List Expr, (exprsS S l).2.out.length ≤ S.out.length + Expr.nodesL l
 | [] => by simp [exprsS]
 | e :: l => by
  rw [exprsS, Expr.nodesL]; have h1 := exprS_len S e; split
  ·have := exprsS_len (exprS S e).2 l; omega
  ·omega
end
mutual
theorem stmtS_len (S : Sc) : ∀ s : Stmt, (stmtS S s).2.out.length ≤ S.out.length + s.nodes
 | .mk k s c as9 bs es => by
  rw [stmtS, Stmt.nodes]; have h1 := exprsS_len S as9; have h2 := kindS_len (exprsS S as9).2 k s c; have h3 := blockS_len (kindS (exprsS S as9).2 k s c).2 bs; have h4 := blockS_len (blockS (kindS (exprsS S as9).2 k s c).2 bs).2 es; split
  ·dsimp only
   split
   ·split <;> omega
   ·omega
  ·omega
theorem blockS_len (S : Sc) (l : List Stmt) : (blockS S l).2.out.length ≤ S.out.length + Stmt.nodesL l := by
 rw [blockS]; exact stmtsS_len S l
theorem stmtsS_len (S : Sc) : ∀ l : List Stmt, (stmtsS S l).2.out.length ≤ S.out.length + Stmt.nodesL l
 | [] => by simp [stmtsS]
 | e :: l => by
  rw [stmtsS, Stmt.nodesL]; have h1 := stmtS_len S e; split
  ·have := stmtsS_len (stmtS S e).2 l; omega
  ·omega
end
theorem look_names (S : Sc) (x : ByteArray) : (look S x).2.names = S.names := by
 unfold look; split <;> rfl
theorem declare_names (S : Sc) (x : ByteArray) : S.names.length ≤ (declare S x).2.names.length := by
 unfold declare; split
 ·simp
 ·split
  ·simp
  ·rw [look_names]; simp
theorem kindS_names (S : Sc) (k : Int) (x : ByteArray) (c : Int) : S.names.length ≤ (kindS S k x c).2.names.length := by
 unfold kindS; split
 ·exact declare_names _ _
 ·split
  ·rw [look_names]; simp
  ·split <;> simp
mutual
theorem exprS_names (S : Sc) : ∀ e : Expr, (exprS S e).2.names = S.names
 | .mk k n s o as9 => by
  rw [exprS]; split
  ·exact look_names S s
  ·exact exprsS_names S as9
theorem exprsS_names (S : Sc) : ∀ l : List Expr, (exprsS S l).2.names = S.names
 | [] => by simp [exprsS]
 | e :: l => by
  rw [exprsS]; have h1 := exprS_names S e; split
  ·rw [exprsS_names, h1]
  ·exact h1
end
mutual
theorem stmtS_names (S : Sc) : ∀ s : Stmt, S.names.length ≤ (stmtS S s).2.names.length
 | .mk k s c as9 bs es => by
  rw [stmtS]; have h1 := exprsS_names S as9; have h2 := kindS_names (exprsS S as9).2 k s c; have h3 := blockS_names (kindS (exprsS S as9).2 k s c).2 bs; have h4 := blockS_names (blockS (kindS (exprsS S as9).2 k s c).2 bs).2 es; rw [h1] at h2; split
  ·dsimp only
   split
   ·split <;> omega
   ·omega
  ·rw [h1]; exact Nat.le_refl _
theorem blockS_names (S : Sc) (l : List Stmt) : S.names.length ≤ (blockS S l).2.names.length := by
 rw [blockS]; have := stmtsS_names S l
 simp only [List.length_take]; omega
theorem stmtsS_names (S : Sc) : ∀ l : List Stmt, S.names.length ≤ (stmtsS S l).2.names.length
 | [] => by simp [stmtsS]
 | e :: l => by
  rw [stmtsS]; have h1 := stmtS_names S e; split
  ·have := stmtsS_names (stmtS S e).2 l; omega
  ·omega
end
end Go.Proofs.Ytjlnpppjkdcpkaa.My
