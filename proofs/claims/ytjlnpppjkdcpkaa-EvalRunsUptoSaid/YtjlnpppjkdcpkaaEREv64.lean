/- All that a run reckons are numbers of 64 bits. No program in sight. -/
import Derived.Test.YtjlnpppjkdcpkaaERLib
import Derived.Test.YtjlnpppjkdcpkaaERNumH
namespace Go.Proofs.Ytjlnpppjkdcpkaa.My
open Go.RowKit Go.Proofs.Ytjlnpppjkdcpkaa.NumA
/-- a run's state: the names with their values, what was done, the ticks -/
structure Ev where
 names : List ByteArray
 vals : List Int
 mem : List Int
 outs : List Int
 intos : List (Int × Int)
 ticks : Int
/-- the place of a name, the last one of it -/
def lastIdx : List ByteArray → ByteArray → Option Nat
 | [], _ => none
 | y :: l, x => match lastIdx l x with
  | some i => some (i + 1)
  | none => if y = x then some 0 else none
theorem lastIdx_some {x : ByteArray} : ∀ {l : List ByteArray} {i : Nat} (hi : i < l.length), l[i] = x → (∀ j (hj : j < l.length), i < j → l[j] ≠ x) → lastIdx l x = some i
 | y :: l, 0, _, h, hn => by
  have : lastIdx l x = none := lastIdx_none' fun j hj => by have := hn (j + 1) (by simpa using hj) (by omega); simpa using this
  rw [lastIdx, this]; simpa using h
 | y :: l, i + 1, hi, h, hn => by
  rw [lastIdx, lastIdx_some (l := l) (i := i) (by simpa using hi) (by simpa using h) fun j hj hij => by have := hn (j + 1) (by simpa using hj) (by omega); simpa using this]
where lastIdx_none' {x : ByteArray} : ∀ {l : List ByteArray}, (∀ j (hj : j < l.length), l[j] ≠ x) → lastIdx l x = none
 | [], _ => rfl
 | y :: l, hn => by
  rw [lastIdx, lastIdx_none' (l := l) fun j hj => by have := hn (j + 1) (by simpa using hj); simpa using this]
  have := hn 0 (by simp)
  simp only [List.getElem_cons_zero] at this
  simp [this]
theorem lastIdx_none {x : ByteArray} {l : List ByteArray} (h : ∀ j (hj : j < l.length), l[j] ≠ x) : lastIdx l x = none := lastIdx_some.lastIdx_none' h
theorem lastIdx_lt {x : ByteArray} : ∀ {l : List ByteArray} {i : Nat}, lastIdx l x = some i → i < l.length
 | y :: l, i, h => by
  rw [lastIdx] at h
  cases hl : lastIdx l x with
  | some k => rw [hl] at h; simp only [Option.some.injEq] at h; subst h; have := lastIdx_lt hl; simp; omega
  | none => rw [hl] at h; simp only at h; split at h <;> simp_all <;> omega
/-- an expression's value, or how the run is left -/
inductive Got (α : Type) where
 | ok (v : α)
 | left (how value : Int)
def nameV (S : Ev) (x : ByteArray) : Got Int := match lastIdx S.names x with
 | some i => .ok (S.vals.getD i 0)
 | none => .left 0 0
def memV (S : Ev) (a : Int) : Got Int := if 0 ≤ a ∧ a < S.mem.length then .ok (S.mem.getD a.toNat 0) else .left 3 a
def twoV (o a b : Int) : Got Int := if (two o a b).2 = true then .ok (two o a b).1 else .left 2 0
mutual
def exprV (S : Ev) : Expr → Got Int
 | .mk k n s o la =>
  if k = 1 then .ok n else if k = 2 then nameV S s
  else match exprsV S la with
   | .left h v => .left h v
   | .ok vs => if k = 3 then memV S (vs.getD 0 0) else if k = 4 then .ok (one o (vs.getD 0 0)).1 else twoV o (vs.getD 0 0) (vs.getD 1 0)
def exprsV (S : Ev) : List Expr → Got (List Int)
 | [] => .ok []
 | e :: l => match exprV S e with
  | .left h v => .left h v
  | .ok v => match exprsV S l with
   | .left h u => .left h u
   | .ok vs => .ok (v :: vs)
end
/-- one tick more -/
def Ev.tick (S : Ev) : Ev := { S with ticks := S.ticks + 1 }
/-- what a statement does with its values, an if and a while aside -/
def doV (S : Ev) (s : Stmt) (a b : Int) : Ev × Option (Int × Int) :=
 if s.kind = 1 then ({ S with names := S.names ++ [s.name], vals := S.vals ++ [a] }, none)
 else if s.kind = 2 then (match lastIdx S.names s.name with
  | some i => ({ S with vals := S.vals.set i a }, none)
  | none => (S, some (0, 0)))
 else if s.kind = 3 then (if 0 ≤ a ∧ a < S.mem.length then ({ S with mem := S.mem.set a.toNat b }, none) else (S, some (3, a)))
 else if s.kind = 4 then ({ S with outs := S.outs ++ [a] }, none)
 else if s.kind = 5 then ({ S with intos := S.intos ++ [(s.cell, a)] }, none)
 else if s.kind = 8 then (S, some (4, a))
 else if s.kind = 9 then (S, some (1, 0))
 else (S, none)
inductive Task where
 | stmt (s : Stmt)
 | seq (l : List Stmt)
 | block (l : List Stmt)
 | loop (s : Stmt)
/-- the names that a block declares go behind it -/
def Ev.back (S : Ev) (n : Nat) : Ev := { S with names := S.names.take n, vals := S.vals.take n }
/-- what a task does with a bound of ticks, and how it is left, if it is -/
inductive Does (B : Int) : Task → Ev → Ev → Option (Int × Int) → Prop
 | nil {S} : Does B (.seq []) S S none
 | first {s l S S' x} : Does B (.stmt s) S S' (some x) → Does B (.seq (s :: l)) S S' (some x)
 | next {s l S S' S'' o} : Does B (.stmt s) S S' none → Does B (.seq l) S' S'' o → Does B (.seq (s :: l)) S S'' o
 | block {l S S'} : Does B (.seq l) S S' none → Does B (.block l) S (S'.back S.names.length) none
 | blockLeft {l S S' x} : Does B (.seq l) S S' (some x) → Does B (.block l) S S' (some x)
 | loops {s S S' o} : s.kind = 7 → Does B (.loop s) S S' o → Does B (.stmt s) S S' o
 | spent {s S} : s.kind ≠ 7 → S.ticks = B → Does B (.stmt s) S S (some (0, 0))
 | fell {s S h v} : s.kind ≠ 7 → S.ticks ≠ B → exprsV S.tick s.args = .left h v → Does B (.stmt s) S S.tick (some (h, v))
 | does {s S vs} : s.kind ≠ 7 → s.kind ≠ 6 → S.ticks ≠ B → exprsV S.tick s.args = .ok vs → Does B (.stmt s) S (doV S.tick s (vs.getD 0 0) (vs.getD 1 0)).1 (doV S.tick s (vs.getD 0 0) (vs.getD 1 0)).2
 | thn {s S S' o vs} : s.kind = 6 → S.ticks ≠ B → exprsV S.tick s.args = .ok vs → vs.getD 0 0 ≠ 0 → Does B (.block s.body) S.tick S' o → Does B (.stmt s) S S' o
 | els {s S S' o vs} : s.kind = 6 → S.ticks ≠ B → exprsV S.tick s.args = .ok vs → vs.getD 0 0 = 0 → Does B (.block s.els) S.tick S' o → Does B (.stmt s) S S' o
 | loopSpent {s S} : S.ticks = B → Does B (.loop s) S S (some (0, 0))
 | loopFell {s S h v} : S.ticks ≠ B → exprsV S.tick s.args = .left h v → Does B (.loop s) S S.tick (some (h, v))
 | loopEnd {s S vs} : S.ticks ≠ B → exprsV S.tick s.args = .ok vs → vs.getD 0 0 = 0 → Does B (.loop s) S S.tick none
 | loopLeft {s S S' x vs} : S.ticks ≠ B → exprsV S.tick s.args = .ok vs → vs.getD 0 0 ≠ 0 → Does B (.block s.body) S.tick S' (some x) → Does B (.loop s) S S' (some x)
 | again {s S S' S'' o vs} : S.ticks ≠ B → exprsV S.tick s.args = .ok vs → vs.getD 0 0 ≠ 0 → Does B (.block s.body) S.tick S' none → Does B (.loop s) S' S'' o → Does B (.loop s) S S'' o
/-- it does one thing alone -/
theorem Does.same {B : Int} {t : Task} {S S1 S2 : Ev} {o1 o2 : Option (Int × Int)} (h1 : Does B t S S1 o1) (h2 : Does B t S S2 o2) : S1 = S2 ∧ o1 = o2 := by
 induction h1 generalizing S2 o2 with
 | nil => cases h2; exact ⟨rfl, rfl⟩
 | first _ ih =>
  cases h2 with
  | first h => exact ih h
  | next h _ => have := (ih h).2; cases this
 | next _ _ ih1 ih2 =>
  cases h2 with
  | first h => have := (ih1 h).2; cases this
  | next h h' => obtain ⟨rfl, _⟩ := ih1 h; exact ih2 h'
 | block _ ih =>
  cases h2 with
  | block h => obtain ⟨rfl, _⟩ := ih h; exact ⟨rfl, rfl⟩
  | blockLeft h => have := (ih h).2; cases this
 | blockLeft _ ih =>
  cases h2 with
  | block h => have := (ih h).2; cases this
  | blockLeft h => exact ih h
 | loops hk _ ih => cases h2 <;> first | exact ih (by assumption) | (exfalso; simp_all; done)
 | spent hk ht => cases h2 <;> first | exact ⟨rfl, rfl⟩ | (exfalso; simp_all; done)
 | fell hk ht he => cases h2 <;> simp_all
 | does hk hk2 ht he => cases h2 <;> simp_all
 | thn hk ht he hv _ ih =>
  cases h2 with
  | thn _ _ he2 _ h => exact ih h
  | els _ _ he2 hv2 h => rw [he] at he2; cases he2; exact absurd hv2 hv
  | loops hk2 _ => rw [hk] at hk2; exact absurd hk2 (by decide)
  | spent _ ht2 => exact absurd ht2 ht
  | fell _ _ he2 => rw [he] at he2; cases he2
  | does _ hk2 => exact absurd hk hk2
 | els hk ht he hv _ ih =>
  cases h2 with
  | els _ _ he2 _ h => exact ih h
  | thn _ _ he2 hv2 h => rw [he] at he2; cases he2; exact absurd hv hv2
  | loops hk2 _ => rw [hk] at hk2; exact absurd hk2 (by decide)
  | spent _ ht2 => exact absurd ht2 ht
  | fell _ _ he2 => rw [he] at he2; cases he2
  | does _ hk2 => exact absurd hk hk2
 | loopSpent ht => cases h2 <;> first | exact ⟨rfl, rfl⟩ | (exfalso; simp_all; done)
 | loopFell ht he => cases h2 <;> simp_all
 | loopEnd ht he hv => cases h2 <;> simp_all
 | loopLeft ht he hv _ ih =>
  cases h2 with
  | loopLeft _ he2 _ h => exact ih h
  | again _ he2 _ h _ => have := (ih h).2; cases this
  | loopSpent ht2 => exact absurd ht2 ht
  | loopFell _ he2 => rw [he] at he2; cases he2
  | loopEnd _ he2 hv2 => rw [he] at he2; cases he2; exact absurd hv2 hv
 | again ht he hv _ _ ih1 ih2 =>
  cases h2 with
  | loopLeft _ he2 _ h => have := (ih1 h).2; cases this
  | again _ he2 _ h h' => obtain ⟨rfl, _⟩ := ih1 h; exact ih2 h'
  | loopSpent ht2 => exact absurd ht2 ht
  | loopFell _ he2 => rw [he] at he2; cases he2
  | loopEnd _ he2 hv2 => rw [he] at he2; cases he2; exact absurd hv2 hv
end Go.Proofs.Ytjlnpppjkdcpkaa.My
namespace Go.Proofs.Ytjlnpppjkdcpkaa.My
open Go.RowKit Go.Proofs.Ytjlnpppjkdcpkaa.NumA
set_option linter.unusedVariables false
set_option linter.unusedSimpArgs false
/-- a number of 64 bits -/
def n64 (a : Int) : Prop := -9223372036854775808 ≤ a ∧ a ≤ 9223372036854775807
theorem n64_wrap (x : Int) : n64 (wrap64 x) := by unfold n64 wrap64; omega
theorem n64_tmod (a b : Int) (h : n64 a) : n64 (Int.tmod a b) := by
 obtain ⟨h0, h1⟩ := h; have h2 : (Int.tmod a b).natAbs ≤ a.natAbs := by rw [Int.natAbs_tmod]; exact Nat.mod_le _ _
 have h3 : 0 ≤ a → 0 ≤ Int.tmod a b := fun h => Int.tmod_nonneg b h
 have h4 : a ≤ 0 → Int.tmod a b ≤ 0 := fun h => by
  have e : Int.tmod a b = -Int.tmod (-a) b := by rw [Int.neg_tmod]; omega
  have := Int.tmod_nonneg b (show 0 ≤ -a by omega)
  omega
 unfold n64; rcases Int.le_total 0 a with h | h
 ·have := h3 h; omega
 ·have := h4 h; omega
theorem n64_if {c : Prop} [Decidable c] {a b : Int × Bool} (ha : n64 a.1) (hb : n64 b.1) : n64 (if c then a else b).1 := by
 by_cases h : c
 ·rw [if_pos h]; exact ha
 ·rw [if_neg h]; exact hb
theorem n64_ifi {c : Prop} [Decidable c] {a b : Int} (ha : n64 a) (hb : n64 b) : n64 (if c then a else b) := by
 by_cases h : c
 ·rw [if_pos h]; exact ha
 ·rw [if_neg h]; exact hb
theorem n64_shr {a : Int} (h : n64 a) (k : Nat) : n64 (a / 2 ^ k) := by
 obtain ⟨h0, h1⟩ := h; have hp : (1 : Int) ≤ 2 ^ k := by exact_mod_cast Nat.one_le_two_pow
 rcases Int.le_total 0 a with ha | ha
 ·have e0 := Int.ediv_nonneg ha (show (0 : Int) ≤ 2 ^ k by omega)
  have e1 := Int.ediv_le_self (2 ^ k) ha; exact ⟨by omega, by omega⟩
 ·have e0 : a ≤ a / 2 ^ k := by
   rw [Int.le_ediv_iff_mul_le (by omega)]
   have := Int.mul_le_mul_of_nonpos_left ha hp
   omega
  have e1 : a / 2 ^ k < 1 := by
   rw [Int.ediv_lt_iff_lt_mul (by omega)]
   omega
  exact ⟨by omega, by omega⟩
theorem n64_and (a b : Int) : n64 (Go.bits .and .i64 a b) := by rw [bits_and64]; exact n64_wrap _
theorem n64_or (a b : Int) : n64 (Go.bits .or .i64 a b) := by
 rw [show Go.bits .or .i64 a b = wrap64 ((BitVec.ofInt 64 a ||| BitVec.ofInt 64 b).toNat : Int) by rw [← i64w]; rfl]; exact n64_wrap _
theorem n64_xor (a b : Int) : n64 (Go.bits .xor .i64 a b) := by
 rw [show Go.bits .xor .i64 a b = wrap64 ((BitVec.ofInt 64 a ^^^ BitVec.ofInt 64 b).toNat : Int) by rw [← i64w]; rfl]; exact n64_wrap _
theorem two_n64 (op : Int) {a b : Int} (ha : n64 a) (hb : n64 b) : n64 (two op a b).1 := by
 have h0 : n64 0 := ⟨by omega, by omega⟩
 have h1 : n64 1 := ⟨by omega, by omega⟩
 unfold two; repeat' first | with_reducible apply n64_if | with_reducible apply n64_ifi
 all_goals with_reducible first | exact n64_wrap _ | exact h0 | exact h1 | exact ha | exact hb | exact n64_tmod a b ha | exact n64_shr ha _ | exact n64_and _ _ | exact n64_or _ _ | exact n64_xor _ _
theorem one_n64 (op : Int) {a : Int} (ha : n64 a) : n64 (one op a).1 := by
 have h0 : n64 0 := ⟨by omega, by omega⟩
 have h1 : n64 1 := ⟨by omega, by omega⟩
 unfold one; repeat' first | with_reducible apply n64_if | with_reducible apply n64_ifi
 all_goals with_reducible first | exact n64_wrap _ | exact h0 | exact h1 | exact n64_xor _ _
/-! ### a tree's numbers -/
mutual
def Expr.in64 : Expr → Prop | .mk k n _ o la => n64 k ∧ n64 n ∧ n64 o ∧ Expr.in64L la
def Expr.in64L : List Expr → Prop | [] => True | e :: l => e.in64 ∧ Expr.in64L l
end
mutual
def Stmt.in64 : Stmt → Prop | .mk k _ c la lb le => n64 k ∧ n64 c ∧ Expr.in64L la ∧ Stmt.in64L lb ∧ Stmt.in64L le
def Stmt.in64L : List Stmt → Prop | [] => True | s :: l => s.in64 ∧ Stmt.in64L l
end
theorem Expr.in64_of : ∀ {l : List Expr}, (∀ e ∈ l, e.in64) → Expr.in64L l
 | [], _ => by simp [Expr.in64L]
 | e :: l, h => by simp only [Expr.in64L]; exact ⟨h e (by simp), Expr.in64_of fun x hx => h x (by simp [hx])⟩
theorem Stmt.in64_of : ∀ {l : List Stmt}, (∀ e ∈ l, e.in64) → Stmt.in64L l
 | [], _ => by simp [Stmt.in64L]
 | e :: l, h => by simp only [Stmt.in64L]; exact ⟨h e (by simp), Stmt.in64_of fun x hx => h x (by simp [hx])⟩
theorem Stmt.in64_args {s : Stmt} (h : s.in64) : Expr.in64L s.args := by cases s; simp only [Stmt.in64] at h; exact h.2.2.1
theorem Stmt.in64_body {s : Stmt} (h : s.in64) : Stmt.in64L s.body := by cases s; simp only [Stmt.in64] at h; exact h.2.2.2.1
theorem Stmt.in64_els {s : Stmt} (h : s.in64) : Stmt.in64L s.els := by cases s; simp only [Stmt.in64] at h; exact h.2.2.2.2
/-- a state's numbers -/
def Ev.in64 (S : Ev) : Prop := (∀ v ∈ S.vals, n64 v) ∧ ∀ v ∈ S.mem, n64 v
theorem n64_getD {l : List Int} (h : ∀ v ∈ l, n64 v) (i : Nat) : n64 (l.getD i 0) := by
 rw [List.getD]; by_cases hi : i < l.length
 ·rw [List.getElem?_eq_getElem hi]; exact h _ (List.getElem_mem hi)
 ·rw [List.getElem?_eq_none (by omega)]; exact ⟨by decide, by decide⟩
mutual
theorem exprV_n64 {S : Ev} (hS : S.in64) : ∀ (e : Expr), e.in64 → ∀ v, exprV S e = .ok v → n64 v
 | .mk k n s o la => by
  intro h v hv; simp only [Expr.in64] at h
  have ih := exprsV_n64 hS la h.2.2.2; rw [exprV] at hv; split at hv
  ·simp only [Got.ok.injEq] at hv; subst hv; exact h.2.1
  ·split at hv
   ·unfold nameV at hv
    split at hv
    ·simp only [Got.ok.injEq] at hv; subst hv; exact n64_getD hS.1 _
    ·cases hv
   ·split at hv
    ·cases hv
    ·rename_i vs hvs
     have hx := ih vs hvs; split at hv
     ·unfold memV at hv
      split at hv
      ·simp only [Got.ok.injEq] at hv; subst hv; exact n64_getD hS.2 _
      ·cases hv
     ·split at hv
      ·simp only [Got.ok.injEq] at hv; subst hv; exact one_n64 o (n64_getD hx 0)
      ·unfold twoV at hv
       split at hv
       ·simp only [Got.ok.injEq] at hv; subst hv; exact two_n64 o (n64_getD hx 0) (n64_getD hx 1)
       ·cases hv
theorem exprsV_n64 {S : Ev} (hS : S.in64) : ∀ (l : List Expr), Expr.in64L l → ∀ vs, exprsV S l = .ok vs → ∀ v ∈ vs, n64 v
 | [] => by
  intro _ vs hv; rw [exprsV] at hv; simp only [Got.ok.injEq] at hv
  subst hv; intro v hv; cases hv
 | e :: l => by
  intro h vs hv; simp only [Expr.in64L] at h
  rw [exprsV] at hv; split at hv
  ·cases hv
  ·rename_i v0 h0
   split at hv
   ·cases hv
   ·rename_i vs0 h1
    simp only [Got.ok.injEq] at hv
    subst hv; intro v hv; rcases List.mem_cons.1 hv with rfl | hv
    ·exact exprV_n64 hS e h.1 _ h0
    ·exact exprsV_n64 hS l h.2 _ h1 v hv
end
theorem Ev.in64.tick {S : Ev} (h : S.in64) : S.tick.in64 := h
theorem Ev.in64.back {S : Ev} (h : S.in64) (n : Nat) : (S.back n).in64 := ⟨fun v hv => h.1 v (List.mem_of_mem_take hv), h.2⟩
theorem n64_set {l : List Int} (h : ∀ v ∈ l, n64 v) (i : Nat) {u : Int} (hu : n64 u) : ∀ v ∈ l.set i u, n64 v := by
 intro v hv; rcases List.mem_or_eq_of_mem_set hv with h1 | h1
 ·exact h v h1
 ·rw [h1]; exact hu
theorem doV_n64 {S : Ev} (h : S.in64) (s : Stmt) {a b : Int} (ha : n64 a) (hb : n64 b) : (doV S s a b).1.in64 := by
 unfold doV; repeat' split
 all_goals first
  | exact h
  | exact ⟨fun v hv => by rcases List.mem_append.1 hv with h1 | h1; exact h.1 v h1; rw [List.mem_singleton.1 h1]; exact ha, h.2⟩
  | exact ⟨n64_set h.1 _ ha, h.2⟩
  | exact ⟨h.1, n64_set h.2 _ hb⟩
def Task.in64 : Task → Prop
 | .stmt s => s.in64
 | .seq l => Stmt.in64L l
 | .block l => Stmt.in64L l
 | .loop s => s.in64
theorem Does.in64 {B : Int} {t : Task} {S S' : Ev} {o : Option (Int × Int)} (h : Does B t S S' o) : S.in64 → t.in64 → S'.in64 := by
 induction h with
 | nil => exact fun h _ => h
 | first _ ih => exact fun h ht => ih h (by simp only [Task.in64, Stmt.in64L] at ht ⊢; exact ht.1)
 | next _ _ ih1 ih2 => exact fun h ht => by simp only [Task.in64, Stmt.in64L] at ht; exact ih2 (ih1 h ht.1) ht.2
 | block _ ih => exact fun h ht => (ih h ht).back _
 | blockLeft _ ih => exact fun h ht => ih h ht
 | loops _ _ ih => exact fun h ht => ih h ht
 | spent _ _ => exact fun h _ => h
 | fell _ _ _ => exact fun h _ => h
 | does _ _ _ hv => exact fun h ht => doV_n64 h.tick _ (n64_getD (exprsV_n64 h.tick _ (Stmt.in64_args ht) _ hv) 0) (n64_getD (exprsV_n64 h.tick _ (Stmt.in64_args ht) _ hv) 1)
 | thn _ _ _ _ _ ih => exact fun h ht => ih h (Stmt.in64_body ht)
 | els _ _ _ _ _ ih => exact fun h ht => ih h (Stmt.in64_els ht)
 | loopSpent _ => exact fun h _ => h
 | loopFell _ _ => exact fun h _ => h
 | loopEnd _ _ _ => exact fun h _ => h
 | loopLeft _ _ _ _ ih => exact fun h ht => ih h (Stmt.in64_body ht)
 | again _ _ _ _ _ ih1 ih2 => exact fun h ht => ih2 (ih1 h (Stmt.in64_body ht)) ht
end Go.Proofs.Ytjlnpppjkdcpkaa.My
