/- What a source text does, statement by statement, in plain Lean: no program in sight. -/
import Derived.Test.YtjlnpppjkdcpkaaGmLib
import Derived.Test.YtjlnpppjkdcpkaaProg
import Derived.WalkSpells
import Derived.Laws.Cover1
namespace Go.Proofs.Ytjlnpppjkdcpkaa.NumA
open Go.RowKit
set_option linter.unusedVariables false
set_option linter.unusedSimpArgs false
theorem i64w (n : Int) : IntKind.i64.wrap n = wrap64 n := by unfold wrap64; exact IntKind.wrap_i64 n
theorem bits_and64 (a b : Int) : Go.bits .and .i64 a b = wrap64 ((BitVec.ofInt 64 a &&& BitVec.ofInt 64 b).toNat : Int) := by rw [← i64w]; rfl
/-- what an operation of two numbers gives -/
def two (op a b : Int) : Int × Bool :=
  if op = 1 then (wrap64 (a + b), true) else if op = 2 then (wrap64 (a - b), true) else if op = 3 then (wrap64 (a * b), true)
  else if op = 4 then (if b = 0 then (0, false) else (wrap64 (Int.tdiv a b), true)) else if op = 5 then (if b = 0 then (0, false) else (Int.tmod a b, true))
  else if op = 6 then (Go.bits .and .i64 a b, true) else if op = 7 then (Go.bits .or .i64 a b, true) else if op = 8 then (Go.bits .xor .i64 a b, true)
  else if op = 9 then (wrap64 (a * 2 ^ (b % 64).toNat), true) else if op = 10 then (a / 2 ^ (b % 64).toNat, true)
  else if op = 11 then (if a = b then 1 else 0, true) else if op = 12 then (if a = b then 0 else 1, true) else if op = 13 then (if a < b then 1 else 0, true)
  else if op = 14 then (if a ≤ b then 1 else 0, true) else if op = 15 then (if b < a then 1 else 0, true) else if op = 16 then (if b ≤ a then 1 else 0, true)
  else if op = 17 then (if b < a then b else a, true) else if op = 18 then (if a < b then b else a, true) else (0, false)
/-- of one number -/
def one (op a : Int) : Int × Bool :=
  if op = 19 then (wrap64 (-a), true) else if op = 20 then (Go.bits .xor .i64 (-1) a, true) else if op = 21 then (if a = 0 then 1 else 0, true) else (0, false)
end Go.Proofs.Ytjlnpppjkdcpkaa.NumA
namespace Go.Proofs.Ytjlnpppjkdcpkaa.My
open Go.RowKit Go.Proofs.Ytjlnpppjkdcpkaa.NumA
/-- a run's state: the names with their values, what was done, the ticks -/
structure Ev where
  names : List ByteArray
  vals : List Int
  mem : List Int
  outs : List Int
  intos : List (Int × Int)
  ticks : Int
/-- the place of a name, the last one of it -/
def lastIdx : List ByteArray → ByteArray → Option Nat
  | [], _ => none
  | y :: l, x => match lastIdx l x with
    | some i => some (i + 1)
    | none => if y = x then some 0 else none
/-- an expression's value, or how the run is left -/
inductive Got (α : Type) where
  | ok (v : α)
  | left (how value : Int)
def nameV (S : Ev) (x : ByteArray) : Got Int := match lastIdx S.names x with
  | some i => .ok (S.vals.getD i 0)
  | none => .left 0 0
def memV (S : Ev) (a : Int) : Got Int := if 0 ≤ a ∧ a < S.mem.length then .ok (S.mem.getD a.toNat 0) else .left 3 a
def twoV (o a b : Int) : Got Int := if (two o a b).2 = true then .ok (two o a b).1 else .left 2 0
mutual
def exprV (S : Ev) : Expr → Got Int
  | .mk k n s o la =>
    if k = 1 then .ok n else if k = 2 then nameV S s
    else match exprsV S la with
      | .left h v => .left h v
      | .ok vs => if k = 3 then memV S (vs.getD 0 0) else if k = 4 then .ok (one o (vs.getD 0 0)).1 else twoV o (vs.getD 0 0) (vs.getD 1 0)
def exprsV (S : Ev) : List Expr → Got (List Int)
  | [] => .ok []
  | e :: l => match exprV S e with
    | .left h v => .left h v
    | .ok v => match exprsV S l with
      | .left h u => .left h u
      | .ok vs => .ok (v :: vs)
end
/-- one tick more -/
def Ev.tick (S : Ev) : Ev := { S with ticks := S.ticks + 1 }
/-- what a statement does with its values, an if and a while aside -/
def doV (S : Ev) (s : Stmt) (a b : Int) : Ev × Option (Int × Int) :=
  if s.kind = 1 then ({ S with names := S.names ++ [s.name], vals := S.vals ++ [a] }, none)
  else if s.kind = 2 then (match lastIdx S.names s.name with
    | some i => ({ S with vals := S.vals.set i a }, none)
    | none => (S, some (0, 0)))
  else if s.kind = 3 then (if 0 ≤ a ∧ a < S.mem.length then ({ S with mem := S.mem.set a.toNat b }, none) else (S, some (3, a)))
  else if s.kind = 4 then ({ S with outs := S.outs ++ [a] }, none)
  else if s.kind = 5 then ({ S with intos := S.intos ++ [(s.cell, a)] }, none)
  else if s.kind = 8 then (S, some (4, a))
  else if s.kind = 9 then (S, some (1, 0))
  else (S, none)
inductive Task where
  | stmt (s : Stmt)
  | seq (l : List Stmt)
  | block (l : List Stmt)
  | loop (s : Stmt)
/-- the names that a block declares go behind it -/
def Ev.back (S : Ev) (n : Nat) : Ev := { S with names := S.names.take n, vals := S.vals.take n }
/-- what a task does with a bound of ticks, and how it is left, if it is -/
inductive Does (B : Int) : Task → Ev → Ev → Option (Int × Int) → Prop
  | nil {S} : Does B (.seq []) S S none
  | first {s l S S' x} : Does B (.stmt s) S S' (some x) → Does B (.seq (s :: l)) S S' (some x)
  | next {s l S S' S'' o} : Does B (.stmt s) S S' none → Does B (.seq l) S' S'' o → Does B (.seq (s :: l)) S S'' o
  | block {l S S'} : Does B (.seq l) S S' none → Does B (.block l) S (S'.back S.names.length) none
  | blockLeft {l S S' x} : Does B (.seq l) S S' (some x) → Does B (.block l) S S' (some x)
  | loops {s S S' o} : s.kind = 7 → Does B (.loop s) S S' o → Does B (.stmt s) S S' o
  | spent {s S} : s.kind ≠ 7 → S.ticks = B → Does B (.stmt s) S S (some (0, 0))
  | fell {s S h v} : s.kind ≠ 7 → S.ticks ≠ B → exprsV S.tick s.args = .left h v → Does B (.stmt s) S S.tick (some (h, v))
  | does {s S vs} : s.kind ≠ 7 → s.kind ≠ 6 → S.ticks ≠ B → exprsV S.tick s.args = .ok vs → Does B (.stmt s) S (doV S.tick s (vs.getD 0 0) (vs.getD 1 0)).1 (doV S.tick s (vs.getD 0 0) (vs.getD 1 0)).2
  | thn {s S S' o vs} : s.kind = 6 → S.ticks ≠ B → exprsV S.tick s.args = .ok vs → vs.getD 0 0 ≠ 0 → Does B (.block s.body) S.tick S' o → Does B (.stmt s) S S' o
  | els {s S S' o vs} : s.kind = 6 → S.ticks ≠ B → exprsV S.tick s.args = .ok vs → vs.getD 0 0 = 0 → Does B (.block s.els) S.tick S' o → Does B (.stmt s) S S' o
  | loopSpent {s S} : S.ticks = B → Does B (.loop s) S S (some (0, 0))
  | loopFell {s S h v} : S.ticks ≠ B → exprsV S.tick s.args = .left h v → Does B (.loop s) S S.tick (some (h, v))
  | loopEnd {s S vs} : S.ticks ≠ B → exprsV S.tick s.args = .ok vs → vs.getD 0 0 = 0 → Does B (.loop s) S S.tick none
  | loopLeft {s S S' x vs} : S.ticks ≠ B → exprsV S.tick s.args = .ok vs → vs.getD 0 0 ≠ 0 → Does B (.block s.body) S.tick S' (some x) → Does B (.loop s) S S' (some x)
  | again {s S S' S'' o vs} : S.ticks ≠ B → exprsV S.tick s.args = .ok vs → vs.getD 0 0 ≠ 0 → Does B (.block s.body) S.tick S' none → Does B (.loop s) S' S'' o → Does B (.loop s) S S'' o
/-- it does one thing alone -/
theorem Does.same {B : Int} {t : Task} {S S1 S2 : Ev} {o1 o2 : Option (Int × Int)} (h1 : Does B t S S1 o1) (h2 : Does B t S S2 o2) : S1 = S2 ∧ o1 = o2 := by
  induction h1 generalizing S2 o2 with
  | nil => cases h2; exact ⟨rfl, rfl⟩
  | first _ ih =>
    cases h2 with
    | first h => exact ih h
    | next h _ => have := (ih h).2; cases this
  | next _ _ ih1 ih2 =>
    cases h2 with
    | first h => have := (ih1 h).2; cases this
    | next h h' => obtain ⟨rfl, _⟩ := ih1 h; exact ih2 h'
  | block _ ih =>
    cases h2 with
    | block h => obtain ⟨rfl, _⟩ := ih h; exact ⟨rfl, rfl⟩
    | blockLeft h => have := (ih h).2; cases this
  | blockLeft _ ih =>
    cases h2 with
    | block h => have := (ih h).2; cases this
    | blockLeft h => exact ih h
  | loops hk _ ih => cases h2 <;> first | exact ih (by assumption) | (exfalso; simp_all; done)
  | spent hk ht => cases h2 <;> first | exact ⟨rfl, rfl⟩ | (exfalso; simp_all; done)
  | fell hk ht he => cases h2 <;> simp_all
  | does hk hk2 ht he => cases h2 <;> simp_all
  | thn hk ht he hv _ ih =>
    cases h2 with
    | thn _ _ he2 _ h => exact ih h
    | els _ _ he2 hv2 h => rw [he] at he2; cases he2; exact absurd hv2 hv
    | loops hk2 _ => rw [hk] at hk2; exact absurd hk2 (by decide)
    | spent _ ht2 => exact absurd ht2 ht
    | fell _ _ he2 => rw [he] at he2; cases he2
    | does _ hk2 => exact absurd hk hk2
  | els hk ht he hv _ ih =>
    cases h2 with
    | els _ _ he2 _ h => exact ih h
    | thn _ _ he2 hv2 h => rw [he] at he2; cases he2; exact absurd hv hv2
    | loops hk2 _ => rw [hk] at hk2; exact absurd hk2 (by decide)
    | spent _ ht2 => exact absurd ht2 ht
    | fell _ _ he2 => rw [he] at he2; cases he2
    | does _ hk2 => exact absurd hk hk2
  | loopSpent ht => cases h2 <;> first | exact ⟨rfl, rfl⟩ | (exfalso; simp_all; done)
  | loopFell ht he => cases h2 <;> simp_all
  | loopEnd ht he hv => cases h2 <;> simp_all
  | loopLeft ht he hv _ ih =>
    cases h2 with
    | loopLeft _ he2 _ h => exact ih h
    | again _ he2 _ h _ => have := (ih h).2; cases this
    | loopSpent ht2 => exact absurd ht2 ht
    | loopFell _ he2 => rw [he] at he2; cases he2
    | loopEnd _ he2 hv2 => rw [he] at he2; cases he2; exact absurd hv2 hv
  | again ht he hv _ _ ih1 ih2 =>
    cases h2 with
    | loopLeft _ he2 _ h => have := (ih1 h).2; cases this
    | again _ he2 _ h h' => obtain ⟨rfl, _⟩ := ih1 h; exact ih2 h'
    | loopSpent ht2 => exact absurd ht2 ht
    | loopFell _ he2 => rw [he] at he2; cases he2
    | loopEnd _ he2 hv2 => rw [he] at he2; cases he2; exact absurd hv2 hv
end Go.Proofs.Ytjlnpppjkdcpkaa.My
