/- eval.Run: the errors, the machine made, its effect. Conditions: the tree was there in the world W, which is kept. -/
import Derived.Test.YtjlnpppjkdcpkaaGmEvW
import Derived.Test.YtjlnpppjkdcpkaaGmNameW3
import Derived.Test.YtjlnpppjkdcpkaaGmTrY
namespace Go.Proofs.Ytjlnpppjkdcpkaa.My
open Go.RowKit Go.Proofs.Ytjlnpppjkdcpkaa.NumA
set_option linter.unusedVariables false
set_option linter.unusedSimpArgs false
/-- the state in which a run begins -/
def startS (mem : List Int) (n i k : Int) : Ev := ⟨[⟨#[110]⟩, ⟨#[105]⟩, ⟨#[107]⟩], [n, i, k], mem, [], [], 0⟩
/-- why a text isn't run -/
def runErr (ss : List Stmt) (L : Int) (ml : Nat) (B : Int) : Int :=
  if rightP nameB ss = false then 43 else if (slotsP ss L).2 ≠ 0 then (slotsP ss L).2 else if 64 < ml then 130 else if B < 0 ∨ 1000000 < B then 110 else 0
/-- an effect's rows in blocks from base on -/
structure OutAt (w : World) (base : Nat) (S : Ev) (M O I : Value) : Prop where
  mem : Row w 2 1 M S.mem.length (nums S.mem)
  outs : Row w 2 1 O S.outs.length (nums S.outs)
  intos : Row w 98 2 I S.intos.length (intoCells S.intos)
  fm : ∀ g, M.ownBlock = some g → base ≤ g
  fo : ∀ g, O.ownBlock = some g → base ≤ g
  fi : ∀ g, I.ownBlock = some g → base ≤ g
  mo : ∀ g, M.ownBlock = some g → O.ownBlock ≠ some g
/-- numbers that lie from an address on -/
def numRow (w : World) (l : List Int) (A : Option Addr) : Prop := ∀ j (hj : j < l.length), ∃ b o, A = some ⟨b, o, none⟩ ∧ w.cell? ⟨b, o + j, none⟩ = some (.int .i64 l[j])
theorem numRow.below {w w' : World} {l : List Int} {A : Option Addr} (h : numRow w l A) (hB : Below w.heap.size w w') : numRow w' l A := fun j hj => by
  obtain ⟨b, o, h1, h2⟩ := h j hj
  exact ⟨b, o, h1, hB.cellOf h2⟩
theorem Row.numRow {w : World} {l : List Int} {A : Option Addr} {n c : Nat} (h : Row w 2 1 (.slice A n c) n (nums l)) : numRow w l A := fun j hj => by
  obtain ⟨g, h1, h2⟩ := h.cellA (nums_get hj)
  exact ⟨g, 0, h1, by rw [Nat.zero_add, h2]; simp [List.getD, hj]⟩
theorem rowSet {w : World} {e : TypeId} {z n : Nat} {v : Value} {xs : List Value} (h : Row w e z v n xs) {b i : Nat} {u : Value} (hb : v.ownBlock ≠ some b) : Row (w.setCell ⟨b, i, none⟩ u) e z v n xs := h.keep fun g hg => Below.heap_setCell _ _ _ _ (fun e1 => hb (by rw [hg, e1]))
end Go.Proofs.Ytjlnpppjkdcpkaa.My
