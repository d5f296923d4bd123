/- What a run hands back, be it an error or an effect; what a row of numbers is after each was made another one. Conditions: the tree was there in the world W, which is kept. -/
import Derived.Test.YtjlnpppjkdcpkaaGfEvG
import Derived.Test.YtjlnpppjkdcpkaaGfEvA
namespace Go.Proofs.Ytjlnpppjkdcpkaa.My
open Go.RowKit Go.Proofs.Ytjlnpppjkdcpkaa.NumA
set_option linter.unusedVariables false
set_option linter.unusedSimpArgs false
/-- an effect with its numbers, and the error -/
structure Res where
  S : Ev
  ov : Int
  va : Int
  st : Int
  code : Int
def emptyS : Ev := ⟨[], [], [], [], [], 0⟩
def Ran (ss : List Stmt) (L : Int) (mem : List Int) (n i k B : Int) (r : Res) : Prop :=
  (runErr ss L mem.length B = 0 ∧ r.code = 0 ∧ ∃ o, Does B (.block ss) (startS mem n i k) r.S o ∧ r.ov = (howE o).1 ∧ r.va = (howE o).2 ∧ r.st = r.S.ticks)
  ∨ (runErr ss L mem.length B ≠ 0 ∧ r = ⟨emptyS, 0, 0, 0, runErr ss L mem.length B⟩)
theorem Ran.same {ss : List Stmt} {L : Int} {mem : List Int} {n i k B : Int} {r1 r2 : Res} (h1 : Ran ss L mem n i k B r1) (h2 : Ran ss L mem n i k B r2) : r1 = r2 := by
  rcases h1 with ⟨e1, c1, o1, d1, a1, b1, t1⟩ | ⟨e1, rfl⟩
  · rcases h2 with ⟨e2, c2, o2, d2, a2, b2, t2⟩ | ⟨e2, rfl⟩
    · obtain ⟨S1, ov1, va1, st1, code1⟩ := r1
      obtain ⟨S2, ov2, va2, st2, code2⟩ := r2
      simp only at c1 d1 a1 b1 t1 c2 d2 a2 b2 t2
      obtain ⟨hS, ho⟩ := d1.same d2
      subst hS; subst ho
      rw [c1, a1, b1, t1, c2, a2, b2, t2]
    · exact absurd e1 e2
  · rcases h2 with ⟨e2, c2, o2, d2, a2, b2, t2⟩ | ⟨e2, rfl⟩
    · exact absurd e2 e1
    · rfl
theorem Row.freeA {w : World} {e : TypeId} {z n g c : Nat} {xs : List Value} (h : Row w e z (.slice (some ⟨g, 0, none⟩) n c) n xs) (i : Nat) : w.frozen? ⟨g, i, none⟩ = false := by
  rcases h.2 with ⟨h2, _⟩ | ⟨g', cap, cur, h2, hg, _⟩
  · cases h2
  · injection h2 with h2 _ h7
    injection h2 with h2; injection h2 with h2 _ _
    subst h2
    exact blk_free hg i
theorem Row.drewN {w : World} {t : TypeId} {z n : Nat} {v : Value} {xs : List Value} (h : Row w t z v n xs) (k : Nat) : Row (w.drewN k) t z v n xs := h
end Go.Proofs.Ytjlnpppjkdcpkaa.My
