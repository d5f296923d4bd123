/- A text that declares nothing but within blocks, and another one behind it: the registers and the instructions of both. Plain Lean, no program in sight. -/
import Derived.Test.YtjlnpppjkdcpkaaGfGnJ
import Derived.Test.YtjlnpppjkdcpkaaGfEvU
import Derived.Test.YtjlnpppjkdcpkaaGfNameW3
import Derived.Test.YtjlnpppjkdcpkaaGfGnC
namespace Go.Proofs.Ytjlnpppjkdcpkaa.My
open Go.RowKit
set_option linter.unusedVariables false
set_option linter.unusedSimpArgs false
theorem genP_is {ss : List Stmt} {L : Int} {a : List Ins} (h : genP ss L = (a, 0)) : rightP nameB ss = true ∧ (slotsP ss L).2 = 0 ∧ ∃ r, blockC (slotsP ss L).1 ss = some r ∧ a = r.1 ++ [⟨1, 0, 0, 0, 0, 0⟩] ∧ a.length ≤ 600 := by
  unfold genP at h
  split at h
  · simp at h
  · rename_i hr
    split at h
    · rename_i hs
      simp only [Prod.mk.injEq] at h
      exact absurd h.2 hs
    · rename_i hs
      split at h
      · simp at h
      · rename_i G hG
        split at h
        · simp at h
        · rename_i hl
          simp only [Prod.mk.injEq, and_true] at h
          rw [blockG_C] at hG
          cases hb : blockC (slotsP ss L).1 ss with
          | none => rw [hb] at hG; simp at hG
          | some r =>
            rw [hb] at hG
            simp only [Option.map_some, Option.some.injEq] at hG
            subst hG
            simp only [List.nil_append, List.length_map, List.length_nil, show mv 0 = id from funext mv_zero, List.map_id] at h hl
            refine ⟨by simpa using hr, by simpa using hs, r, rfl, h.symm, ?_⟩
            rw [← h]
            simp
            omega
end Go.Proofs.Ytjlnpppjkdcpkaa.My
