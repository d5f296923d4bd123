/- Plain lemmas: quotients cut downwards: the program's and the document's. No program in sight. -/
import Derived.Test.YtnpkaoogifjofaaNumC
import Derived.Test.YtnpkaoogifjofaaPNumx21
import Derived.Test.YtnpkaoogifjofaaPNumx23
namespace Go.Proofs.Ytnpkaoogifjofaa.NumA
open Go.RowKit Go.Proofs.Ytnpkaoogifjofaa.PNum Go.Proofs.YtnpkaoogifjofaaW.PrintWords Go.Proofs.YtnpkaoogifjofaaW.PrintLast Go.Proofs.YtnpkaoogifjofaaW.PrintMore
/-- Floor: quotient, rest, error -/
def flo (a b : Int) : Int × Int × Int :=
  if b = 0 then (0, 0, 12)
  else if Int.tmod a b ≠ 0 ∧ decide (Int.tmod a b < 0) ≠ decide (b < 0) then (wrap64 (wrap64 (Int.tdiv a b) - 1), wrap64 (Int.tmod a b + b), 0)
  else (wrap64 (Int.tdiv a b), Int.tmod a b, 0)
theorem floor_eq (a b : Int) : num_Floor.f a b = some (flo a b) := by
  unfold num_Floor.f flo
  by_cases hz : b = 0
  · simp [hz]
  · by_cases h1 : Int.tmod a b = 0
    · simp [hz, h1]
    · by_cases h2 : decide (Int.tmod a b < 0) = decide (b < 0)
      · simp [hz, h1, h2]
      · simp [hz, h1, h2]
theorem tmod_sign (a b : Int) (h : Int.tmod a b ≠ 0) : decide (Int.tmod a b < 0) = decide (a < 0) := by
  rw [decide_eq_decide]
  rcases Int.le_total 0 a with h1 | h1
  · have := Int.tmod_nonneg b h1; omega
  · have e : Int.tmod a b = -Int.tmod (-a) b := by rw [Int.neg_tmod]; omega
    have h2 := Int.tmod_nonneg b (show 0 ≤ -a by omega)
    constructor
    · intro h3
      rcases Int.lt_or_eq_of_le h1 with h4 | h4
      · exact h4
      · subst h4; simp at h
    · intro _; omega
theorem ref_floor (a b : Int) (hz : b ≠ 0) (ha : -9223372036854775808 ≤ a) (ha1 : a ≤ 9223372036854775807) (hb : -9223372036854775808 ≤ b) (hb1 : b ≤ 9223372036854775807) (k : Nat) : outriderref01_Floor.f (k + 200) a b = some ((flo a b).1, (flo a b).2.1) := by
  unfold outriderref01_Floor.f flo
  rw [ref_two 4 a b ha ha1 hb hb1 k, ref_two 5 a b ha ha1 hb hb1 k]
  have e4 : two 4 a b = (wrap64 (Int.tdiv a b), true) := by simp [two, hz]
  have e5 : two 5 a b = (Int.tmod a b, true) := by simp [two, hz]
  rw [e4, e5]
  simp only [Option.bind_some]
  by_cases h1 : Int.tmod a b = 0
  · simp [h1, hz, outriderref01_Floor.j0]
  · have hs := tmod_sign a b h1
    rw [if_neg h1, if_neg hz]
    by_cases h2 : decide (a < 0) = decide (b < 0)
    · simp [outriderref01_Floor.j0, h1, hs, h2]
    · simp [outriderref01_Floor.j0, h1, hs, h2, add_eq]
      rfl
end Go.Proofs.Ytnpkaoogifjofaa.NumA
