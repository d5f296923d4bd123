/- The pure statement of the law NumOrders: over whole numbers alone, the printed function of the law answers true for every int64. No condition. -/
import Derived.Test.YtnpkaoogifjofaaNumC
import Derived.Test.YtnpkaoogifjofaaPNumx31
namespace Go.Proofs.Ytnpkaoogifjofaa.Pure
open Go.RowKit Go.Proofs.Ytnpkaoogifjofaa.PNum Go.Proofs.Ytnpkaoogifjofaa.NumA Go.Proofs.YtnpkaoogifjofaaW.PrintWords Go.Proofs.YtnpkaoogifjofaaW.PrintLast Go.Proofs.YtnpkaoogifjofaaW.PrintMore
theorem NumOrders : outriderlaw01_NumOrders.Pure := by
  intro a b _ _
  refine ⟨20, ?_⟩
  unfold outriderlaw01_NumOrders.f
  simp only [fun op => num_two op a b 18, alive_eq 0, Option.bind_some]
  have w0 : wrap64 0 = 0 := w64_id (by omega) (by omega)
  have w1 : wrap64 1 = 1 := w64_id (by omega) (by omega)
  have w2 : wrap64 (0 + 1) = 1 := w64_id (by omega) (by omega)
  rcases Int.lt_trichotomy a b with h | h | h
  · have e1 : ¬ b < a := by omega
    have e2 : ¬ a = b := by omega
    have e3 : a ≤ b := by omega
    have e4 : ¬ b ≤ a := by omega
    simp [two, h, e1, e2, e3, e4, w0, w1]
  · subst h
    simp [two, w0, w1]
  · have e1 : ¬ a < b := by omega
    have e2 : ¬ a = b := by omega
    have e3 : b ≤ a := by omega
    have e4 : ¬ a ≤ b := by omega
    simp [two, h, e1, e2, e3, e4, w0, w1]
end Go.Proofs.Ytnpkaoogifjofaa.Pure
