/- The pure statement of the law NumOne: over whole numbers alone, the printed function of the law answers true for every int64. No condition. -/
import Derived.Test.YtnpkaoogifjofaaNumC
import Derived.Test.YtnpkaoogifjofaaPNumx27
namespace Go.Proofs.Ytnpkaoogifjofaa.Pure
open Go.RowKit Go.Proofs.Ytnpkaoogifjofaa.PNum Go.Proofs.Ytnpkaoogifjofaa.NumA Go.Proofs.YtnpkaoogifjofaaW.PrintWords Go.Proofs.YtnpkaoogifjofaaW.PrintLast Go.Proofs.YtnpkaoogifjofaaW.PrintMore
theorem NumOne : outriderlaw01_NumOne.Pure := by
  intro op a _ _
  refine ⟨20, ?_⟩
  unfold outriderlaw01_NumOne.f
  rw [num_one, ref_one, alive_eq 0]
  simp
end Go.Proofs.Ytnpkaoogifjofaa.Pure
