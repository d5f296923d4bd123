/- The pure statement of the law NumTwo: over whole numbers alone, the printed function of the law answers true for every int64. No condition. -/
import Derived.Test.YtnpkaoogifjofaaNumC
import Derived.Test.YtnpkaoogifjofaaPNumx25
namespace Go.Proofs.Ytnpkaoogifjofaa.Pure
open Go.RowKit Go.Proofs.Ytnpkaoogifjofaa.PNum Go.Proofs.Ytnpkaoogifjofaa.NumA Go.Proofs.YtnpkaoogifjofaaW.PrintWords Go.Proofs.YtnpkaoogifjofaaW.PrintLast Go.Proofs.YtnpkaoogifjofaaW.PrintMore
theorem NumTwo : outriderlaw01_NumTwo.Pure := by
  intro op a b _ h1 h2
  obtain ⟨ha, ha1⟩ := bd64 h1
  obtain ⟨hb, hb1⟩ := bd64 h2
  refine ⟨220, ?_⟩
  unfold outriderlaw01_NumTwo.f
  rw [num_two op a b 218, ref_two op a b ha ha1 hb hb1 20, alive_eq 200]
  simp
end Go.Proofs.Ytnpkaoogifjofaa.Pure
