/- The pure statement of the law NumFloors: over whole numbers alone, the printed function of the law answers true for every int64. No condition. -/
import Derived.Test.YtnpkaoogifjofaaNumD
import Derived.Test.YtnpkaoogifjofaaPNumx40
namespace Go.Proofs.Ytnpkaoogifjofaa.Pure
open Go.RowKit Go.Proofs.Ytnpkaoogifjofaa.PNum Go.Proofs.Ytnpkaoogifjofaa.NumA Go.Proofs.YtnpkaoogifjofaaW.PrintWords Go.Proofs.YtnpkaoogifjofaaW.PrintLast Go.Proofs.YtnpkaoogifjofaaW.PrintMore
theorem NumFloors : outriderlaw01_NumFloors.Pure := by
  intro a b h1 h2
  obtain ⟨ha, ha1⟩ := bd64 h1
  obtain ⟨hb, hb1⟩ := bd64 h2
  refine ⟨220, ?_⟩
  unfold outriderlaw01_NumFloors.f
  rw [alive_eq 200, floor_eq a b]
  simp only [Option.bind_some]
  by_cases hz : b = 0
  · simp [hz, flo]
  · rw [if_neg hz, ref_floor a b hz ha ha1 hb hb1 20]
    have e : (flo a b).2.2 = 0 := by unfold flo; rw [if_neg hz]; split <;> rfl
    simp [e]
end Go.Proofs.Ytnpkaoogifjofaa.Pure
