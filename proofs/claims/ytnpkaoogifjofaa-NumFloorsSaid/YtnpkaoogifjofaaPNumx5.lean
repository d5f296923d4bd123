-- written by wip/tools/myprint.py
import Derived.Test.YtnpkaoogifjofaaPNumx0
namespace Go.Proofs.Ytnpkaoogifjofaa.PNum
open Go.RowKit Go.Proofs.YtnpkaoogifjofaaW.PrintWords Go.Proofs.YtnpkaoogifjofaaW.PrintLast Go.Proofs.YtnpkaoogifjofaaW.PrintMore
attribute [local go_sem] max2_int min2_int max_two min_two max_three min_three max_four min_four   -- for this text's walks alone
set_option linter.unusedVariables false
set_option linter.unusedSimpArgs false

/-! ### outriderref01_whole: function 47 -/
def outriderref01_whole.f (a0 : Int) (a1 : Int) : Option (Int) := some (wrap64 (Go.bits .or .u64 (IntKind.u64.wrap (a1 * 4294967296)) (Go.bits .and .u64 a0 4294967295)))
set_option maxHeartbeats 8000000 in
set_option maxRecDepth 100000 in
theorem outriderref01_whole.calls (a0 : Int) (a1 : Int) (r : Int) (w : World) (h : outriderref01_whole.f a0 a1 = some r) :
    Calls Try.prog 47 #[.int .u64 a0, .int .u64 a1] w fun e w' => e = .returned (.int .i64 r) ∧ Drawn0 w w' := by
  have H : (some (wrap64 (Go.bits .or .u64 (IntKind.u64.wrap (a1 * 4294967296)) (Go.bits .and .u64 a0 4294967295)))) = some r := h
  clear h
  obtain rfl := Option.some.inj H
  go_enter Try.func47, Try.ntmps47
  go_wp2
  go_ret
  exact ⟨by first | rfl | (simp; done) | (simp [*]; done), by repeat (first | exact Drawn0.refl _ | apply Drawn0.step)⟩

end Go.Proofs.Ytnpkaoogifjofaa.PNum
