/- Plain lemmas: the chapter's first facts hold of the printed functions ('alive'); bounds of an int64. No program in sight. -/
import Derived.KernelRfl
import Derived.Test.YtnpkaoogifjofaaNumB
import Derived.Test.YtnpkaoogifjofaaPNumx10
import Derived.Test.YtnpkaoogifjofaaPNumx11
namespace Go.Proofs.Ytnpkaoogifjofaa.NumA
open Go.RowKit Go.Proofs.Ytnpkaoogifjofaa.PNum Go.Proofs.YtnpkaoogifjofaaW.PrintWords Go.Proofs.YtnpkaoogifjofaaW.PrintLast Go.Proofs.YtnpkaoogifjofaaW.PrintMore
theorem bd64 {a : Int} (h : (Lit.int .i64 a).wf = true) : -9223372036854775808 ≤ a ∧ a ≤ 9223372036854775807 := by
  simpa [Lit.wf, IntKind.min, IntKind.max, IntKind.signed, IntKind.bits] using h
theorem parse12 (k : Nat) : num_Parse.f (k + 20) (⟨#[45, 49, 50]⟩ : ByteArray) = some (-12, 0) := by kernel_rfl
theorem text12 : num_Text.f (-12) = some (⟨#[45, 49, 50]⟩ : ByteArray) := by
  unfold num_Text.f
  rw [if_pos (by omega)]
  have : Lib.itoa (-12) = [45, 49, 50] := by decide +kernel
  rw [this]
theorem alive_eq (k : Nat) : outriderlaw01_alive.f (k + 20) = some true := by
  unfold outriderlaw01_alive.f
  rw [num_two 4 (-7) 2 (k + 18), num_one, parse12, text12]
  have e1 : two 4 (-7) 2 = (-3, true) := by decide +kernel
  have e2 : one 20 5 = (-6, true) := by decide +kernel
  rw [e1, e2]; decide +kernel
end Go.Proofs.Ytnpkaoogifjofaa.NumA
