-- written by wip/tools/myprint.py
import Derived.Test.YtnpkaoogifjofaaPNumx0
import Derived.Test.YtnpkaoogifjofaaPNumx4
import Derived.Test.YtnpkaoogifjofaaPNumx5
namespace Go.Proofs.Ytnpkaoogifjofaa.PNum
open Go.RowKit Go.Proofs.YtnpkaoogifjofaaW.PrintWords Go.Proofs.YtnpkaoogifjofaaW.PrintLast Go.Proofs.YtnpkaoogifjofaaW.PrintMore
attribute [local go_sem] max2_int min2_int max_two min_two max_three min_three max_four min_four   -- for this text's walks alone
set_option linter.unusedVariables false
set_option linter.unusedSimpArgs false

/-! ### outriderref01_com: function 42 -/
def outriderref01_com.f (a0 : Int) : Option (Int) := (outriderref01_half.f a0).bind fun bt109 => ((outriderref01_whole.f (IntKind.u64.wrap (4294967295 - bt109.1)) (IntKind.u64.wrap (4294967295 - bt109.2))).bind fun t111 => (some t111))
set_option maxHeartbeats 8000000 in
set_option maxRecDepth 100000 in
theorem outriderref01_com.calls (a0 : Int) (r : Int) (w : World) (h : outriderref01_com.f a0 = some r) :
    Calls Try.prog 42 #[.int .i64 a0] w fun e w' => e = .returned (.int .i64 r) ∧ Drawn0 w w' := by
  have H : ((outriderref01_half.f a0).bind fun bt109 => ((outriderref01_whole.f (IntKind.u64.wrap (4294967295 - bt109.1)) (IntKind.u64.wrap (4294967295 - bt109.2))).bind fun t111 => (some t111))) = some r := h
  clear h
  replace H := Option.bind_eq_some_iff.mp H
  obtain ⟨⟨t109, t110⟩, A20, H⟩ := H
  replace H : ((outriderref01_whole.f (IntKind.u64.wrap (4294967295 - t109)) (IntKind.u64.wrap (4294967295 - t110))).bind fun t111 => (some t111)) = some r := H
  have A2 := Aside0.mk A20
  clear A20
  replace H := Option.bind_eq_some_iff.mp H
  obtain ⟨t111, A30, H⟩ := H
  replace H : (some t111) = some r := H
  have A3 := Aside0.mk A30
  clear A30
  obtain rfl := Option.some.inj H
  go_enter Try.func42, Try.ntmps42
  go_wp2_with (first | ((with_reducible refine gate_callee (f := 46) rfl ?_); refine goesL_ (some 7) rfl rfl Try.func46 (by kernel_rfl) rfl #[.int .i64 a0] rfl (by (try simp only [List.map_toArray, List.map_cons, List.map_nil]); first | done | rfl | (simp only [List.length_drop, List.length_take]; rfl)) ?_; (with_reducible refine (outriderref01_half.calls a0 t109 t110 _ A2.out).mono ?_); rintro e w' ⟨rfl, ⟨nd, rfl⟩⟩; refine ⟨_, rfl, ?_⟩) | ((with_reducible refine gate_callee (f := 47) rfl ?_); refine goesL_ (some 14) rfl rfl Try.func47 (by kernel_rfl) rfl #[.int .u64 (IntKind.u64.wrap (4294967295 - t109)), .int .u64 (IntKind.u64.wrap (4294967295 - t110))] rfl (by (try simp only [List.map_toArray, List.map_cons, List.map_nil]); first | done | rfl | (simp only [List.length_drop, List.length_take]; rfl)) ?_; (with_reducible refine (outriderref01_whole.calls (IntKind.u64.wrap (4294967295 - t109)) (IntKind.u64.wrap (4294967295 - t110)) t111 _ A3.out).mono ?_); rintro e w' ⟨rfl, ⟨nd, rfl⟩⟩; refine ⟨_, rfl, ?_⟩))
  go_ret
  exact ⟨by first | rfl | (simp; done) | (simp [*]; done), by repeat (first | exact Drawn0.refl _ | apply Drawn0.step)⟩

end Go.Proofs.Ytnpkaoogifjofaa.PNum
