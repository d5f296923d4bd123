-- written by wip/tools/myprint.py
import Derived.Test.YtnpkaoogifjofaaPNumx0
import Derived.Test.YtnpkaoogifjofaaPNumx4
import Derived.Test.YtnpkaoogifjofaaPNumx5
namespace Go.Proofs.Ytnpkaoogifjofaa.PNum
open Go.RowKit Go.Proofs.YtnpkaoogifjofaaW.PrintWords Go.Proofs.YtnpkaoogifjofaaW.PrintLast Go.Proofs.YtnpkaoogifjofaaW.PrintMore
attribute [local go_sem] max2_int min2_int max_two min_two max_three min_three max_four min_four   -- for this text's walks alone
set_option linter.unusedVariables false
set_option linter.unusedSimpArgs false

/-! ### outriderref01_add: function 32 -/
def outriderref01_add.f (a0 : Int) (a1 : Int) : Option (Int) := (outriderref01_half.f a0).bind fun bt104 => ((outriderref01_half.f a1).bind fun bt106 => ((outriderref01_whole.f (IntKind.u64.wrap (bt104.1 + bt106.1)) (IntKind.u64.wrap ((IntKind.u64.wrap (bt104.2 + bt106.2)) + ((IntKind.u64.wrap (bt104.1 + bt106.1)) / 4294967296)))).bind fun t108 => (some t108)))
set_option maxHeartbeats 8000000 in
set_option maxRecDepth 100000 in
theorem outriderref01_add.calls (a0 : Int) (a1 : Int) (r : Int) (w : World) (h : outriderref01_add.f a0 a1 = some r) :
    Calls Try.prog 32 #[.int .i64 a0, .int .i64 a1] w fun e w' => e = .returned (.int .i64 r) ∧ Drawn0 w w' := by
  have H : ((outriderref01_half.f a0).bind fun bt104 => ((outriderref01_half.f a1).bind fun bt106 => ((outriderref01_whole.f (IntKind.u64.wrap (bt104.1 + bt106.1)) (IntKind.u64.wrap ((IntKind.u64.wrap (bt104.2 + bt106.2)) + ((IntKind.u64.wrap (bt104.1 + bt106.1)) / 4294967296)))).bind fun t108 => (some t108)))) = some r := h
  clear h
  replace H := Option.bind_eq_some_iff.mp H
  obtain ⟨⟨t104, t105⟩, A30, H⟩ := H
  replace H : ((outriderref01_half.f a1).bind fun bt106 => ((outriderref01_whole.f (IntKind.u64.wrap (t104 + bt106.1)) (IntKind.u64.wrap ((IntKind.u64.wrap (t105 + bt106.2)) + ((IntKind.u64.wrap (t104 + bt106.1)) / 4294967296)))).bind fun t108 => (some t108))) = some r := H
  have A3 := Aside0.mk A30
  clear A30
  replace H := Option.bind_eq_some_iff.mp H
  obtain ⟨⟨t106, t107⟩, A40, H⟩ := H
  replace H : ((outriderref01_whole.f (IntKind.u64.wrap (t104 + t106)) (IntKind.u64.wrap ((IntKind.u64.wrap (t105 + t107)) + ((IntKind.u64.wrap (t104 + t106)) / 4294967296)))).bind fun t108 => (some t108)) = some r := H
  have A4 := Aside0.mk A40
  clear A40
  replace H := Option.bind_eq_some_iff.mp H
  obtain ⟨t108, A50, H⟩ := H
  replace H : (some t108) = some r := H
  have A5 := Aside0.mk A50
  clear A50
  obtain rfl := Option.some.inj H
  go_enter Try.func32, Try.ntmps32
  go_wp2_with (first | ((with_reducible refine gate_callee (f := 46) rfl ?_); refine goesL_ (some 12) rfl rfl Try.func46 (by kernel_rfl) rfl #[.int .i64 a0] rfl (by (try simp only [List.map_toArray, List.map_cons, List.map_nil]); first | done | rfl | (simp only [List.length_drop, List.length_take]; rfl)) ?_; (with_reducible refine (outriderref01_half.calls a0 t104 t105 _ A3.out).mono ?_); rintro e w' ⟨rfl, ⟨nd, rfl⟩⟩; refine ⟨_, rfl, ?_⟩) | ((with_reducible refine gate_callee (f := 46) rfl ?_); refine goesL_ (some 17) rfl rfl Try.func46 (by kernel_rfl) rfl #[.int .i64 a1] rfl (by (try simp only [List.map_toArray, List.map_cons, List.map_nil]); first | done | rfl | (simp only [List.length_drop, List.length_take]; rfl)) ?_; (with_reducible refine (outriderref01_half.calls a1 t106 t107 _ A4.out).mono ?_); rintro e w' ⟨rfl, ⟨nd, rfl⟩⟩; refine ⟨_, rfl, ?_⟩) | ((with_reducible refine gate_callee (f := 47) rfl ?_); refine goesL_ (some 30) rfl rfl Try.func47 (by kernel_rfl) rfl #[.int .u64 (IntKind.u64.wrap (t104 + t106)), .int .u64 (IntKind.u64.wrap ((IntKind.u64.wrap (t105 + t107)) + ((IntKind.u64.wrap (t104 + t106)) / 4294967296)))] rfl (by (try simp only [List.map_toArray, List.map_cons, List.map_nil]); first | done | rfl | (simp only [List.length_drop, List.length_take]; rfl)) ?_; (with_reducible refine (outriderref01_whole.calls (IntKind.u64.wrap (t104 + t106)) (IntKind.u64.wrap ((IntKind.u64.wrap (t105 + t107)) + ((IntKind.u64.wrap (t104 + t106)) / 4294967296))) t108 _ A5.out).mono ?_); rintro e w' ⟨rfl, ⟨nd, rfl⟩⟩; refine ⟨_, rfl, ?_⟩))
  go_ret
  exact ⟨by first | rfl | (simp; done) | (simp [*]; done), by repeat (first | exact Drawn0.refl _ | apply Drawn0.step)⟩

end Go.Proofs.Ytnpkaoogifjofaa.PNum
