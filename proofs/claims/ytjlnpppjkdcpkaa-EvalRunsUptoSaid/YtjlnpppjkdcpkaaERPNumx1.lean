/- Lines of this claim's proof. No conditions. -/
import Derived.Test.YtjlnpppjkdcpkaaERPNumx0
-- written by wip/tools/myprint.py
namespace Go.Proofs.Ytjlnpppjkdcpkaa.PNum
open Go.RowKit Go.Proofs.YtjlnpppjkdcpkaaW.PrintWords Go.Proofs.YtjlnpppjkdcpkaaW.PrintLast Go.Proofs.YtjlnpppjkdcpkaaW.PrintMore
attribute [local go_sem] max2_int min2_int max_two min_two max_three min_three max_four min_four   -- for this text's walks alone
set_option linter.unusedVariables false
set_option linter.unusedSimpArgs false
/-! ### outriderref01_half: function 119 -/
def outriderref01_half.f (a0 : Int) : Option (Int × Int) := some (Go.bits .and .u64 (IntKind.u64.wrap (a0)) 4294967295, (IntKind.u64.wrap (a0)) / 4294967296)
set_option maxHeartbeats 8000000 in
set_option maxRecDepth 100000 in
theorem outriderref01_half.calls (a0 : Int) (r1 : Int) (r2 : Int) (w : World) (h : outriderref01_half.f a0 = some (r1, r2)) :
  Calls Try.prog 119 #[.int .i64 a0] w fun e w' => e = .returned (.tuple #[.int .u64 r1, .int .u64 r2]) ∧ Drawn0 w w' := by
 have H : (some (Go.bits .and .u64 (IntKind.u64.wrap (a0)) 4294967295, (IntKind.u64.wrap (a0)) / 4294967296)) = some (r1, r2) := h
 clear h; simp only [Option.some.injEq, Prod.mk.injEq] at H
 obtain ⟨rfl, rfl⟩ := H; go_enter Try.func119, Try.ntmps119
 go_wp2; go_ret2
 exact ⟨by first | rfl | (simp; done) | (simp [*]; done), by repeat (first | exact Drawn0.refl _ | apply Drawn0.step)⟩
/-! ### outriderref01_whole: function 120 -/
def outriderref01_whole.f (a0 : Int) (a1 : Int) : Option (Int) := some (wrap64 (Go.bits .or .u64 (IntKind.u64.wrap (a1 * 4294967296)) (Go.bits .and .u64 a0 4294967295)))
set_option maxHeartbeats 8000000 in
set_option maxRecDepth 100000 in
theorem outriderref01_whole.calls (a0 : Int) (a1 : Int) (r : Int) (w : World) (h : outriderref01_whole.f a0 a1 = some r) :
  Calls Try.prog 120 #[.int .u64 a0, .int .u64 a1] w fun e w' => e = .returned (.int .i64 r) ∧ Drawn0 w w' := by
 have H : (some (wrap64 (Go.bits .or .u64 (IntKind.u64.wrap (a1 * 4294967296)) (Go.bits .and .u64 a0 4294967295)))) = some r := h
 clear h; obtain rfl := Option.some.inj H
 go_enter Try.func120, Try.ntmps120
 go_wp2; go_ret; exact ⟨by first | rfl | (simp; done) | (simp [*]; done), by repeat (first | exact Drawn0.refl _ | apply Drawn0.step)⟩
/-! ### outriderref01_com: function 107 -/
def outriderref01_com.f (a0 : Int) : Option (Int) := (outriderref01_half.f a0).bind fun bt101 => ((outriderref01_whole.f (IntKind.u64.wrap (4294967295 - bt101.1)) (IntKind.u64.wrap (4294967295 - bt101.2))).bind fun t103 => (some t103))
set_option maxHeartbeats 8000000 in
set_option maxRecDepth 100000 in
theorem outriderref01_com.calls (a0 : Int) (r : Int) (w : World) (h : outriderref01_com.f a0 = some r) :
  Calls Try.prog 107 #[.int .i64 a0] w fun e w' => e = .returned (.int .i64 r) ∧ Drawn0 w w' := by
 have H : ((outriderref01_half.f a0).bind fun bt101 => ((outriderref01_whole.f (IntKind.u64.wrap (4294967295 - bt101.1)) (IntKind.u64.wrap (4294967295 - bt101.2))).bind fun t103 => (some t103))) = some r := h
 clear h; replace H := Option.bind_eq_some_iff.mp H; obtain ⟨⟨t101, t102⟩, A20, H⟩ := H; replace H : ((outriderref01_whole.f (IntKind.u64.wrap (4294967295 - t101)) (IntKind.u64.wrap (4294967295 - t102))).bind fun t103 => (some t103)) = some r := H
 have A2 := Aside0.mk A20; clear A20; replace H := Option.bind_eq_some_iff.mp H; obtain ⟨t103, A30, H⟩ := H; replace H : (some t103) = some r := H
 have A3 := Aside0.mk A30; clear A30; obtain rfl := Option.some.inj H
 go_enter Try.func107, Try.ntmps107
 go_wp2_with (first | ((with_reducible refine gate_callee (f := 119) rfl ?_); refine goesL_ (some 7) rfl rfl Try.func119 (by kernel_rfl) rfl #[.int .i64 a0] rfl (by (try simp only [List.map_toArray, List.map_cons, List.map_nil]); first | done | rfl | (simp only [List.length_drop, List.length_take]; rfl)) ?_; (with_reducible refine (outriderref01_half.calls a0 t101 t102 _ A2.out).mono ?_); rintro e w' ⟨rfl, ⟨nd, rfl⟩⟩; refine ⟨_, rfl, ?_⟩) | ((with_reducible refine gate_callee (f := 120) rfl ?_); refine goesL_ (some 14) rfl rfl Try.func120 (by kernel_rfl) rfl #[.int .u64 (IntKind.u64.wrap (4294967295 - t101)), .int .u64 (IntKind.u64.wrap (4294967295 - t102))] rfl (by (try simp only [List.map_toArray, List.map_cons, List.map_nil]); first | done | rfl | (simp only [List.length_drop, List.length_take]; rfl)) ?_; (with_reducible refine (outriderref01_whole.calls (IntKind.u64.wrap (4294967295 - t101)) (IntKind.u64.wrap (4294967295 - t102)) t103 _ A3.out).mono ?_); rintro e w' ⟨rfl, ⟨nd, rfl⟩⟩; refine ⟨_, rfl, ?_⟩))
 go_ret; exact ⟨by first | rfl | (simp; done) | (simp [*]; done), by repeat (first | exact Drawn0.refl _ | apply Drawn0.step)⟩
/-! ### outriderref01_add: function 109 -/
def outriderref01_add.f (a0 : Int) (a1 : Int) : Option (Int) := (outriderref01_half.f a0).bind fun bt104 => ((outriderref01_half.f a1).bind fun bt106 => ((outriderref01_whole.f (IntKind.u64.wrap (bt104.1 + bt106.1)) (IntKind.u64.wrap ((IntKind.u64.wrap (bt104.2 + bt106.2)) + ((IntKind.u64.wrap (bt104.1 + bt106.1)) / 4294967296)))).bind fun t108 => (some t108)))
set_option maxHeartbeats 8000000 in
set_option maxRecDepth 100000 in
theorem outriderref01_add.calls (a0 : Int) (a1 : Int) (r : Int) (w : World) (h : outriderref01_add.f a0 a1 = some r) :
  Calls Try.prog 109 #[.int .i64 a0, .int .i64 a1] w fun e w' => e = .returned (.int .i64 r) ∧ Drawn0 w w' := by
 have H : ((outriderref01_half.f a0).bind fun bt104 => ((outriderref01_half.f a1).bind fun bt106 => ((outriderref01_whole.f (IntKind.u64.wrap (bt104.1 + bt106.1)) (IntKind.u64.wrap ((IntKind.u64.wrap (bt104.2 + bt106.2)) + ((IntKind.u64.wrap (bt104.1 + bt106.1)) / 4294967296)))).bind fun t108 => (some t108)))) = some r := h
 clear h; replace H := Option.bind_eq_some_iff.mp H; obtain ⟨⟨t104, t105⟩, A30, H⟩ := H; replace H : ((outriderref01_half.f a1).bind fun bt106 => ((outriderref01_whole.f (IntKind.u64.wrap (t104 + bt106.1)) (IntKind.u64.wrap ((IntKind.u64.wrap (t105 + bt106.2)) + ((IntKind.u64.wrap (t104 + bt106.1)) / 4294967296)))).bind fun t108 => (some t108))) = some r := H
 have A3 := Aside0.mk A30; clear A30; replace H := Option.bind_eq_some_iff.mp H; obtain ⟨⟨t106, t107⟩, A40, H⟩ := H; replace H : ((outriderref01_whole.f (IntKind.u64.wrap (t104 + t106)) (IntKind.u64.wrap ((IntKind.u64.wrap (t105 + t107)) + ((IntKind.u64.wrap (t104 + t106)) / 4294967296)))).bind fun t108 => (some t108)) = some r := H
 have A4 := Aside0.mk A40; clear A40; replace H := Option.bind_eq_some_iff.mp H; obtain ⟨t108, A50, H⟩ := H; replace H : (some t108) = some r := H
 have A5 := Aside0.mk A50; clear A50; obtain rfl := Option.some.inj H
 go_enter Try.func109, Try.ntmps109
 go_wp2_with (first | ((with_reducible refine gate_callee (f := 119) rfl ?_); refine goesL_ (some 12) rfl rfl Try.func119 (by kernel_rfl) rfl #[.int .i64 a0] rfl (by (try simp only [List.map_toArray, List.map_cons, List.map_nil]); first | done | rfl | (simp only [List.length_drop, List.length_take]; rfl)) ?_; (with_reducible refine (outriderref01_half.calls a0 t104 t105 _ A3.out).mono ?_); rintro e w' ⟨rfl, ⟨nd, rfl⟩⟩; refine ⟨_, rfl, ?_⟩) | ((with_reducible refine gate_callee (f := 119) rfl ?_); refine goesL_ (some 17) rfl rfl Try.func119 (by kernel_rfl) rfl #[.int .i64 a1] rfl (by (try simp only [List.map_toArray, List.map_cons, List.map_nil]); first | done | rfl | (simp only [List.length_drop, List.length_take]; rfl)) ?_; (with_reducible refine (outriderref01_half.calls a1 t106 t107 _ A4.out).mono ?_); rintro e w' ⟨rfl, ⟨nd, rfl⟩⟩; refine ⟨_, rfl, ?_⟩) | ((with_reducible refine gate_callee (f := 120) rfl ?_); refine goesL_ (some 30) rfl rfl Try.func120 (by kernel_rfl) rfl #[.int .u64 (IntKind.u64.wrap (t104 + t106)), .int .u64 (IntKind.u64.wrap ((IntKind.u64.wrap (t105 + t107)) + ((IntKind.u64.wrap (t104 + t106)) / 4294967296)))] rfl (by (try simp only [List.map_toArray, List.map_cons, List.map_nil]); first | done | rfl | (simp only [List.length_drop, List.length_take]; rfl)) ?_; (with_reducible refine (outriderref01_whole.calls (IntKind.u64.wrap (t104 + t106)) (IntKind.u64.wrap ((IntKind.u64.wrap (t105 + t107)) + ((IntKind.u64.wrap (t104 + t106)) / 4294967296))) t108 _ A5.out).mono ?_); rintro e w' ⟨rfl, ⟨nd, rfl⟩⟩; refine ⟨_, rfl, ?_⟩))
 go_ret; exact ⟨by first | rfl | (simp; done) | (simp [*]; done), by repeat (first | exact Drawn0.refl _ | apply Drawn0.step)⟩
/-! ### outriderref01_neg: function 106 -/
def outriderref01_neg.f (a0 : Int) : Option (Int) := (outriderref01_com.f a0).bind fun t109 => ((outriderref01_add.f t109 1).bind fun t110 => (some t110))
set_option maxHeartbeats 8000000 in
set_option maxRecDepth 100000 in
theorem outriderref01_neg.calls (a0 : Int) (r : Int) (w : World) (h : outriderref01_neg.f a0 = some r) :
  Calls Try.prog 106 #[.int .i64 a0] w fun e w' => e = .returned (.int .i64 r) ∧ Drawn0 w w' := by
 have H : ((outriderref01_com.f a0).bind fun t109 => ((outriderref01_add.f t109 1).bind fun t110 => (some t110))) = some r := h
 clear h; replace H := Option.bind_eq_some_iff.mp H; obtain ⟨t109, A20, H⟩ := H; replace H : ((outriderref01_add.f t109 1).bind fun t110 => (some t110)) = some r := H
 have A2 := Aside0.mk A20; clear A20; replace H := Option.bind_eq_some_iff.mp H; obtain ⟨t110, A30, H⟩ := H; replace H : (some t110) = some r := H
 have A3 := Aside0.mk A30; clear A30; obtain rfl := Option.some.inj H
 go_enter Try.func106, Try.ntmps106
 go_wp2_with (first | ((with_reducible refine gate_callee (f := 107) rfl ?_); refine goesL_ (some 4) rfl rfl Try.func107 (by kernel_rfl) rfl #[.int .i64 a0] rfl (by (try simp only [List.map_toArray, List.map_cons, List.map_nil]); first | done | rfl | (simp only [List.length_drop, List.length_take]; rfl)) ?_; (with_reducible refine (outriderref01_com.calls a0 t109 _ A2.out).mono ?_); rintro e w' ⟨rfl, ⟨nd, rfl⟩⟩; refine ⟨_, rfl, ?_⟩) | ((with_reducible refine gate_callee (f := 109) rfl ?_); refine goesL_ (some 5) rfl rfl Try.func109 (by kernel_rfl) rfl #[.int .i64 t109, .int .i64 1] rfl (by (try simp only [List.map_toArray, List.map_cons, List.map_nil]); first | done | rfl | (simp only [List.length_drop, List.length_take]; rfl)) ?_; (with_reducible refine (outriderref01_add.calls t109 1 t110 _ A3.out).mono ?_); rintro e w' ⟨rfl, ⟨nd, rfl⟩⟩; refine ⟨_, rfl, ?_⟩))
 go_ret; exact ⟨by first | rfl | (simp; done) | (simp [*]; done), by repeat (first | exact Drawn0.refl _ | apply Drawn0.step)⟩
/-! ### outriderref01_truth: function 108 -/
def outriderref01_truth.f (a0 : Bool) : Option (Int) := if a0 = true then (some 1) else (some 0)
set_option maxHeartbeats 8000000 in
set_option maxRecDepth 100000 in
theorem outriderref01_truth.calls (a0 : Bool) (r : Int) (w : World) (h : outriderref01_truth.f a0 = some r) :
  Calls Try.prog 108 #[.bool a0] w fun e w' => e = .returned (.int .i64 r) ∧ Drawn0 w w' := by
 have H : (if a0 = true then (some 1) else (some 0)) = some r := h
 clear h; by_cases c2 : a0 = true
 ·subst c2
  have H1 : (some 1) = some r := by rw [if_pos rfl] at H; exact H
  clear H; have H := H1; clear H1; obtain rfl := Option.some.inj H
  go_enter Try.func108, Try.ntmps108
  go_wp2; go_ret; exact ⟨by first | rfl | (simp; done) | (simp [*]; done), by repeat (first | exact Drawn0.refl _ | apply Drawn0.step)⟩
 ·replace c2 := Bool.eq_false_iff.mpr c2
  subst c2; have H1 : (some 0) = some r := by rw [if_neg (show ¬ (false = true) by decide)] at H; exact H
  clear H; have H := H1; clear H1; obtain rfl := Option.some.inj H
  go_enter Try.func108, Try.ntmps108
  go_wp2; go_ret; exact ⟨by first | rfl | (simp; done) | (simp [*]; done), by repeat (first | exact Drawn0.refl _ | apply Drawn0.step)⟩
/-! ### outriderref01_bit: function 121 -/
def outriderref01_bit.f (a0 : Int) (a1 : Int) : Option (Bool) := if 0 ≤ (IntKind.u64.wrap (a1)) then (some ((Go.bits .and .u64 (shr .u64 (IntKind.u64.wrap (a0)) (IntKind.u64.wrap (a1))) 1) == 1)) else (none)
set_option maxHeartbeats 8000000 in
set_option maxRecDepth 100000 in
theorem outriderref01_bit.calls (a0 : Int) (a1 : Int) (r : Bool) (w : World) (h : outriderref01_bit.f a0 a1 = some r) :
  Calls Try.prog 121 #[.int .i64 a0, .int .i64 a1] w fun e w' => e = .returned (.bool r) ∧ Drawn0 w w' := by
 have H : (if 0 ≤ (IntKind.u64.wrap (a1)) then (some ((Go.bits .and .u64 (shr .u64 (IntKind.u64.wrap (a0)) (IntKind.u64.wrap (a1))) 1) == 1)) else (none)) = some r := h
 clear h; obtain ⟨ji3, hji3⟩ : ∃ j_ : Int, (IntKind.u64.wrap (a1)) = j_ := ⟨_, rfl⟩
 replace H : (if 0 ≤ (ji3) then (some ((Go.bits .and .u64 (shr .u64 (IntKind.u64.wrap (a0)) (ji3)) 1) == 1)) else (none)) = some r := by first | (rw [hji3] at H; exact H) | (simp only [hji3] at H ⊢; exact H)
 by_cases c4 : 0 ≤ (ji3)
 ·rw [if_pos c4] at H
  have c4b0 := eq_true c4; have c4b1 : decide (0 ≤ (ji3)) = true := decide_eq_true c4
  clear c4; obtain ⟨ji5, hji5⟩ : ∃ j_ : Int, (shr .u64 (IntKind.u64.wrap (a0)) (ji3)) = j_ := ⟨_, rfl⟩
  replace H : (some ((Go.bits .and .u64 (ji5) 1) == 1)) = some r := by first | (rw [hji5] at H; exact H) | (simp only [hji5] at H ⊢; exact H)
  have hji5_ : ((IntKind.u64.wrap (a0)) / 2 ^ min (ji3).toNat 64) = ji5 := hji5
  have hji5z : (ji3) ≤ 64 → ((IntKind.u64.wrap (a0)) / 2 ^ (ji3).toNat) = ji5 := shr_small hji5
  obtain rfl := Option.some.inj H
  go_enter Try.func121, Try.ntmps121
  go_wp2; go_ret; exact ⟨by first | rfl | (simp; done) | (simp only [← hji3, ← hji5] <;> (first | rfl | simp)) | (simp [*]; done), by repeat (first | exact Drawn0.refl _ | apply Drawn0.step)⟩
 ·rw [if_neg c4] at H
  exact absurd H (by simp)
end Go.Proofs.Ytjlnpppjkdcpkaa.PNum
