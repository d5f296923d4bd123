/- Lines of this claim's proof. No conditions. -/
import Derived.Test.YtjlnpppjkdcpkaaERPNumx0
import Derived.Test.YtjlnpppjkdcpkaaERPNumx1
-- written by wip/tools/myprint.py
namespace Go.Proofs.Ytjlnpppjkdcpkaa.PNum
open Go.RowKit Go.Proofs.YtjlnpppjkdcpkaaW.PrintWords Go.Proofs.YtjlnpppjkdcpkaaW.PrintLast Go.Proofs.YtjlnpppjkdcpkaaW.PrintMore
attribute [local go_sem] max2_int min2_int max_two min_two max_three min_three max_four min_four   -- for this text's walks alone
set_option linter.unusedVariables false
set_option linter.unusedSimpArgs false
/-! ### outriderref01_One: function 98 -/
def outriderref01_One.f (a0 : Int) (a1 : Int) : Option (Int × Bool) := if a0 = 19 then ((outriderref01_neg.f a1).bind fun t153 => (some (t153, true))) else (if a0 = 20 then ((outriderref01_com.f a1).bind fun t154 => (some (t154, true))) else (if a0 = 21 then ((outriderref01_truth.f (a1 == 0)).bind fun t155 => (some (t155, true))) else (some (0, false))))
set_option maxHeartbeats 8000000 in
set_option maxRecDepth 100000 in
theorem outriderref01_One.calls (a0 : Int) (a1 : Int) (r1 : Int) (r2 : Bool) (w : World) (h : outriderref01_One.f a0 a1 = some (r1, r2)) :
  Calls Try.prog 98 #[.int .i64 a0, .int .i64 a1] w fun e w' => e = .returned (.tuple #[.int .i64 r1, .bool r2]) ∧ Drawn0 w w' := by
 have H : (if a0 = 19 then ((outriderref01_neg.f a1).bind fun t153 => (some (t153, true))) else (if a0 = 20 then ((outriderref01_com.f a1).bind fun t154 => (some (t154, true))) else (if a0 = 21 then ((outriderref01_truth.f (a1 == 0)).bind fun t155 => (some (t155, true))) else (some (0, false))))) = some (r1, r2) := h
 clear h; by_cases c3 : a0 = 19
 ·rw [if_pos c3] at H
  have c3b0 : (a0 == 19) = true := beq_iff_eq.mpr c3
  have c3b1 : (a0 != 19) = false := bne_eq_false_iff_eq.mpr c3
  clear c3; replace H := Option.bind_eq_some_iff.mp H; obtain ⟨t153, A40, H⟩ := H; replace H : (some (t153, true)) = some (r1, r2) := H
  have A4 := Aside0.mk A40; clear A40; simp only [Option.some.injEq, Prod.mk.injEq] at H
  obtain ⟨rfl, rfl⟩ := H; go_enter Try.func98, Try.ntmps98
  go_wp2_with (first | ((with_reducible refine gate_callee (f := 106) rfl ?_); refine goesL_ (some 10) rfl rfl Try.func106 (by kernel_rfl) rfl #[.int .i64 a1] rfl (by (try simp only [List.map_toArray, List.map_cons, List.map_nil]); first | done | rfl | (simp only [List.length_drop, List.length_take]; rfl)) ?_; (with_reducible refine (outriderref01_neg.calls a1 t153 _ A4.out).mono ?_); rintro e w' ⟨rfl, ⟨nd, rfl⟩⟩; refine ⟨_, rfl, ?_⟩))
  go_ret2
  exact ⟨by first | rfl | (simp; done) | (simp [*]; done), by repeat (first | exact Drawn0.refl _ | apply Drawn0.step)⟩
 ·rw [if_neg c3] at H
  have c3b0 : (a0 == 19) = false := beq_eq_false_iff_ne.mpr c3
  have c3b1 : (a0 != 19) = true := bne_iff_ne.mpr c3
  by_cases c5 : a0 = 20
  ·rw [if_pos c5] at H
   have c5b0 : (a0 == 20) = true := beq_iff_eq.mpr c5
   have c5b1 : (a0 != 20) = false := bne_eq_false_iff_eq.mpr c5
   clear c5; replace H := Option.bind_eq_some_iff.mp H; obtain ⟨t154, A60, H⟩ := H; replace H : (some (t154, true)) = some (r1, r2) := H
   have A6 := Aside0.mk A60; clear A60; simp only [Option.some.injEq, Prod.mk.injEq] at H
   obtain ⟨rfl, rfl⟩ := H; go_enter Try.func98, Try.ntmps98
   go_wp2_with (first | ((with_reducible refine gate_callee (f := 107) rfl ?_); refine goesL_ (some 14) rfl rfl Try.func107 (by kernel_rfl) rfl #[.int .i64 a1] rfl (by (try simp only [List.map_toArray, List.map_cons, List.map_nil]); first | done | rfl | (simp only [List.length_drop, List.length_take]; rfl)) ?_; (with_reducible refine (outriderref01_com.calls a1 t154 _ A6.out).mono ?_); rintro e w' ⟨rfl, ⟨nd, rfl⟩⟩; refine ⟨_, rfl, ?_⟩))
   go_ret2
   exact ⟨by first | rfl | (simp; done) | (simp [*]; done), by repeat (first | exact Drawn0.refl _ | apply Drawn0.step)⟩
  ·rw [if_neg c5] at H
   have c5b0 : (a0 == 20) = false := beq_eq_false_iff_ne.mpr c5
   have c5b1 : (a0 != 20) = true := bne_iff_ne.mpr c5
   by_cases c7 : a0 = 21
   ·rw [if_pos c7] at H
    have c7b0 : (a0 == 21) = true := beq_iff_eq.mpr c7
    have c7b1 : (a0 != 21) = false := bne_eq_false_iff_eq.mpr c7
    clear c7; replace H := Option.bind_eq_some_iff.mp H; obtain ⟨t155, A80, H⟩ := H; replace H : (some (t155, true)) = some (r1, r2) := H
    have A8 := Aside0.mk A80; clear A80; simp only [Option.some.injEq, Prod.mk.injEq] at H
    obtain ⟨rfl, rfl⟩ := H; go_enter Try.func98, Try.ntmps98
    go_wp2_with (first | ((with_reducible refine gate_callee (f := 108) rfl ?_); refine goesL_ (some 19) rfl rfl Try.func108 (by kernel_rfl) rfl #[.bool (a1 == 0)] rfl (by (try simp only [List.map_toArray, List.map_cons, List.map_nil]); first | done | rfl | (simp only [List.length_drop, List.length_take]; rfl)) ?_; (with_reducible refine (outriderref01_truth.calls (a1 == 0) t155 _ A8.out).mono ?_); rintro e w' ⟨rfl, ⟨nd, rfl⟩⟩; refine ⟨_, rfl, ?_⟩))
    go_ret2
    exact ⟨by first | rfl | (simp; done) | (simp [*]; done), by repeat (first | exact Drawn0.refl _ | apply Drawn0.step)⟩
   ·rw [if_neg c7] at H
    have c7b0 : (a0 == 21) = false := beq_eq_false_iff_ne.mpr c7
    have c7b1 : (a0 != 21) = true := bne_iff_ne.mpr c7
    simp only [Option.some.injEq, Prod.mk.injEq] at H
    obtain ⟨rfl, rfl⟩ := H; go_enter Try.func98, Try.ntmps98
    go_wp2; go_ret2
    exact ⟨by first | rfl | (simp; done) | (simp [*]; done), by repeat (first | exact Drawn0.refl _ | apply Drawn0.step)⟩
end Go.Proofs.Ytjlnpppjkdcpkaa.PNum
