/- Lines of this claim's proof. No conditions. -/
import Derived.Test.YtjlnpppjkdcpkaaERPNumx0
import Derived.Test.YtjlnpppjkdcpkaaERPNumx1
-- written by wip/tools/myprint.py
namespace Go.Proofs.Ytjlnpppjkdcpkaa.PNum
open Go.RowKit Go.Proofs.YtjlnpppjkdcpkaaW.PrintWords Go.Proofs.YtjlnpppjkdcpkaaW.PrintLast Go.Proofs.YtjlnpppjkdcpkaaW.PrintMore
attribute [local go_sem] max2_int min2_int max_two min_two max_three min_three max_four min_four   -- for this text's walks alone
set_option linter.unusedVariables false
set_option linter.unusedSimpArgs false
/-! ### outriderref01_moved: function 115 -/
def outriderref01_moved.l0 : Nat → Int → Int → Int → Option (Int)
 | 0, _, _, _ => none
 | k + 1, x0, x1, x7 => if x7 > 0 then (if x0 = 9 then ((outriderref01_add.f x1 x1).bind fun t119 => (outriderref01_moved.l0 k x0 t119 (IntKind.u64.wrap (x7 - 1)))) else (if x1 < 0 then (outriderref01_moved.l0 k x0 (wrap64 (Go.bits .or .u64 ((IntKind.u64.wrap (x1)) / 2) 9223372036854775808)) (IntKind.u64.wrap (x7 - 1))) else (outriderref01_moved.l0 k x0 (wrap64 ((IntKind.u64.wrap (x1)) / 2)) (IntKind.u64.wrap (x7 - 1))))) else (some x1)
def outriderref01_moved.f (k : Nat) (a0 : Int) (a1 : Int) (a2 : Int) : Option (Int) := outriderref01_moved.l0 k a0 a1 (Int.tmod (IntKind.u64.wrap (a2)) 64)
theorem outriderref01_moved.mono_l : ∀ k, (∀ y0 y1 y2, LeO (outriderref01_moved.l0 k y0 y1 y2) (outriderref01_moved.l0 (k + 1) y0 y1 y2))
 | 0 => fun _ _ _ r h => by simp [outriderref01_moved.l0] at h
 | k + 1 => by
  have ih0 := outriderref01_moved.mono_l k
  ·intro y0 y1 y2
   unfold outriderref01_moved.l0
   repeat' first
   | (with_reducible exact ih0 _ _ _)
   | (with_reducible exact LeO.refl _)
   | (with_reducible exact LeO.none _)
   | (with_reducible refine LeO.ite ?_ ?_)
   | (with_reducible refine LeO.bind ?_ (fun _ => ?_))
   | exact ih0 _ _ _
   | exact LeO.none _
   | refine LeO.ite ?_ ?_
   | refine LeO.bind ?_ (fun _ => ?_)
theorem outriderref01_moved.mono : ∀ a0 a1 a2 k, LeO (outriderref01_moved.f k a0 a1 a2) (outriderref01_moved.f (k + 1) a0 a1 a2) := by
 intro a0 a1 a2 k; have ih0 := outriderref01_moved.mono_l k; unfold outriderref01_moved.f
 repeat' first
   | (with_reducible exact ih0 _ _ _)
   | (with_reducible exact LeO.refl _)
   | (with_reducible exact LeO.none _)
   | (with_reducible refine LeO.ite ?_ ?_)
   | (with_reducible refine LeO.bind ?_ (fun _ => ?_))
   | exact ih0 _ _ _
   | exact LeO.none _
   | refine LeO.ite ?_ ?_
   | refine LeO.bind ?_ (fun _ => ?_)
set_option maxHeartbeats 8000000 in
set_option maxRecDepth 100000 in
theorem outriderref01_moved.calls (k : Nat) (a0 : Int) (a1 : Int) (a2 : Int) (r : Int) (w : World) (h : outriderref01_moved.f k a0 a1 a2 = some r) :
  Calls Try.prog 115 #[.int .i64 a0, .int .i64 a1, .int .i64 a2] w fun e w' => e = .returned (.int .i64 r) ∧ Drawn0 w w' := by
 have H : (outriderref01_moved.l0 k a0 a1 (Int.tmod (IntKind.u64.wrap (a2)) 64)) = some r := h
 clear h; have H' := Aside0.mk H; clear H; go_enter Try.func115, Try.ntmps115
 go_wp2; go_loopg [1, 7] k (fun kq v1 v7 w' => ∃ (x1_1 : Int) (x7_1 : Int), v1 = .int .i64 x1_1 ∧ v7 = .int .u64 x7_1 ∧ Aside0 (outriderref01_moved.l0 kq a0 x1_1 x7_1 = some r) ∧ Aside0 (kq ≤ k) ∧ Drawn0 w w')
 case atStart => exact ⟨(a1), (Int.tmod (IntKind.u64.wrap (a2)) 64), (by first | rfl | (simp; done) | (simp [*]; done)), (by first | rfl | (simp; done) | (simp [*]; done)), H', ⟨Nat.le_refl _⟩, by repeat (first | exact Drawn0.refl _ | apply Drawn0.step)⟩
 case round =>
  clear H'; try clear c1
  try clear p2
  obtain ⟨x1_1, x7_1, rfl, rfl, HA, HK1, ⟨m1, rfl⟩⟩ := hrel
  cases gk with
  | zero => exact absurd HA.out (by simp [outriderref01_moved.l0])
  | succ k1 =>
   have H := HA.out; clear HA; simp only [outriderref01_moved.l0] at H
   by_cases c4 : x7_1 > 0
   ·rw [if_pos c4] at H
    have c4b0 : decide (0 < x7_1) = true := decide_eq_true c4
    clear c4; by_cases c5 : a0 = 9
    ·rw [if_pos c5] at H
     have c5b0 : (a0 == 9) = true := beq_iff_eq.mpr c5
     have c5b1 : (a0 != 9) = false := bne_eq_false_iff_eq.mpr c5
     clear c5; replace H := Option.bind_eq_some_iff.mp H; obtain ⟨t119, A60, H⟩ := H; replace H : (outriderref01_moved.l0 k1 a0 t119 (IntKind.u64.wrap (x7_1 - 1))) = some r := H
     have A6 := Aside0.mk A60; clear A60; have H' := Aside0.mk H; clear H; go_wp2_with (first | ((with_reducible refine gate_callee (f := 109) rfl ?_); refine goesL_ (some 20) rfl rfl Try.func109 (by kernel_rfl) rfl #[.int .i64 x1_1, .int .i64 x1_1] rfl (by (try simp only [List.map_toArray, List.map_cons, List.map_nil]); first | done | rfl | (simp only [List.length_drop, List.length_take]; rfl)) ?_; (with_reducible refine (outriderref01_add.calls x1_1 x1_1 t119 _ A6.out).mono ?_); rintro e w' ⟨rfl, ⟨nd, rfl⟩⟩; refine ⟨_, rfl, ?_⟩))
     go_roundg k1
     case measure => have := HK1.out; omega
     case rel => exact ⟨(t119), (IntKind.u64.wrap (x7_1 - 1)), (by first | rfl | (simp; done) | (simp [*]; done)), (by first | rfl | (simp; done) | (simp [*]; done)), H', ⟨by have := HK1.out; omega⟩, by repeat (first | exact Drawn0.refl _ | apply Drawn0.step)⟩
    ·rw [if_neg c5] at H
     have c5b0 : (a0 == 9) = false := beq_eq_false_iff_ne.mpr c5
     have c5b1 : (a0 != 9) = true := bne_iff_ne.mpr c5
     by_cases c7 : x1_1 < 0
     ·rw [if_pos c7] at H
      have c7b0 : decide (x1_1 < 0) = true := decide_eq_true c7
      clear c7; have H' := Aside0.mk H; clear H; go_wp2; go_roundg k1
      case measure => have := HK1.out; omega
      case rel => exact ⟨(wrap64 (Go.bits .or .u64 ((IntKind.u64.wrap (x1_1)) / 2) 9223372036854775808)), (IntKind.u64.wrap (x7_1 - 1)), (by first | rfl | (simp; done) | (simp [*]; done)), (by first | rfl | (simp; done) | (simp [*]; done)), H', ⟨by have := HK1.out; omega⟩, by repeat (first | exact Drawn0.refl _ | apply Drawn0.step)⟩
     ·rw [if_neg c7] at H
      have c7b0 : decide (x1_1 < 0) = false := decide_eq_false c7
      clear c7; have H' := Aside0.mk H; clear H; go_wp2; go_roundg k1
      case measure => have := HK1.out; omega
      case rel => exact ⟨(wrap64 ((IntKind.u64.wrap (x1_1)) / 2)), (IntKind.u64.wrap (x7_1 - 1)), (by first | rfl | (simp; done) | (simp [*]; done)), (by first | rfl | (simp; done) | (simp [*]; done)), H', ⟨by have := HK1.out; omega⟩, by repeat (first | exact Drawn0.refl _ | apply Drawn0.step)⟩
   ·rw [if_neg c4] at H
    have c4b0 : decide (0 < x7_1) = false := decide_eq_false c4
    clear c4; obtain rfl := Option.some.inj H
    go_wp2; go_ret; exact ⟨by first | rfl | (simp; done) | (simp [*]; done), by repeat (first | exact Drawn0.refl _ | apply Drawn0.step)⟩
/-! ### outriderref01_below: function 116 -/
def outriderref01_below.l0 : Nat → Int → Int → Int → Option (Bool)
 | 0, _, _, _ => none
 | k + 1, x0, x1, x5 => if x5 ≥ 0 then ((outriderref01_bit.f x0 x5).bind fun t120 => ((outriderref01_bit.f x1 x5).bind fun t121 => (if (t120 != t121) = true then ((outriderref01_bit.f x1 x5).bind fun t122 => (some t122)) else (outriderref01_below.l0 k x0 x1 (wrap64 (x5 - 1)))))) else (some false)
def outriderref01_below.f (k : Nat) (a0 : Int) (a1 : Int) : Option (Bool) := if ((decide (a0 < 0)) != (decide (a1 < 0))) = true then (some (decide (a0 < 0))) else (outriderref01_below.l0 k a0 a1 63)
theorem outriderref01_below.mono_l : ∀ k, (∀ y0 y1 y2, LeO (outriderref01_below.l0 k y0 y1 y2) (outriderref01_below.l0 (k + 1) y0 y1 y2))
 | 0 => fun _ _ _ r h => by simp [outriderref01_below.l0] at h
 | k + 1 => by
  have ih0 := outriderref01_below.mono_l k
  ·intro y0 y1 y2
   unfold outriderref01_below.l0
   repeat' first
   | (with_reducible exact ih0 _ _ _)
   | (with_reducible exact LeO.refl _)
   | (with_reducible exact LeO.none _)
   | (with_reducible refine LeO.ite ?_ ?_)
   | (with_reducible refine LeO.bind ?_ (fun _ => ?_))
   | exact ih0 _ _ _
   | exact LeO.none _
   | refine LeO.ite ?_ ?_
   | refine LeO.bind ?_ (fun _ => ?_)
theorem outriderref01_below.mono : ∀ a0 a1 k, LeO (outriderref01_below.f k a0 a1) (outriderref01_below.f (k + 1) a0 a1) := by
 intro a0 a1 k; have ih0 := outriderref01_below.mono_l k; unfold outriderref01_below.f
 repeat' first
   | (with_reducible exact ih0 _ _ _)
   | (with_reducible exact LeO.refl _)
   | (with_reducible exact LeO.none _)
   | (with_reducible refine LeO.ite ?_ ?_)
   | (with_reducible refine LeO.bind ?_ (fun _ => ?_))
   | exact ih0 _ _ _
   | exact LeO.none _
   | refine LeO.ite ?_ ?_
   | refine LeO.bind ?_ (fun _ => ?_)
set_option maxHeartbeats 8000000 in
set_option maxRecDepth 100000 in
theorem outriderref01_below.calls (k : Nat) (a0 : Int) (a1 : Int) (r : Bool) (w : World) (h : outriderref01_below.f k a0 a1 = some r) :
  Calls Try.prog 116 #[.int .i64 a0, .int .i64 a1] w fun e w' => e = .returned (.bool r) ∧ Drawn0 w w' := by
 have H : (if ((decide (a0 < 0)) != (decide (a1 < 0))) = true then (some (decide (a0 < 0))) else (outriderref01_below.l0 k a0 a1 63)) = some r := h
 clear h; by_cases c3 : ((decide (a0 < 0)) != (decide (a1 < 0))) = true
 ·rw [if_pos c3] at H
  have c3b0 : ((decide (a0 < 0)) != (decide (a1 < 0))) = true := c3
  (try (have c3b1 : decide ((decide (a0 < 0)) = (decide (a1 < 0))) = false := by simpa using c3))
  (try (have c3b2 : ((decide (a0 < 0)) == (decide (a1 < 0))) = false := by simpa using c3))
  (try (have c3b3 : ¬ ((decide (a0 < 0)) = (decide (a1 < 0))) := by simpa using c3))
  clear c3; obtain rfl := Option.some.inj H
  go_enter Try.func116, Try.ntmps116
  go_wp2; go_ret; exact ⟨by first | rfl | (simp; done) | (simp [*]; done), by repeat (first | exact Drawn0.refl _ | apply Drawn0.step)⟩
 ·rw [if_neg c3] at H
  have c3b0 : ((decide (a0 < 0)) != (decide (a1 < 0))) = false := by simpa using c3
  (try (have c3b1 : decide ((decide (a0 < 0)) = (decide (a1 < 0))) = true := by simpa using c3))
  (try (have c3b2 : ((decide (a0 < 0)) == (decide (a1 < 0))) = true := by simpa using c3))
  clear c3; have H' := Aside0.mk H; clear H; go_enter Try.func116, Try.ntmps116
  go_wp2; go_loopg [5] k (fun kq v5 w' => ∃ (x5_1 : Int), v5 = .int .i64 x5_1 ∧ Aside0 (outriderref01_below.l0 kq a0 a1 x5_1 = some r) ∧ Aside0 (kq ≤ k) ∧ Drawn0 w w')
  case atStart => exact ⟨(63), (by first | rfl | (simp; done) | (simp [*]; done)), H', ⟨Nat.le_refl _⟩, by repeat (first | exact Drawn0.refl _ | apply Drawn0.step)⟩
  case round =>
   clear H'; try clear c1
   try clear p2
   try clear c3
   try clear c3b0
   try clear c3b1
   try clear c3b2
   obtain ⟨x5_1, rfl, HA, HK1, ⟨m1, rfl⟩⟩ := hrel
   cases gk with
   | zero => exact absurd HA.out (by simp [outriderref01_below.l0])
   | succ k1 =>
    have H := HA.out; clear HA; simp only [outriderref01_below.l0] at H
    by_cases c4 : x5_1 ≥ 0
    ·rw [if_pos c4] at H
     have c4b0 : decide (0 ≤ x5_1) = true := decide_eq_true c4
     clear c4; replace H := Option.bind_eq_some_iff.mp H; obtain ⟨t120, A50, H⟩ := H; replace H : ((outriderref01_bit.f a1 x5_1).bind fun t121 => (if (t120 != t121) = true then ((outriderref01_bit.f a1 x5_1).bind fun t122 => (some t122)) else (outriderref01_below.l0 k1 a0 a1 (wrap64 (x5_1 - 1))))) = some r := H
     have A5 := Aside0.mk A50; clear A50; replace H := Option.bind_eq_some_iff.mp H; obtain ⟨t121, A60, H⟩ := H; replace H : (if (t120 != t121) = true then ((outriderref01_bit.f a1 x5_1).bind fun t122 => (some t122)) else (outriderref01_below.l0 k1 a0 a1 (wrap64 (x5_1 - 1)))) = some r := H
     have A6 := Aside0.mk A60; clear A60; by_cases c7 : (t120 != t121) = true
     ·rw [if_pos c7] at H
      have c7b0 : (t120 != t121) = true := c7
      (try (have c7b1 : decide (t120 = t121) = false := by simpa using c7))
      (try (have c7b2 : (t120 == t121) = false := by simpa using c7))
      (try (have c7b3 : ¬ (t120 = t121) := by simpa using c7))
      clear c7; replace H := Option.bind_eq_some_iff.mp H; obtain ⟨t122, A80, H⟩ := H; replace H : (some t122) = some r := H
      have A8 := Aside0.mk A80; clear A80; obtain rfl := Option.some.inj H
      go_wp2_with (first | ((with_reducible refine gate_callee (f := 121) rfl ?_); refine goesL_ (some 19) rfl rfl Try.func121 (by kernel_rfl) rfl #[.int .i64 a0, .int .i64 x5_1] rfl (by (try simp only [List.map_toArray, List.map_cons, List.map_nil]); first | done | rfl | (simp only [List.length_drop, List.length_take]; rfl)) ?_; (with_reducible refine (outriderref01_bit.calls a0 x5_1 t120 _ A5.out).mono ?_); rintro e w' ⟨rfl, ⟨nd, rfl⟩⟩; refine ⟨_, rfl, ?_⟩) | ((with_reducible refine gate_callee (f := 121) rfl ?_); refine goesL_ (some 22) rfl rfl Try.func121 (by kernel_rfl) rfl #[.int .i64 a1, .int .i64 x5_1] rfl (by (try simp only [List.map_toArray, List.map_cons, List.map_nil]); first | done | rfl | (simp only [List.length_drop, List.length_take]; rfl)) ?_; (with_reducible refine (outriderref01_bit.calls a1 x5_1 t121 _ A6.out).mono ?_); rintro e w' ⟨rfl, ⟨nd, rfl⟩⟩; refine ⟨_, rfl, ?_⟩) | ((with_reducible refine gate_callee (f := 121) rfl ?_); refine goesL_ (some 26) rfl rfl Try.func121 (by kernel_rfl) rfl #[.int .i64 a1, .int .i64 x5_1] rfl (by (try simp only [List.map_toArray, List.map_cons, List.map_nil]); first | done | rfl | (simp only [List.length_drop, List.length_take]; rfl)) ?_; (with_reducible refine (outriderref01_bit.calls a1 x5_1 t122 _ A8.out).mono ?_); rintro e w' ⟨rfl, ⟨nd, rfl⟩⟩; refine ⟨_, rfl, ?_⟩))
      go_ret; exact ⟨by first | rfl | (simp; done) | (simp [*]; done), by repeat (first | exact Drawn0.refl _ | apply Drawn0.step)⟩
     ·rw [if_neg c7] at H
      have c7b0 : (t120 != t121) = false := by simpa using c7
      (try (have c7b1 : decide (t120 = t121) = true := by simpa using c7))
      (try (have c7b2 : (t120 == t121) = true := by simpa using c7))
      clear c7; have H' := Aside0.mk H; clear H; go_wp2_with (first | ((with_reducible refine gate_callee (f := 121) rfl ?_); refine goesL_ (some 19) rfl rfl Try.func121 (by kernel_rfl) rfl #[.int .i64 a0, .int .i64 x5_1] rfl (by (try simp only [List.map_toArray, List.map_cons, List.map_nil]); first | done | rfl | (simp only [List.length_drop, List.length_take]; rfl)) ?_; (with_reducible refine (outriderref01_bit.calls a0 x5_1 t120 _ A5.out).mono ?_); rintro e w' ⟨rfl, ⟨nd, rfl⟩⟩; refine ⟨_, rfl, ?_⟩) | ((with_reducible refine gate_callee (f := 121) rfl ?_); refine goesL_ (some 22) rfl rfl Try.func121 (by kernel_rfl) rfl #[.int .i64 a1, .int .i64 x5_1] rfl (by (try simp only [List.map_toArray, List.map_cons, List.map_nil]); first | done | rfl | (simp only [List.length_drop, List.length_take]; rfl)) ?_; (with_reducible refine (outriderref01_bit.calls a1 x5_1 t121 _ A6.out).mono ?_); rintro e w' ⟨rfl, ⟨nd, rfl⟩⟩; refine ⟨_, rfl, ?_⟩))
      go_roundg k1
      case measure => have := HK1.out; omega
      case rel => exact ⟨(wrap64 (x5_1 - 1)), (by first | rfl | (simp; done) | (simp [*]; done)), H', ⟨by have := HK1.out; omega⟩, by repeat (first | exact Drawn0.refl _ | apply Drawn0.step)⟩
    ·rw [if_neg c4] at H
     have c4b0 : decide (0 ≤ x5_1) = false := decide_eq_false c4
     clear c4; obtain rfl := Option.some.inj H
     go_wp2; go_ret; exact ⟨by first | rfl | (simp; done) | (simp [*]; done), by repeat (first | exact Drawn0.refl _ | apply Drawn0.step)⟩
end Go.Proofs.Ytjlnpppjkdcpkaa.PNum
