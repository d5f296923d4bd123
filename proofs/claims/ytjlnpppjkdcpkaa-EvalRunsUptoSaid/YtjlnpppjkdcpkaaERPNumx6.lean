/- Lines of this claim's proof. No conditions. -/
import Derived.Test.YtjlnpppjkdcpkaaERPNumx0
import Derived.Test.YtjlnpppjkdcpkaaERPNumx1
import Derived.Test.YtjlnpppjkdcpkaaERPNumx3
import Derived.Test.YtjlnpppjkdcpkaaERPNumx4
import Derived.Test.YtjlnpppjkdcpkaaERPNumx5
-- written by wip/tools/myprint.py
namespace Go.Proofs.Ytjlnpppjkdcpkaa.PNum
open Go.RowKit Go.Proofs.YtjlnpppjkdcpkaaW.PrintWords Go.Proofs.YtjlnpppjkdcpkaaW.PrintLast Go.Proofs.YtjlnpppjkdcpkaaW.PrintMore
attribute [local go_sem] max2_int min2_int max_two min_two max_three min_three max_four min_four   -- for this text's walks alone
set_option linter.unusedVariables false
set_option linter.unusedSimpArgs false
/-! ### outriderref01_Two: function 99 -/
mutual
def outriderref01_Two.j0 : Nat → Int → Int → Int → Int → Bool → Option (Int × Bool)
 | 0, _, _, _, _, _ => none
 | k + 1, x0, x1, x2, x10, x27 => if x27 = true then (if x2 = 0 then (some (0, false)) else ((outriderref01_size.f x1).bind fun t127 => ((outriderref01_size.f x2).bind fun t128 => ((outriderref01_Long.f k t127 t128).bind fun bt129 => (if x0 = 4 then ((outriderref01_signed.f bt129.1 ((decide (x1 < 0)) != (decide (x2 < 0)))).bind fun t131 => (some (t131, true))) else ((outriderref01_signed.f bt129.2 (decide (x1 < 0))).bind fun t132 => (some (t132, true)))))))) else (if x10 = 6 then (outriderref01_Two.j1 k x0 x1 x2 x10 (x10 == 6)) else (if x10 = 7 then (outriderref01_Two.j1 k x0 x1 x2 x10 (x10 == 7)) else (outriderref01_Two.j1 k x0 x1 x2 x10 (x10 == 8))))
def outriderref01_Two.j1 : Nat → Int → Int → Int → Int → Bool → Option (Int × Bool)
 | 0, _, _, _, _, _ => none
 | k + 1, x0, x1, x2, x10, x53 => if x53 = true then ((outriderref01_logic.f k x0 x1 x2).bind fun t133 => (some (t133, true))) else (if x10 = 9 then (outriderref01_Two.j2 k x0 x1 x2 x10 (x10 == 9)) else (outriderref01_Two.j2 k x0 x1 x2 x10 (x10 == 10)))
def outriderref01_Two.j2 : Nat → Int → Int → Int → Int → Bool → Option (Int × Bool)
 | 0, _, _, _, _, _ => none
 | k + 1, x0, x1, x2, x10, x61 => if x61 = true then ((outriderref01_moved.f k x0 x1 x2).bind fun t134 => (some (t134, true))) else (if x10 = 11 then ((outriderref01_below.f k x1 x2).bind fun t135 => (if t135 = true then ((outriderref01_truth.f false).bind fun t136 => (some (t136, true))) else ((outriderref01_below.f k x2 x1).bind fun t137 => ((outriderref01_truth.f (!t137)).bind fun t138 => (some (t138, true)))))) else (if x10 = 12 then ((outriderref01_below.f k x1 x2).bind fun t139 => (if t139 = true then ((outriderref01_truth.f true).bind fun t140 => (some (t140, true))) else ((outriderref01_below.f k x2 x1).bind fun t141 => ((outriderref01_truth.f t141).bind fun t142 => (some (t142, true)))))) else (if x10 = 13 then ((outriderref01_below.f k x1 x2).bind fun t143 => ((outriderref01_truth.f t143).bind fun t144 => (some (t144, true)))) else (if x10 = 14 then ((outriderref01_below.f k x2 x1).bind fun t145 => ((outriderref01_truth.f (!t145)).bind fun t146 => (some (t146, true)))) else (if x10 = 15 then ((outriderref01_below.f k x2 x1).bind fun t147 => ((outriderref01_truth.f t147).bind fun t148 => (some (t148, true)))) else (if x10 = 16 then ((outriderref01_below.f k x1 x2).bind fun t149 => ((outriderref01_truth.f (!t149)).bind fun t150 => (some (t150, true)))) else (if x10 = 17 then ((outriderref01_below.f k x2 x1).bind fun t151 => (if t151 = true then (some (x2, true)) else (some (x1, true)))) else (if x10 = 18 then ((outriderref01_below.f k x1 x2).bind fun t152 => (if t152 = true then (some (x2, true)) else (some (x1, true)))) else (some (0, false))))))))))
end
def outriderref01_Two.f (k : Nat) (a0 : Int) (a1 : Int) (a2 : Int) : Option (Int × Bool) := if a0 = 1 then ((outriderref01_add.f a1 a2).bind fun t123 => (some (t123, true))) else (if a0 = 2 then ((outriderref01_neg.f a2).bind fun t124 => ((outriderref01_add.f a1 t124).bind fun t125 => (some (t125, true)))) else (if a0 = 3 then ((outriderref01_mul.f k a1 a2).bind fun t126 => (some (t126, true))) else (if a0 = 4 then (outriderref01_Two.j0 k a0 a1 a2 a0 (a0 == 4)) else (outriderref01_Two.j0 k a0 a1 a2 a0 (a0 == 5)))))
theorem outriderref01_Two.mono_l : ∀ k, (∀ y0 y1 y2 y3 y4, LeO (outriderref01_Two.j0 k y0 y1 y2 y3 y4) (outriderref01_Two.j0 (k + 1) y0 y1 y2 y3 y4)) ∧ (∀ y0 y1 y2 y3 y4, LeO (outriderref01_Two.j1 k y0 y1 y2 y3 y4) (outriderref01_Two.j1 (k + 1) y0 y1 y2 y3 y4)) ∧ (∀ y0 y1 y2 y3 y4, LeO (outriderref01_Two.j2 k y0 y1 y2 y3 y4) (outriderref01_Two.j2 (k + 1) y0 y1 y2 y3 y4))
 | 0 => ⟨fun _ _ _ _ _ r h => by simp [outriderref01_Two.j0] at h, fun _ _ _ _ _ r h => by simp [outriderref01_Two.j1] at h, fun _ _ _ _ _ r h => by simp [outriderref01_Two.j2] at h⟩
 | k + 1 => by
  obtain ⟨ih0, ih1, ih2⟩ := outriderref01_Two.mono_l k; refine ⟨?_, ?_, ?_⟩
  ·intro y0 y1 y2 y3 y4
   unfold outriderref01_Two.j0
   repeat' first
   | (with_reducible exact ih0 _ _ _ _ _)
   | (with_reducible exact ih1 _ _ _ _ _)
   | (with_reducible exact ih2 _ _ _ _ _)
   | (with_reducible exact outriderref01_Long.mono _ _ _)
   | (with_reducible exact outriderref01_below.mono _ _ _)
   | (with_reducible exact outriderref01_logic.mono _ _ _ _)
   | (with_reducible exact outriderref01_moved.mono _ _ _ _)
   | (with_reducible exact outriderref01_mul.mono _ _ _)
   | (with_reducible exact LeO.refl _)
   | (with_reducible exact LeO.none _)
   | (with_reducible refine LeO.ite ?_ ?_)
   | (with_reducible refine LeO.bind ?_ (fun _ => ?_))
   | exact ih0 _ _ _ _ _
   | exact ih1 _ _ _ _ _
   | exact ih2 _ _ _ _ _
   | exact outriderref01_Long.mono _ _ _
   | exact outriderref01_below.mono _ _ _
   | exact outriderref01_logic.mono _ _ _ _
   | exact outriderref01_moved.mono _ _ _ _
   | exact outriderref01_mul.mono _ _ _
   | exact LeO.none _
   | refine LeO.ite ?_ ?_
   | refine LeO.bind ?_ (fun _ => ?_)
  ·intro y0 y1 y2 y3 y4
   unfold outriderref01_Two.j1
   repeat' first
   | (with_reducible exact ih0 _ _ _ _ _)
   | (with_reducible exact ih1 _ _ _ _ _)
   | (with_reducible exact ih2 _ _ _ _ _)
   | (with_reducible exact outriderref01_Long.mono _ _ _)
   | (with_reducible exact outriderref01_below.mono _ _ _)
   | (with_reducible exact outriderref01_logic.mono _ _ _ _)
   | (with_reducible exact outriderref01_moved.mono _ _ _ _)
   | (with_reducible exact outriderref01_mul.mono _ _ _)
   | (with_reducible exact LeO.refl _)
   | (with_reducible exact LeO.none _)
   | (with_reducible refine LeO.ite ?_ ?_)
   | (with_reducible refine LeO.bind ?_ (fun _ => ?_))
   | exact ih0 _ _ _ _ _
   | exact ih1 _ _ _ _ _
   | exact ih2 _ _ _ _ _
   | exact outriderref01_Long.mono _ _ _
   | exact outriderref01_below.mono _ _ _
   | exact outriderref01_logic.mono _ _ _ _
   | exact outriderref01_moved.mono _ _ _ _
   | exact outriderref01_mul.mono _ _ _
   | exact LeO.none _
   | refine LeO.ite ?_ ?_
   | refine LeO.bind ?_ (fun _ => ?_)
  ·intro y0 y1 y2 y3 y4
   unfold outriderref01_Two.j2
   repeat' first
   | (with_reducible exact ih0 _ _ _ _ _)
   | (with_reducible exact ih1 _ _ _ _ _)
   | (with_reducible exact ih2 _ _ _ _ _)
   | (with_reducible exact outriderref01_Long.mono _ _ _)
   | (with_reducible exact outriderref01_below.mono _ _ _)
   | (with_reducible exact outriderref01_logic.mono _ _ _ _)
   | (with_reducible exact outriderref01_moved.mono _ _ _ _)
   | (with_reducible exact outriderref01_mul.mono _ _ _)
   | (with_reducible exact LeO.refl _)
   | (with_reducible exact LeO.none _)
   | (with_reducible refine LeO.ite ?_ ?_)
   | (with_reducible refine LeO.bind ?_ (fun _ => ?_))
   | exact ih0 _ _ _ _ _
   | exact ih1 _ _ _ _ _
   | exact ih2 _ _ _ _ _
   | exact outriderref01_Long.mono _ _ _
   | exact outriderref01_below.mono _ _ _
   | exact outriderref01_logic.mono _ _ _ _
   | exact outriderref01_moved.mono _ _ _ _
   | exact outriderref01_mul.mono _ _ _
   | exact LeO.none _
   | refine LeO.ite ?_ ?_
   | refine LeO.bind ?_ (fun _ => ?_)
theorem outriderref01_Two.mono : ∀ a0 a1 a2 k, LeO (outriderref01_Two.f k a0 a1 a2) (outriderref01_Two.f (k + 1) a0 a1 a2) := by
 intro a0 a1 a2 k; obtain ⟨ih0, ih1, ih2⟩ := outriderref01_Two.mono_l k; unfold outriderref01_Two.f
 repeat' first
   | (with_reducible exact ih0 _ _ _ _ _)
   | (with_reducible exact ih1 _ _ _ _ _)
   | (with_reducible exact ih2 _ _ _ _ _)
   | (with_reducible exact outriderref01_Long.mono _ _ _)
   | (with_reducible exact outriderref01_below.mono _ _ _)
   | (with_reducible exact outriderref01_logic.mono _ _ _ _)
   | (with_reducible exact outriderref01_moved.mono _ _ _ _)
   | (with_reducible exact outriderref01_mul.mono _ _ _)
   | (with_reducible exact LeO.refl _)
   | (with_reducible exact LeO.none _)
   | (with_reducible refine LeO.ite ?_ ?_)
   | (with_reducible refine LeO.bind ?_ (fun _ => ?_))
   | exact ih0 _ _ _ _ _
   | exact ih1 _ _ _ _ _
   | exact ih2 _ _ _ _ _
   | exact outriderref01_Long.mono _ _ _
   | exact outriderref01_below.mono _ _ _
   | exact outriderref01_logic.mono _ _ _ _
   | exact outriderref01_moved.mono _ _ _ _
   | exact outriderref01_mul.mono _ _ _
   | exact LeO.none _
   | refine LeO.ite ?_ ?_
   | refine LeO.bind ?_ (fun _ => ?_)
set_option maxHeartbeats 8000000 in
set_option maxRecDepth 100000 in
theorem outriderref01_Two.calls (k : Nat) (a0 : Int) (a1 : Int) (a2 : Int) (r1 : Int) (r2 : Bool) (w : World) (h : outriderref01_Two.f k a0 a1 a2 = some (r1, r2)) :
  Calls Try.prog 99 #[.int .i64 a0, .int .i64 a1, .int .i64 a2] w fun e w' => e = .returned (.tuple #[.int .i64 r1, .bool r2]) ∧ Drawn0 w w' := by
 have H : (if a0 = 1 then ((outriderref01_add.f a1 a2).bind fun t123 => (some (t123, true))) else (if a0 = 2 then ((outriderref01_neg.f a2).bind fun t124 => ((outriderref01_add.f a1 t124).bind fun t125 => (some (t125, true)))) else (if a0 = 3 then ((outriderref01_mul.f k a1 a2).bind fun t126 => (some (t126, true))) else (if a0 = 4 then (outriderref01_Two.j0 k a0 a1 a2 a0 (a0 == 4)) else (outriderref01_Two.j0 k a0 a1 a2 a0 (a0 == 5)))))) = some (r1, r2) := h
 clear h; by_cases c4 : a0 = 1
 ·rw [if_pos c4] at H
  have c4b0 : (a0 == 1) = true := beq_iff_eq.mpr c4
  have c4b1 : (a0 != 1) = false := bne_eq_false_iff_eq.mpr c4
  clear c4; replace H := Option.bind_eq_some_iff.mp H; obtain ⟨t123, A50, H⟩ := H; replace H : (some (t123, true)) = some (r1, r2) := H
  have A5 := Aside0.mk A50; clear A50; simp only [Option.some.injEq, Prod.mk.injEq] at H
  obtain ⟨rfl, rfl⟩ := H; go_enter Try.func99, Try.ntmps99
  go_wp2_with (first | ((with_reducible refine gate_callee (f := 109) rfl ?_); refine goesL_ (some 15) rfl rfl Try.func109 (by kernel_rfl) rfl #[.int .i64 a1, .int .i64 a2] rfl (by (try simp only [List.map_toArray, List.map_cons, List.map_nil]); first | done | rfl | (simp only [List.length_drop, List.length_take]; rfl)) ?_; (with_reducible refine (outriderref01_add.calls a1 a2 t123 _ A5.out).mono ?_); rintro e w' ⟨rfl, ⟨nd, rfl⟩⟩; refine ⟨_, rfl, ?_⟩))
  go_ret2
  exact ⟨by first | rfl | (simp; done) | (simp [*]; done), by repeat (first | exact Drawn0.refl _ | apply Drawn0.step)⟩
 ·rw [if_neg c4] at H
  have c4b0 : (a0 == 1) = false := beq_eq_false_iff_ne.mpr c4
  have c4b1 : (a0 != 1) = true := bne_iff_ne.mpr c4
  by_cases c6 : a0 = 2
  ·rw [if_pos c6] at H
   have c6b0 : (a0 == 2) = true := beq_iff_eq.mpr c6
   have c6b1 : (a0 != 2) = false := bne_eq_false_iff_eq.mpr c6
   clear c6; replace H := Option.bind_eq_some_iff.mp H; obtain ⟨t124, A70, H⟩ := H; replace H : ((outriderref01_add.f a1 t124).bind fun t125 => (some (t125, true))) = some (r1, r2) := H
   have A7 := Aside0.mk A70; clear A70; replace H := Option.bind_eq_some_iff.mp H; obtain ⟨t125, A80, H⟩ := H; replace H : (some (t125, true)) = some (r1, r2) := H
   have A8 := Aside0.mk A80; clear A80; simp only [Option.some.injEq, Prod.mk.injEq] at H
   obtain ⟨rfl, rfl⟩ := H; go_enter Try.func99, Try.ntmps99
   go_wp2_with (first | ((with_reducible refine gate_callee (f := 106) rfl ?_); refine goesL_ (some 20) rfl rfl Try.func106 (by kernel_rfl) rfl #[.int .i64 a2] rfl (by (try simp only [List.map_toArray, List.map_cons, List.map_nil]); first | done | rfl | (simp only [List.length_drop, List.length_take]; rfl)) ?_; (with_reducible refine (outriderref01_neg.calls a2 t124 _ A7.out).mono ?_); rintro e w' ⟨rfl, ⟨nd, rfl⟩⟩; refine ⟨_, rfl, ?_⟩) | ((with_reducible refine gate_callee (f := 109) rfl ?_); refine goesL_ (some 21) rfl rfl Try.func109 (by kernel_rfl) rfl #[.int .i64 a1, .int .i64 t124] rfl (by (try simp only [List.map_toArray, List.map_cons, List.map_nil]); first | done | rfl | (simp only [List.length_drop, List.length_take]; rfl)) ?_; (with_reducible refine (outriderref01_add.calls a1 t124 t125 _ A8.out).mono ?_); rintro e w' ⟨rfl, ⟨nd, rfl⟩⟩; refine ⟨_, rfl, ?_⟩))
   go_ret2
   exact ⟨by first | rfl | (simp; done) | (simp [*]; done), by repeat (first | exact Drawn0.refl _ | apply Drawn0.step)⟩
  ·rw [if_neg c6] at H
   have c6b0 : (a0 == 2) = false := beq_eq_false_iff_ne.mpr c6
   have c6b1 : (a0 != 2) = true := bne_iff_ne.mpr c6
   by_cases c9 : a0 = 3
   ·rw [if_pos c9] at H
    have c9b0 : (a0 == 3) = true := beq_iff_eq.mpr c9
    have c9b1 : (a0 != 3) = false := bne_eq_false_iff_eq.mpr c9
    clear c9; replace H := Option.bind_eq_some_iff.mp H; obtain ⟨t126, A100, H⟩ := H; replace H : (some (t126, true)) = some (r1, r2) := H
    have A10 := Aside0.mk A100; clear A100; simp only [Option.some.injEq, Prod.mk.injEq] at H
    obtain ⟨rfl, rfl⟩ := H; go_enter Try.func99, Try.ntmps99
    go_wp2_with (first | ((with_reducible refine gate_callee (f := 110) rfl ?_); refine goesL_ (some 26) rfl rfl Try.func110 (by kernel_rfl) rfl #[.int .i64 a1, .int .i64 a2] rfl (by (try simp only [List.map_toArray, List.map_cons, List.map_nil]); first | done | rfl | (simp only [List.length_drop, List.length_take]; rfl)) ?_; (with_reducible refine (outriderref01_mul.calls k a1 a2 t126 _ A10.out).mono ?_); rintro e w' ⟨rfl, ⟨nd, rfl⟩⟩; refine ⟨_, rfl, ?_⟩))
    go_ret2
    exact ⟨by first | rfl | (simp; done) | (simp [*]; done), by repeat (first | exact Drawn0.refl _ | apply Drawn0.step)⟩
   ·rw [if_neg c9] at H
    have c9b0 : (a0 == 3) = false := beq_eq_false_iff_ne.mpr c9
    have c9b1 : (a0 != 3) = true := bne_iff_ne.mpr c9
    have HC11 := Aside0.mk H; clear H; go_enter Try.func99, Try.ntmps99
    go_upto_if 27 with (fail)
    go_cut [27] (fun v27 wc => ∃ (kq : Nat) (x27_10 : Bool), v27 = .bool x27_10 ∧ Aside0 (outriderref01_Two.j0 kq a0 a1 a2 a0 x27_10 = some (r1, r2)) ∧ Aside0 (kq ≤ k) ∧ Drawn0 w wc)
    case first =>
     have H := HC11.out; clear HC11; by_cases c12 : a0 = 4
     ·rw [if_pos c12] at H
      have c12b0 : (a0 == 4) = true := beq_iff_eq.mpr c12
      have c12b1 : (a0 != 4) = false := bne_eq_false_iff_eq.mpr c12
      clear c12; (first | rw [c12b0] | (simp only [i64_w, i32_w]; rw [c12b0]) | skip)
      have H' := Aside0.mk H; clear H; go_wp2; go_meet
      case rel => exact ⟨_, ((a0 == 4)), (by first | rfl | (simp; done) | (simp [*]; done)), H', ⟨by first | omega | exact Nat.le_refl _⟩, by repeat (first | exact Drawn0.refl _ | apply Drawn0.step)⟩
     ·rw [if_neg c12] at H
      have c12b0 : (a0 == 4) = false := beq_eq_false_iff_ne.mpr c12
      have c12b1 : (a0 != 4) = true := bne_iff_ne.mpr c12
      (first | rw [c12b0] | (simp only [i64_w, i32_w]; rw [c12b0]) | skip)
      have H' := Aside0.mk H; clear H; go_wp2; go_meet
      case rel => exact ⟨_, ((a0 == 5)), (by first | rfl | (simp; done) | (simp [*]; done)), H', ⟨by first | omega | exact Nat.le_refl _⟩, by repeat (first | exact Drawn0.refl _ | apply Drawn0.step)⟩
    case rest =>
     clear HC11; try clear c1
     try clear p2
     try clear c4
     try clear c4b0
     try clear c4b1
     try clear c6
     try clear c6b0
     try clear c6b1
     try clear c9
     try clear c9b0
     try clear c9b1
     try clear c10
     try clear c11
     try clear c12
     try clear c12b0
     try clear c12b1
     obtain ⟨kq, x27_10, rfl, HA, HJ10, ⟨mc10, rfl⟩⟩ := hcut
     cases kq with
     | zero => exact absurd HA.out (by simp [outriderref01_Two.j0])
     | succ kj10 =>
      have H := HA.out; clear HA; simp only [outriderref01_Two.j0] at H
      by_cases c13 : x27_10 = true
      ·subst c13
       have H1 : (if a2 = 0 then (some (0, false)) else ((outriderref01_size.f a1).bind fun t127 => ((outriderref01_size.f a2).bind fun t128 => ((outriderref01_Long.f kj10 t127 t128).bind fun bt129 => (if a0 = 4 then ((outriderref01_signed.f bt129.1 ((decide (a1 < 0)) != (decide (a2 < 0)))).bind fun t131 => (some (t131, true))) else ((outriderref01_signed.f bt129.2 (decide (a1 < 0))).bind fun t132 => (some (t132, true)))))))) = some (r1, r2) := by rw [if_pos rfl] at H; exact H
       clear H; have H := H1; clear H1; by_cases c14 : a2 = 0
       ·rw [if_pos c14] at H
        have c14b0 : (a2 == 0) = true := beq_iff_eq.mpr c14
        have c14b1 : (a2 != 0) = false := bne_eq_false_iff_eq.mpr c14
        clear c14; simp only [Option.some.injEq, Prod.mk.injEq] at H
        obtain ⟨rfl, rfl⟩ := H; go_wp2; go_ret2
        exact ⟨by first | rfl | (simp; done) | (simp [*]; done), by repeat (first | exact Drawn0.refl _ | apply Drawn0.step)⟩
       ·rw [if_neg c14] at H
        have c14b0 : (a2 == 0) = false := beq_eq_false_iff_ne.mpr c14
        have c14b1 : (a2 != 0) = true := bne_iff_ne.mpr c14
        replace H := Option.bind_eq_some_iff.mp H; obtain ⟨t127, A150, H⟩ := H; replace H : ((outriderref01_size.f a2).bind fun t128 => ((outriderref01_Long.f kj10 t127 t128).bind fun bt129 => (if a0 = 4 then ((outriderref01_signed.f bt129.1 ((decide (a1 < 0)) != (decide (a2 < 0)))).bind fun t131 => (some (t131, true))) else ((outriderref01_signed.f bt129.2 (decide (a1 < 0))).bind fun t132 => (some (t132, true)))))) = some (r1, r2) := H
        have A15 := Aside0.mk A150; clear A150; replace H := Option.bind_eq_some_iff.mp H; obtain ⟨t128, A160, H⟩ := H; replace H : ((outriderref01_Long.f kj10 t127 t128).bind fun bt129 => (if a0 = 4 then ((outriderref01_signed.f bt129.1 ((decide (a1 < 0)) != (decide (a2 < 0)))).bind fun t131 => (some (t131, true))) else ((outriderref01_signed.f bt129.2 (decide (a1 < 0))).bind fun t132 => (some (t132, true))))) = some (r1, r2) := H
        have A16 := Aside0.mk A160; clear A160; replace H := Option.bind_eq_some_iff.mp H; obtain ⟨⟨t129, t130⟩, A170, H⟩ := H; replace H : (if a0 = 4 then ((outriderref01_signed.f t129 ((decide (a1 < 0)) != (decide (a2 < 0)))).bind fun t131 => (some (t131, true))) else ((outriderref01_signed.f t130 (decide (a1 < 0))).bind fun t132 => (some (t132, true)))) = some (r1, r2) := H
        have A17 := Aside0.mk A170; clear A170; by_cases c18 : a0 = 4
        ·rw [if_pos c18] at H
         have c18b0 : (a0 == 4) = true := beq_iff_eq.mpr c18
         have c18b1 : (a0 != 4) = false := bne_eq_false_iff_eq.mpr c18
         clear c18; replace H := Option.bind_eq_some_iff.mp H; obtain ⟨t131, A190, H⟩ := H; replace H : (some (t131, true)) = some (r1, r2) := H
         have A19 := Aside0.mk A190; clear A190; simp only [Option.some.injEq, Prod.mk.injEq] at H
         obtain ⟨rfl, rfl⟩ := H; go_wp2_with (first | ((with_reducible refine gate_callee (f := 112) rfl ?_); refine goesL_ (some 34) rfl rfl Try.func112 (by kernel_rfl) rfl #[.int .i64 a1] rfl (by (try simp only [List.map_toArray, List.map_cons, List.map_nil]); first | done | rfl | (simp only [List.length_drop, List.length_take]; rfl)) ?_; (with_reducible refine (outriderref01_size.calls a1 t127 _ A15.out).mono ?_); rintro e w' ⟨rfl, ⟨nd, rfl⟩⟩; refine ⟨_, rfl, ?_⟩) | ((with_reducible refine gate_callee (f := 112) rfl ?_); refine goesL_ (some 36) rfl rfl Try.func112 (by kernel_rfl) rfl #[.int .i64 a2] rfl (by (try simp only [List.map_toArray, List.map_cons, List.map_nil]); first | done | rfl | (simp only [List.length_drop, List.length_take]; rfl)) ?_; (with_reducible refine (outriderref01_size.calls a2 t128 _ A16.out).mono ?_); rintro e w' ⟨rfl, ⟨nd, rfl⟩⟩; refine ⟨_, rfl, ?_⟩) | ((with_reducible refine gate_callee (f := 111) rfl ?_); refine goesL_ (some 37) rfl rfl Try.func111 (by kernel_rfl) rfl #[.int .u64 t127, .int .u64 t128] rfl (by (try simp only [List.map_toArray, List.map_cons, List.map_nil]); first | done | rfl | (simp only [List.length_drop, List.length_take]; rfl)) ?_; (with_reducible refine (outriderref01_Long.calls kj10 t127 t128 t129 t130 _ A17.out).mono ?_); rintro e w' ⟨rfl, ⟨nd, rfl⟩⟩; refine ⟨_, rfl, ?_⟩) | ((with_reducible refine gate_callee (f := 113) rfl ?_); refine goesL_ (some 48) rfl rfl Try.func113 (by kernel_rfl) rfl #[.int .u64 t129, .bool ((decide (a1 < 0)) != (decide (a2 < 0)))] rfl (by (try simp only [List.map_toArray, List.map_cons, List.map_nil]); first | done | rfl | (simp only [List.length_drop, List.length_take]; rfl)) ?_; (with_reducible refine (outriderref01_signed.calls t129 ((decide (a1 < 0)) != (decide (a2 < 0))) t131 _ A19.out).mono ?_); rintro e w' ⟨rfl, ⟨nd, rfl⟩⟩; refine ⟨_, rfl, ?_⟩))
         go_ret2
         exact ⟨by first | rfl | (simp; done) | (simp [*]; done), by repeat (first | exact Drawn0.refl _ | apply Drawn0.step)⟩
        ·rw [if_neg c18] at H
         have c18b0 : (a0 == 4) = false := beq_eq_false_iff_ne.mpr c18
         have c18b1 : (a0 != 4) = true := bne_iff_ne.mpr c18
         replace H := Option.bind_eq_some_iff.mp H; obtain ⟨t132, A200, H⟩ := H; replace H : (some (t132, true)) = some (r1, r2) := H
         have A20 := Aside0.mk A200; clear A200; simp only [Option.some.injEq, Prod.mk.injEq] at H
         obtain ⟨rfl, rfl⟩ := H; go_wp2_with (first | ((with_reducible refine gate_callee (f := 112) rfl ?_); refine goesL_ (some 34) rfl rfl Try.func112 (by kernel_rfl) rfl #[.int .i64 a1] rfl (by (try simp only [List.map_toArray, List.map_cons, List.map_nil]); first | done | rfl | (simp only [List.length_drop, List.length_take]; rfl)) ?_; (with_reducible refine (outriderref01_size.calls a1 t127 _ A15.out).mono ?_); rintro e w' ⟨rfl, ⟨nd, rfl⟩⟩; refine ⟨_, rfl, ?_⟩) | ((with_reducible refine gate_callee (f := 112) rfl ?_); refine goesL_ (some 36) rfl rfl Try.func112 (by kernel_rfl) rfl #[.int .i64 a2] rfl (by (try simp only [List.map_toArray, List.map_cons, List.map_nil]); first | done | rfl | (simp only [List.length_drop, List.length_take]; rfl)) ?_; (with_reducible refine (outriderref01_size.calls a2 t128 _ A16.out).mono ?_); rintro e w' ⟨rfl, ⟨nd, rfl⟩⟩; refine ⟨_, rfl, ?_⟩) | ((with_reducible refine gate_callee (f := 111) rfl ?_); refine goesL_ (some 37) rfl rfl Try.func111 (by kernel_rfl) rfl #[.int .u64 t127, .int .u64 t128] rfl (by (try simp only [List.map_toArray, List.map_cons, List.map_nil]); first | done | rfl | (simp only [List.length_drop, List.length_take]; rfl)) ?_; (with_reducible refine (outriderref01_Long.calls kj10 t127 t128 t129 t130 _ A17.out).mono ?_); rintro e w' ⟨rfl, ⟨nd, rfl⟩⟩; refine ⟨_, rfl, ?_⟩) | ((with_reducible refine gate_callee (f := 113) rfl ?_); refine goesL_ (some 52) rfl rfl Try.func113 (by kernel_rfl) rfl #[.int .u64 t130, .bool (decide (a1 < 0))] rfl (by (try simp only [List.map_toArray, List.map_cons, List.map_nil]); first | done | rfl | (simp only [List.length_drop, List.length_take]; rfl)) ?_; (with_reducible refine (outriderref01_signed.calls t130 (decide (a1 < 0)) t132 _ A20.out).mono ?_); rintro e w' ⟨rfl, ⟨nd, rfl⟩⟩; refine ⟨_, rfl, ?_⟩))
         go_ret2
         exact ⟨by first | rfl | (simp; done) | (simp [*]; done), by repeat (first | exact Drawn0.refl _ | apply Drawn0.step)⟩
      ·replace c13 := Bool.eq_false_iff.mpr c13
       subst c13; have H1 : (if a0 = 6 then (outriderref01_Two.j1 kj10 a0 a1 a2 a0 (a0 == 6)) else (if a0 = 7 then (outriderref01_Two.j1 kj10 a0 a1 a2 a0 (a0 == 7)) else (outriderref01_Two.j1 kj10 a0 a1 a2 a0 (a0 == 8)))) = some (r1, r2) := by rw [if_neg (show ¬ (false = true) by decide)] at H; exact H
       clear H; have H := H1; clear H1; have HC21 := Aside0.mk H; clear H; go_upto_if 53 with (fail)
       go_cut [53] (fun v53 wc => ∃ (kq : Nat) (x53_20 : Bool), v53 = .bool x53_20 ∧ Aside0 (outriderref01_Two.j1 kq a0 a1 a2 a0 x53_20 = some (r1, r2)) ∧ Aside0 (kq ≤ kj10) ∧ Drawn0 w wc)
       case first =>
        have H := HC21.out; clear HC21; by_cases c22 : a0 = 6
        ·rw [if_pos c22] at H
         have c22b0 : (a0 == 6) = true := beq_iff_eq.mpr c22
         have c22b1 : (a0 != 6) = false := bne_eq_false_iff_eq.mpr c22
         clear c22; (first | rw [c22b0] | (simp only [i64_w, i32_w]; rw [c22b0]) | skip)
         have H' := Aside0.mk H; clear H; go_wp2; go_meet
         case rel => exact ⟨_, ((a0 == 6)), (by first | rfl | (simp; done) | (simp [*]; done)), H', ⟨by have := HJ10.out; first | omega | exact Nat.le_refl _⟩, by repeat (first | exact Drawn0.refl _ | apply Drawn0.step)⟩
        ·rw [if_neg c22] at H
         have c22b0 : (a0 == 6) = false := beq_eq_false_iff_ne.mpr c22
         have c22b1 : (a0 != 6) = true := bne_iff_ne.mpr c22
         (first | rw [c22b0] | (simp only [i64_w, i32_w]; rw [c22b0]) | skip)
         by_cases c23 : a0 = 7
         ·rw [if_pos c23] at H
          have c23b0 : (a0 == 7) = true := beq_iff_eq.mpr c23
          have c23b1 : (a0 != 7) = false := bne_eq_false_iff_eq.mpr c23
          clear c23; have H' := Aside0.mk H; clear H; go_wp2; go_meet
          case rel => exact ⟨_, ((a0 == 7)), (by first | rfl | (simp; done) | (simp [*]; done)), H', ⟨by have := HJ10.out; first | omega | exact Nat.le_refl _⟩, by repeat (first | exact Drawn0.refl _ | apply Drawn0.step)⟩
         ·rw [if_neg c23] at H
          have c23b0 : (a0 == 7) = false := beq_eq_false_iff_ne.mpr c23
          have c23b1 : (a0 != 7) = true := bne_iff_ne.mpr c23
          have H' := Aside0.mk H; clear H; go_wp2; go_meet
          case rel => exact ⟨_, ((a0 == 8)), (by first | rfl | (simp; done) | (simp [*]; done)), H', ⟨by have := HJ10.out; first | omega | exact Nat.le_refl _⟩, by repeat (first | exact Drawn0.refl _ | apply Drawn0.step)⟩
       case rest =>
        clear HC21; try clear c1
        try clear c2
        try clear p2
        try clear c4
        try clear c4b0
        try clear c4b1
        try clear c6
        try clear c6b0
        try clear c6b1
        try clear c9
        try clear c9b0
        try clear c9b1
        try clear c10
        try clear c11
        try clear c12
        try clear c12b0
        try clear c12b1
        try clear c13
        try clear c14
        try clear c14b0
        try clear c14b1
        try clear c18
        try clear c18b0
        try clear c18b1
        try clear c22
        try clear c22b0
        try clear c22b1
        try clear c23
        try clear c23b0
        try clear c23b1
        try clear p2
        obtain ⟨kq, x53_20, rfl, HA, HJ20, ⟨mc20, rfl⟩⟩ := hcut
        cases kq with
        | zero => exact absurd HA.out (by simp [outriderref01_Two.j1])
        | succ kj20 =>
         have H := HA.out; clear HA; simp only [outriderref01_Two.j1] at H
         by_cases c24 : x53_20 = true
         ·subst c24
          have H1 : ((outriderref01_logic.f kj20 a0 a1 a2).bind fun t133 => (some (t133, true))) = some (r1, r2) := by rw [if_pos rfl] at H; exact H
          clear H; have H := H1; clear H1; replace H := Option.bind_eq_some_iff.mp H; obtain ⟨t133, A250, H⟩ := H; replace H : (some (t133, true)) = some (r1, r2) := H
          have A25 := Aside0.mk A250; clear A250; simp only [Option.some.injEq, Prod.mk.injEq] at H
          obtain ⟨rfl, rfl⟩ := H; go_wp2_with (first | ((with_reducible refine gate_callee (f := 114) rfl ?_); refine goesL_ (some 60) rfl rfl Try.func114 (by kernel_rfl) rfl #[.int .i64 a0, .int .i64 a1, .int .i64 a2] rfl (by (try simp only [List.map_toArray, List.map_cons, List.map_nil]); first | done | rfl | (simp only [List.length_drop, List.length_take]; rfl)) ?_; (with_reducible refine (outriderref01_logic.calls kj20 a0 a1 a2 t133 _ A25.out).mono ?_); rintro e w' ⟨rfl, ⟨nd, rfl⟩⟩; refine ⟨_, rfl, ?_⟩))
          go_ret2
          exact ⟨by first | rfl | (simp; done) | (simp [*]; done), by repeat (first | exact Drawn0.refl _ | apply Drawn0.step)⟩
         ·replace c24 := Bool.eq_false_iff.mpr c24
          subst c24; have H1 : (if a0 = 9 then (outriderref01_Two.j2 kj20 a0 a1 a2 a0 (a0 == 9)) else (outriderref01_Two.j2 kj20 a0 a1 a2 a0 (a0 == 10))) = some (r1, r2) := by rw [if_neg (show ¬ (false = true) by decide)] at H; exact H
          clear H; have H := H1; clear H1; have HC26 := Aside0.mk H; clear H; go_upto_if 61 with (fail)
          go_cut [61] (fun v61 wc => ∃ (kq : Nat) (x61_25 : Bool), v61 = .bool x61_25 ∧ Aside0 (outriderref01_Two.j2 kq a0 a1 a2 a0 x61_25 = some (r1, r2)) ∧ Aside0 (kq ≤ kj20) ∧ Drawn0 w wc)
          case first =>
           have H := HC26.out; clear HC26; by_cases c27 : a0 = 9
           ·rw [if_pos c27] at H
            have c27b0 : (a0 == 9) = true := beq_iff_eq.mpr c27
            have c27b1 : (a0 != 9) = false := bne_eq_false_iff_eq.mpr c27
            clear c27; (first | rw [c27b0] | (simp only [i64_w, i32_w]; rw [c27b0]) | skip)
            have H' := Aside0.mk H; clear H; go_wp2; go_meet
            case rel => exact ⟨_, ((a0 == 9)), (by first | rfl | (simp; done) | (simp [*]; done)), H', ⟨by have := HJ10.out; have := HJ20.out; first | omega | exact Nat.le_refl _⟩, by repeat (first | exact Drawn0.refl _ | apply Drawn0.step)⟩
           ·rw [if_neg c27] at H
            have c27b0 : (a0 == 9) = false := beq_eq_false_iff_ne.mpr c27
            have c27b1 : (a0 != 9) = true := bne_iff_ne.mpr c27
            (first | rw [c27b0] | (simp only [i64_w, i32_w]; rw [c27b0]) | skip)
            have H' := Aside0.mk H; clear H; go_wp2; go_meet
            case rel => exact ⟨_, ((a0 == 10)), (by first | rfl | (simp; done) | (simp [*]; done)), H', ⟨by have := HJ10.out; have := HJ20.out; first | omega | exact Nat.le_refl _⟩, by repeat (first | exact Drawn0.refl _ | apply Drawn0.step)⟩
          case rest =>
           clear HC26; try clear c1
           try clear c2
           try clear p2
           try clear c4
           try clear c4b0
           try clear c4b1
           try clear c6
           try clear c6b0
           try clear c6b1
           try clear c9
           try clear c9b0
           try clear c9b1
           try clear c10
           try clear c11
           try clear c12
           try clear c12b0
           try clear c12b1
           try clear c13
           try clear c14
           try clear c14b0
           try clear c14b1
           try clear c18
           try clear c18b0
           try clear c18b1
           try clear c20
           try clear c22
           try clear c22b0
           try clear c22b1
           try clear c23
           try clear c23b0
           try clear c23b1
           try clear c24
           try clear c27
           try clear c27b0
           try clear c27b1
           try clear p2
           obtain ⟨kq, x61_25, rfl, HA, HJ25, ⟨mc25, rfl⟩⟩ := hcut
           cases kq with
           | zero => exact absurd HA.out (by simp [outriderref01_Two.j2])
           | succ kj25 =>
            have H := HA.out; clear HA; simp only [outriderref01_Two.j2] at H
            by_cases c28 : x61_25 = true
            ·subst c28
             have H1 : ((outriderref01_moved.f kj25 a0 a1 a2).bind fun t134 => (some (t134, true))) = some (r1, r2) := by rw [if_pos rfl] at H; exact H
             clear H; have H := H1; clear H1; replace H := Option.bind_eq_some_iff.mp H; obtain ⟨t134, A290, H⟩ := H; replace H : (some (t134, true)) = some (r1, r2) := H
             have A29 := Aside0.mk A290; clear A290; simp only [Option.some.injEq, Prod.mk.injEq] at H
             obtain ⟨rfl, rfl⟩ := H; go_wp2_with (first | ((with_reducible refine gate_callee (f := 115) rfl ?_); refine goesL_ (some 67) rfl rfl Try.func115 (by kernel_rfl) rfl #[.int .i64 a0, .int .i64 a1, .int .i64 a2] rfl (by (try simp only [List.map_toArray, List.map_cons, List.map_nil]); first | done | rfl | (simp only [List.length_drop, List.length_take]; rfl)) ?_; (with_reducible refine (outriderref01_moved.calls kj25 a0 a1 a2 t134 _ A29.out).mono ?_); rintro e w' ⟨rfl, ⟨nd, rfl⟩⟩; refine ⟨_, rfl, ?_⟩))
             go_ret2
             exact ⟨by first | rfl | (simp; done) | (simp [*]; done), by repeat (first | exact Drawn0.refl _ | apply Drawn0.step)⟩
            ·replace c28 := Bool.eq_false_iff.mpr c28
             subst c28; have H1 : (if a0 = 11 then ((outriderref01_below.f kj25 a1 a2).bind fun t135 => (if t135 = true then ((outriderref01_truth.f false).bind fun t136 => (some (t136, true))) else ((outriderref01_below.f kj25 a2 a1).bind fun t137 => ((outriderref01_truth.f (!t137)).bind fun t138 => (some (t138, true)))))) else (if a0 = 12 then ((outriderref01_below.f kj25 a1 a2).bind fun t139 => (if t139 = true then ((outriderref01_truth.f true).bind fun t140 => (some (t140, true))) else ((outriderref01_below.f kj25 a2 a1).bind fun t141 => ((outriderref01_truth.f t141).bind fun t142 => (some (t142, true)))))) else (if a0 = 13 then ((outriderref01_below.f kj25 a1 a2).bind fun t143 => ((outriderref01_truth.f t143).bind fun t144 => (some (t144, true)))) else (if a0 = 14 then ((outriderref01_below.f kj25 a2 a1).bind fun t145 => ((outriderref01_truth.f (!t145)).bind fun t146 => (some (t146, true)))) else (if a0 = 15 then ((outriderref01_below.f kj25 a2 a1).bind fun t147 => ((outriderref01_truth.f t147).bind fun t148 => (some (t148, true)))) else (if a0 = 16 then ((outriderref01_below.f kj25 a1 a2).bind fun t149 => ((outriderref01_truth.f (!t149)).bind fun t150 => (some (t150, true)))) else (if a0 = 17 then ((outriderref01_below.f kj25 a2 a1).bind fun t151 => (if t151 = true then (some (a2, true)) else (some (a1, true)))) else (if a0 = 18 then ((outriderref01_below.f kj25 a1 a2).bind fun t152 => (if t152 = true then (some (a2, true)) else (some (a1, true)))) else (some (0, false)))))))))) = some (r1, r2) := by rw [if_neg (show ¬ (false = true) by decide)] at H; exact H
             clear H; have H := H1; clear H1; by_cases c30 : a0 = 11
             ·rw [if_pos c30] at H
              have c30b0 : (a0 == 11) = true := beq_iff_eq.mpr c30
              have c30b1 : (a0 != 11) = false := bne_eq_false_iff_eq.mpr c30
              clear c30; replace H := Option.bind_eq_some_iff.mp H; obtain ⟨t135, A310, H⟩ := H; replace H : (if t135 = true then ((outriderref01_truth.f false).bind fun t136 => (some (t136, true))) else ((outriderref01_below.f kj25 a2 a1).bind fun t137 => ((outriderref01_truth.f (!t137)).bind fun t138 => (some (t138, true))))) = some (r1, r2) := H
              have A31 := Aside0.mk A310; clear A310; by_cases c32 : t135 = true
              ·subst c32
               have H1 : ((outriderref01_truth.f false).bind fun t136 => (some (t136, true))) = some (r1, r2) := by rw [if_pos rfl] at H; exact H
               clear H; have H := H1; clear H1; replace H := Option.bind_eq_some_iff.mp H; obtain ⟨t136, A330, H⟩ := H; replace H : (some (t136, true)) = some (r1, r2) := H
               have A33 := Aside0.mk A330; clear A330; simp only [Option.some.injEq, Prod.mk.injEq] at H
               obtain ⟨rfl, rfl⟩ := H; go_wp2_with (first | ((with_reducible refine gate_callee (f := 116) rfl ?_); refine goesL_ (some 72) rfl rfl Try.func116 (by kernel_rfl) rfl #[.int .i64 a1, .int .i64 a2] rfl (by (try simp only [List.map_toArray, List.map_cons, List.map_nil]); first | done | rfl | (simp only [List.length_drop, List.length_take]; rfl)) ?_; (with_reducible refine (outriderref01_below.calls kj25 a1 a2 true _ A31.out).mono ?_); rintro e w' ⟨rfl, ⟨nd, rfl⟩⟩; refine ⟨_, rfl, ?_⟩) | ((with_reducible refine gate_callee (f := 108) rfl ?_); refine goesL_ (some 80) rfl rfl Try.func108 (by kernel_rfl) rfl #[.bool false] rfl (by (try simp only [List.map_toArray, List.map_cons, List.map_nil]); first | done | rfl | (simp only [List.length_drop, List.length_take]; rfl)) ?_; (with_reducible refine (outriderref01_truth.calls false t136 _ A33.out).mono ?_); rintro e w' ⟨rfl, ⟨nd, rfl⟩⟩; refine ⟨_, rfl, ?_⟩))
               go_ret2
               exact ⟨by first | rfl | (simp; done) | (simp [*]; done), by repeat (first | exact Drawn0.refl _ | apply Drawn0.step)⟩
              ·replace c32 := Bool.eq_false_iff.mpr c32
               subst c32; have H1 : ((outriderref01_below.f kj25 a2 a1).bind fun t137 => ((outriderref01_truth.f (!t137)).bind fun t138 => (some (t138, true)))) = some (r1, r2) := by rw [if_neg (show ¬ (false = true) by decide)] at H; exact H
               clear H; have H := H1; clear H1; replace H := Option.bind_eq_some_iff.mp H; obtain ⟨t137, A340, H⟩ := H; replace H : ((outriderref01_truth.f (!t137)).bind fun t138 => (some (t138, true))) = some (r1, r2) := H
               have A34 := Aside0.mk A340; clear A340; replace H := Option.bind_eq_some_iff.mp H; obtain ⟨t138, A350, H⟩ := H; replace H : (some (t138, true)) = some (r1, r2) := H
               have A35 := Aside0.mk A350; clear A350; simp only [Option.some.injEq, Prod.mk.injEq] at H
               obtain ⟨rfl, rfl⟩ := H; go_wp2_with (first | ((with_reducible refine gate_callee (f := 116) rfl ?_); refine goesL_ (some 72) rfl rfl Try.func116 (by kernel_rfl) rfl #[.int .i64 a1, .int .i64 a2] rfl (by (try simp only [List.map_toArray, List.map_cons, List.map_nil]); first | done | rfl | (simp only [List.length_drop, List.length_take]; rfl)) ?_; (with_reducible refine (outriderref01_below.calls kj25 a1 a2 false _ A31.out).mono ?_); rintro e w' ⟨rfl, ⟨nd, rfl⟩⟩; refine ⟨_, rfl, ?_⟩) | (go_at_call 116; (with_reducible refine (outriderref01_below.calls kj25 a2 a1 t137 _ A34.out).mono ?_); rintro e w' ⟨rfl, ⟨nd, rfl⟩⟩) | ((with_reducible refine gate_callee (f := 108) rfl ?_); refine goesL_ (some 80) rfl rfl Try.func108 (by kernel_rfl) rfl #[.bool (!t137)] rfl (by (try simp only [List.map_toArray, List.map_cons, List.map_nil]); first | done | rfl | (simp only [List.length_drop, List.length_take]; rfl)) ?_; (with_reducible refine (outriderref01_truth.calls (!t137) t138 _ A35.out).mono ?_); rintro e w' ⟨rfl, ⟨nd, rfl⟩⟩; refine ⟨_, rfl, ?_⟩))
               go_ret2
               exact ⟨by first | rfl | (simp; done) | (simp [*]; done), by repeat (first | exact Drawn0.refl _ | apply Drawn0.step)⟩
             ·rw [if_neg c30] at H
              have c30b0 : (a0 == 11) = false := beq_eq_false_iff_ne.mpr c30
              have c30b1 : (a0 != 11) = true := bne_iff_ne.mpr c30
              by_cases c36 : a0 = 12
              ·rw [if_pos c36] at H
               have c36b0 : (a0 == 12) = true := beq_iff_eq.mpr c36
               have c36b1 : (a0 != 12) = false := bne_eq_false_iff_eq.mpr c36
               clear c36; replace H := Option.bind_eq_some_iff.mp H; obtain ⟨t139, A370, H⟩ := H; replace H : (if t139 = true then ((outriderref01_truth.f true).bind fun t140 => (some (t140, true))) else ((outriderref01_below.f kj25 a2 a1).bind fun t141 => ((outriderref01_truth.f t141).bind fun t142 => (some (t142, true))))) = some (r1, r2) := H
               have A37 := Aside0.mk A370; clear A370; by_cases c38 : t139 = true
               ·subst c38
                have H1 : ((outriderref01_truth.f true).bind fun t140 => (some (t140, true))) = some (r1, r2) := by rw [if_pos rfl] at H; exact H
                clear H; have H := H1; clear H1; replace H := Option.bind_eq_some_iff.mp H; obtain ⟨t140, A390, H⟩ := H; replace H : (some (t140, true)) = some (r1, r2) := H
                have A39 := Aside0.mk A390; clear A390; simp only [Option.some.injEq, Prod.mk.injEq] at H
                obtain ⟨rfl, rfl⟩ := H; go_wp2_with (first | ((with_reducible refine gate_callee (f := 116) rfl ?_); refine goesL_ (some 85) rfl rfl Try.func116 (by kernel_rfl) rfl #[.int .i64 a1, .int .i64 a2] rfl (by (try simp only [List.map_toArray, List.map_cons, List.map_nil]); first | done | rfl | (simp only [List.length_drop, List.length_take]; rfl)) ?_; (with_reducible refine (outriderref01_below.calls kj25 a1 a2 true _ A37.out).mono ?_); rintro e w' ⟨rfl, ⟨nd, rfl⟩⟩; refine ⟨_, rfl, ?_⟩) | ((with_reducible refine gate_callee (f := 108) rfl ?_); refine goesL_ (some 91) rfl rfl Try.func108 (by kernel_rfl) rfl #[.bool true] rfl (by (try simp only [List.map_toArray, List.map_cons, List.map_nil]); first | done | rfl | (simp only [List.length_drop, List.length_take]; rfl)) ?_; (with_reducible refine (outriderref01_truth.calls true t140 _ A39.out).mono ?_); rintro e w' ⟨rfl, ⟨nd, rfl⟩⟩; refine ⟨_, rfl, ?_⟩))
                go_ret2
                exact ⟨by first | rfl | (simp; done) | (simp [*]; done), by repeat (first | exact Drawn0.refl _ | apply Drawn0.step)⟩
               ·replace c38 := Bool.eq_false_iff.mpr c38
                subst c38; have H1 : ((outriderref01_below.f kj25 a2 a1).bind fun t141 => ((outriderref01_truth.f t141).bind fun t142 => (some (t142, true)))) = some (r1, r2) := by rw [if_neg (show ¬ (false = true) by decide)] at H; exact H
                clear H; have H := H1; clear H1; replace H := Option.bind_eq_some_iff.mp H; obtain ⟨t141, A400, H⟩ := H; replace H : ((outriderref01_truth.f t141).bind fun t142 => (some (t142, true))) = some (r1, r2) := H
                have A40 := Aside0.mk A400; clear A400; replace H := Option.bind_eq_some_iff.mp H; obtain ⟨t142, A410, H⟩ := H; replace H : (some (t142, true)) = some (r1, r2) := H
                have A41 := Aside0.mk A410; clear A410; simp only [Option.some.injEq, Prod.mk.injEq] at H
                obtain ⟨rfl, rfl⟩ := H; go_wp2_with (first | ((with_reducible refine gate_callee (f := 116) rfl ?_); refine goesL_ (some 85) rfl rfl Try.func116 (by kernel_rfl) rfl #[.int .i64 a1, .int .i64 a2] rfl (by (try simp only [List.map_toArray, List.map_cons, List.map_nil]); first | done | rfl | (simp only [List.length_drop, List.length_take]; rfl)) ?_; (with_reducible refine (outriderref01_below.calls kj25 a1 a2 false _ A37.out).mono ?_); rintro e w' ⟨rfl, ⟨nd, rfl⟩⟩; refine ⟨_, rfl, ?_⟩) | (go_at_call 116; (with_reducible refine (outriderref01_below.calls kj25 a2 a1 t141 _ A40.out).mono ?_); rintro e w' ⟨rfl, ⟨nd, rfl⟩⟩) | ((with_reducible refine gate_callee (f := 108) rfl ?_); refine goesL_ (some 91) rfl rfl Try.func108 (by kernel_rfl) rfl #[.bool t141] rfl (by (try simp only [List.map_toArray, List.map_cons, List.map_nil]); first | done | rfl | (simp only [List.length_drop, List.length_take]; rfl)) ?_; (with_reducible refine (outriderref01_truth.calls t141 t142 _ A41.out).mono ?_); rintro e w' ⟨rfl, ⟨nd, rfl⟩⟩; refine ⟨_, rfl, ?_⟩))
                go_ret2
                exact ⟨by first | rfl | (simp; done) | (simp [*]; done), by repeat (first | exact Drawn0.refl _ | apply Drawn0.step)⟩
              ·rw [if_neg c36] at H
               have c36b0 : (a0 == 12) = false := beq_eq_false_iff_ne.mpr c36
               have c36b1 : (a0 != 12) = true := bne_iff_ne.mpr c36
               by_cases c42 : a0 = 13
               ·rw [if_pos c42] at H
                have c42b0 : (a0 == 13) = true := beq_iff_eq.mpr c42
                have c42b1 : (a0 != 13) = false := bne_eq_false_iff_eq.mpr c42
                clear c42; replace H := Option.bind_eq_some_iff.mp H; obtain ⟨t143, A430, H⟩ := H; replace H : ((outriderref01_truth.f t143).bind fun t144 => (some (t144, true))) = some (r1, r2) := H
                have A43 := Aside0.mk A430; clear A430; replace H := Option.bind_eq_some_iff.mp H; obtain ⟨t144, A440, H⟩ := H; replace H : (some (t144, true)) = some (r1, r2) := H
                have A44 := Aside0.mk A440; clear A440; simp only [Option.some.injEq, Prod.mk.injEq] at H
                obtain ⟨rfl, rfl⟩ := H; go_wp2_with (first | ((with_reducible refine gate_callee (f := 116) rfl ?_); refine goesL_ (some 96) rfl rfl Try.func116 (by kernel_rfl) rfl #[.int .i64 a1, .int .i64 a2] rfl (by (try simp only [List.map_toArray, List.map_cons, List.map_nil]); first | done | rfl | (simp only [List.length_drop, List.length_take]; rfl)) ?_; (with_reducible refine (outriderref01_below.calls kj25 a1 a2 t143 _ A43.out).mono ?_); rintro e w' ⟨rfl, ⟨nd, rfl⟩⟩; refine ⟨_, rfl, ?_⟩) | ((with_reducible refine gate_callee (f := 108) rfl ?_); refine goesL_ (some 97) rfl rfl Try.func108 (by kernel_rfl) rfl #[.bool t143] rfl (by (try simp only [List.map_toArray, List.map_cons, List.map_nil]); first | done | rfl | (simp only [List.length_drop, List.length_take]; rfl)) ?_; (with_reducible refine (outriderref01_truth.calls t143 t144 _ A44.out).mono ?_); rintro e w' ⟨rfl, ⟨nd, rfl⟩⟩; refine ⟨_, rfl, ?_⟩))
                go_ret2
                exact ⟨by first | rfl | (simp; done) | (simp [*]; done), by repeat (first | exact Drawn0.refl _ | apply Drawn0.step)⟩
               ·rw [if_neg c42] at H
                have c42b0 : (a0 == 13) = false := beq_eq_false_iff_ne.mpr c42
                have c42b1 : (a0 != 13) = true := bne_iff_ne.mpr c42
                by_cases c45 : a0 = 14
                ·rw [if_pos c45] at H
                 have c45b0 : (a0 == 14) = true := beq_iff_eq.mpr c45
                 have c45b1 : (a0 != 14) = false := bne_eq_false_iff_eq.mpr c45
                 clear c45; replace H := Option.bind_eq_some_iff.mp H; obtain ⟨t145, A460, H⟩ := H; replace H : ((outriderref01_truth.f (!t145)).bind fun t146 => (some (t146, true))) = some (r1, r2) := H
                 have A46 := Aside0.mk A460; clear A460; replace H := Option.bind_eq_some_iff.mp H; obtain ⟨t146, A470, H⟩ := H; replace H : (some (t146, true)) = some (r1, r2) := H
                 have A47 := Aside0.mk A470; clear A470; simp only [Option.some.injEq, Prod.mk.injEq] at H
                 obtain ⟨rfl, rfl⟩ := H; go_wp2_with (first | ((with_reducible refine gate_callee (f := 116) rfl ?_); refine goesL_ (some 102) rfl rfl Try.func116 (by kernel_rfl) rfl #[.int .i64 a2, .int .i64 a1] rfl (by (try simp only [List.map_toArray, List.map_cons, List.map_nil]); first | done | rfl | (simp only [List.length_drop, List.length_take]; rfl)) ?_; (with_reducible refine (outriderref01_below.calls kj25 a2 a1 t145 _ A46.out).mono ?_); rintro e w' ⟨rfl, ⟨nd, rfl⟩⟩; refine ⟨_, rfl, ?_⟩) | ((with_reducible refine gate_callee (f := 108) rfl ?_); refine goesL_ (some 104) rfl rfl Try.func108 (by kernel_rfl) rfl #[.bool (!t145)] rfl (by (try simp only [List.map_toArray, List.map_cons, List.map_nil]); first | done | rfl | (simp only [List.length_drop, List.length_take]; rfl)) ?_; (with_reducible refine (outriderref01_truth.calls (!t145) t146 _ A47.out).mono ?_); rintro e w' ⟨rfl, ⟨nd, rfl⟩⟩; refine ⟨_, rfl, ?_⟩))
                 go_ret2
                 exact ⟨by first | rfl | (simp; done) | (simp [*]; done), by repeat (first | exact Drawn0.refl _ | apply Drawn0.step)⟩
                ·rw [if_neg c45] at H
                 have c45b0 : (a0 == 14) = false := beq_eq_false_iff_ne.mpr c45
                 have c45b1 : (a0 != 14) = true := bne_iff_ne.mpr c45
                 by_cases c48 : a0 = 15
                 ·rw [if_pos c48] at H
                  have c48b0 : (a0 == 15) = true := beq_iff_eq.mpr c48
                  have c48b1 : (a0 != 15) = false := bne_eq_false_iff_eq.mpr c48
                  clear c48; replace H := Option.bind_eq_some_iff.mp H; obtain ⟨t147, A490, H⟩ := H; replace H : ((outriderref01_truth.f t147).bind fun t148 => (some (t148, true))) = some (r1, r2) := H
                  have A49 := Aside0.mk A490; clear A490; replace H := Option.bind_eq_some_iff.mp H; obtain ⟨t148, A500, H⟩ := H; replace H : (some (t148, true)) = some (r1, r2) := H
                  have A50 := Aside0.mk A500; clear A500; simp only [Option.some.injEq, Prod.mk.injEq] at H
                  obtain ⟨rfl, rfl⟩ := H; go_wp2_with (first | ((with_reducible refine gate_callee (f := 116) rfl ?_); refine goesL_ (some 109) rfl rfl Try.func116 (by kernel_rfl) rfl #[.int .i64 a2, .int .i64 a1] rfl (by (try simp only [List.map_toArray, List.map_cons, List.map_nil]); first | done | rfl | (simp only [List.length_drop, List.length_take]; rfl)) ?_; (with_reducible refine (outriderref01_below.calls kj25 a2 a1 t147 _ A49.out).mono ?_); rintro e w' ⟨rfl, ⟨nd, rfl⟩⟩; refine ⟨_, rfl, ?_⟩) | ((with_reducible refine gate_callee (f := 108) rfl ?_); refine goesL_ (some 110) rfl rfl Try.func108 (by kernel_rfl) rfl #[.bool t147] rfl (by (try simp only [List.map_toArray, List.map_cons, List.map_nil]); first | done | rfl | (simp only [List.length_drop, List.length_take]; rfl)) ?_; (with_reducible refine (outriderref01_truth.calls t147 t148 _ A50.out).mono ?_); rintro e w' ⟨rfl, ⟨nd, rfl⟩⟩; refine ⟨_, rfl, ?_⟩))
                  go_ret2
                  exact ⟨by first | rfl | (simp; done) | (simp [*]; done), by repeat (first | exact Drawn0.refl _ | apply Drawn0.step)⟩
                 ·rw [if_neg c48] at H
                  have c48b0 : (a0 == 15) = false := beq_eq_false_iff_ne.mpr c48
                  have c48b1 : (a0 != 15) = true := bne_iff_ne.mpr c48
                  by_cases c51 : a0 = 16
                  ·rw [if_pos c51] at H
                   have c51b0 : (a0 == 16) = true := beq_iff_eq.mpr c51
                   have c51b1 : (a0 != 16) = false := bne_eq_false_iff_eq.mpr c51
                   clear c51; replace H := Option.bind_eq_some_iff.mp H; obtain ⟨t149, A520, H⟩ := H; replace H : ((outriderref01_truth.f (!t149)).bind fun t150 => (some (t150, true))) = some (r1, r2) := H
                   have A52 := Aside0.mk A520; clear A520; replace H := Option.bind_eq_some_iff.mp H; obtain ⟨t150, A530, H⟩ := H; replace H : (some (t150, true)) = some (r1, r2) := H
                   have A53 := Aside0.mk A530; clear A530; simp only [Option.some.injEq, Prod.mk.injEq] at H
                   obtain ⟨rfl, rfl⟩ := H; go_wp2_with (first | ((with_reducible refine gate_callee (f := 116) rfl ?_); refine goesL_ (some 115) rfl rfl Try.func116 (by kernel_rfl) rfl #[.int .i64 a1, .int .i64 a2] rfl (by (try simp only [List.map_toArray, List.map_cons, List.map_nil]); first | done | rfl | (simp only [List.length_drop, List.length_take]; rfl)) ?_; (with_reducible refine (outriderref01_below.calls kj25 a1 a2 t149 _ A52.out).mono ?_); rintro e w' ⟨rfl, ⟨nd, rfl⟩⟩; refine ⟨_, rfl, ?_⟩) | ((with_reducible refine gate_callee (f := 108) rfl ?_); refine goesL_ (some 117) rfl rfl Try.func108 (by kernel_rfl) rfl #[.bool (!t149)] rfl (by (try simp only [List.map_toArray, List.map_cons, List.map_nil]); first | done | rfl | (simp only [List.length_drop, List.length_take]; rfl)) ?_; (with_reducible refine (outriderref01_truth.calls (!t149) t150 _ A53.out).mono ?_); rintro e w' ⟨rfl, ⟨nd, rfl⟩⟩; refine ⟨_, rfl, ?_⟩))
                   go_ret2
                   exact ⟨by first | rfl | (simp; done) | (simp [*]; done), by repeat (first | exact Drawn0.refl _ | apply Drawn0.step)⟩
                  ·rw [if_neg c51] at H
                   have c51b0 : (a0 == 16) = false := beq_eq_false_iff_ne.mpr c51
                   have c51b1 : (a0 != 16) = true := bne_iff_ne.mpr c51
                   by_cases c54 : a0 = 17
                   ·rw [if_pos c54] at H
                    have c54b0 : (a0 == 17) = true := beq_iff_eq.mpr c54
                    have c54b1 : (a0 != 17) = false := bne_eq_false_iff_eq.mpr c54
                    clear c54; replace H := Option.bind_eq_some_iff.mp H; obtain ⟨t151, A550, H⟩ := H; replace H : (if t151 = true then (some (a2, true)) else (some (a1, true))) = some (r1, r2) := H
                    have A55 := Aside0.mk A550; clear A550; by_cases c56 : t151 = true
                    ·subst c56
                     have H1 : (some (a2, true)) = some (r1, r2) := by rw [if_pos rfl] at H; exact H
                     clear H; have H := H1; clear H1; simp only [Option.some.injEq, Prod.mk.injEq] at H
                     obtain ⟨rfl, rfl⟩ := H; go_wp2_with (first | ((with_reducible refine gate_callee (f := 116) rfl ?_); refine goesL_ (some 122) rfl rfl Try.func116 (by kernel_rfl) rfl #[.int .i64 a2, .int .i64 a1] rfl (by (try simp only [List.map_toArray, List.map_cons, List.map_nil]); first | done | rfl | (simp only [List.length_drop, List.length_take]; rfl)) ?_; (with_reducible refine (outriderref01_below.calls kj25 a2 a1 true _ A55.out).mono ?_); rintro e w' ⟨rfl, ⟨nd, rfl⟩⟩; refine ⟨_, rfl, ?_⟩))
                     go_ret2
                     exact ⟨by first | rfl | (simp; done) | (simp [*]; done), by repeat (first | exact Drawn0.refl _ | apply Drawn0.step)⟩
                    ·replace c56 := Bool.eq_false_iff.mpr c56
                     subst c56; have H1 : (some (a1, true)) = some (r1, r2) := by rw [if_neg (show ¬ (false = true) by decide)] at H; exact H
                     clear H; have H := H1; clear H1; simp only [Option.some.injEq, Prod.mk.injEq] at H
                     obtain ⟨rfl, rfl⟩ := H; go_wp2_with (first | ((with_reducible refine gate_callee (f := 116) rfl ?_); refine goesL_ (some 122) rfl rfl Try.func116 (by kernel_rfl) rfl #[.int .i64 a2, .int .i64 a1] rfl (by (try simp only [List.map_toArray, List.map_cons, List.map_nil]); first | done | rfl | (simp only [List.length_drop, List.length_take]; rfl)) ?_; (with_reducible refine (outriderref01_below.calls kj25 a2 a1 false _ A55.out).mono ?_); rintro e w' ⟨rfl, ⟨nd, rfl⟩⟩; refine ⟨_, rfl, ?_⟩))
                     go_ret2
                     exact ⟨by first | rfl | (simp; done) | (simp [*]; done), by repeat (first | exact Drawn0.refl _ | apply Drawn0.step)⟩
                   ·rw [if_neg c54] at H
                    have c54b0 : (a0 == 17) = false := beq_eq_false_iff_ne.mpr c54
                    have c54b1 : (a0 != 17) = true := bne_iff_ne.mpr c54
                    by_cases c57 : a0 = 18
                    ·rw [if_pos c57] at H
                     have c57b0 : (a0 == 18) = true := beq_iff_eq.mpr c57
                     have c57b1 : (a0 != 18) = false := bne_eq_false_iff_eq.mpr c57
                     clear c57; replace H := Option.bind_eq_some_iff.mp H; obtain ⟨t152, A580, H⟩ := H; replace H : (if t152 = true then (some (a2, true)) else (some (a1, true))) = some (r1, r2) := H
                     have A58 := Aside0.mk A580; clear A580; by_cases c59 : t152 = true
                     ·subst c59
                      have H1 : (some (a2, true)) = some (r1, r2) := by rw [if_pos rfl] at H; exact H
                      clear H; have H := H1; clear H1; simp only [Option.some.injEq, Prod.mk.injEq] at H
                      obtain ⟨rfl, rfl⟩ := H; go_wp2_with (first | ((with_reducible refine gate_callee (f := 116) rfl ?_); refine goesL_ (some 129) rfl rfl Try.func116 (by kernel_rfl) rfl #[.int .i64 a1, .int .i64 a2] rfl (by (try simp only [List.map_toArray, List.map_cons, List.map_nil]); first | done | rfl | (simp only [List.length_drop, List.length_take]; rfl)) ?_; (with_reducible refine (outriderref01_below.calls kj25 a1 a2 true _ A58.out).mono ?_); rintro e w' ⟨rfl, ⟨nd, rfl⟩⟩; refine ⟨_, rfl, ?_⟩))
                      go_ret2
                      exact ⟨by first | rfl | (simp; done) | (simp [*]; done), by repeat (first | exact Drawn0.refl _ | apply Drawn0.step)⟩
                     ·replace c59 := Bool.eq_false_iff.mpr c59
                      subst c59; have H1 : (some (a1, true)) = some (r1, r2) := by rw [if_neg (show ¬ (false = true) by decide)] at H; exact H
                      clear H; have H := H1; clear H1; simp only [Option.some.injEq, Prod.mk.injEq] at H
                      obtain ⟨rfl, rfl⟩ := H; go_wp2_with (first | ((with_reducible refine gate_callee (f := 116) rfl ?_); refine goesL_ (some 129) rfl rfl Try.func116 (by kernel_rfl) rfl #[.int .i64 a1, .int .i64 a2] rfl (by (try simp only [List.map_toArray, List.map_cons, List.map_nil]); first | done | rfl | (simp only [List.length_drop, List.length_take]; rfl)) ?_; (with_reducible refine (outriderref01_below.calls kj25 a1 a2 false _ A58.out).mono ?_); rintro e w' ⟨rfl, ⟨nd, rfl⟩⟩; refine ⟨_, rfl, ?_⟩))
                      go_ret2
                      exact ⟨by first | rfl | (simp; done) | (simp [*]; done), by repeat (first | exact Drawn0.refl _ | apply Drawn0.step)⟩
                    ·rw [if_neg c57] at H
                     have c57b0 : (a0 == 18) = false := beq_eq_false_iff_ne.mpr c57
                     have c57b1 : (a0 != 18) = true := bne_iff_ne.mpr c57
                     simp only [Option.some.injEq, Prod.mk.injEq] at H
                     obtain ⟨rfl, rfl⟩ := H; go_wp2; go_ret2
                     exact ⟨by first | rfl | (simp; done) | (simp [*]; done), by repeat (first | exact Drawn0.refl _ | apply Drawn0.step)⟩
end Go.Proofs.Ytjlnpppjkdcpkaa.PNum
