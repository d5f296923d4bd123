/- Lines of this claim's proof. No conditions. -/
import Derived.Test.YtjlnpppjkdcpkaaERPNumx0
import Derived.Test.YtjlnpppjkdcpkaaERPNumx1
-- written by wip/tools/myprint.py
namespace Go.Proofs.Ytjlnpppjkdcpkaa.PNum
open Go.RowKit Go.Proofs.YtjlnpppjkdcpkaaW.PrintWords Go.Proofs.YtjlnpppjkdcpkaaW.PrintLast Go.Proofs.YtjlnpppjkdcpkaaW.PrintMore
attribute [local go_sem] max2_int min2_int max_two min_two max_three min_three max_four min_four   -- for this text's walks alone
set_option linter.unusedVariables false
set_option linter.unusedSimpArgs false
/-! ### outriderref01_logic: function 114 -/
mutual
def outriderref01_logic.l0 : Nat → Int → Int → Int → Int → Int → Option (Int)
 | 0, _, _, _, _, _ => none
 | k + 1, x0, x1, x2, x7, x8 => if x8 < 64 then ((outriderref01_bit.f x1 x8).bind fun t117 => ((outriderref01_bit.f x2 x8).bind fun t118 => (if t117 = true then (outriderref01_logic.j1 k x0 x1 x2 x7 x8 t117 t118 t118) else (outriderref01_logic.j1 k x0 x1 x2 x7 x8 t117 t118 false)))) else (some (wrap64 (x7)))
def outriderref01_logic.j1 : Nat → Int → Int → Int → Int → Int → Bool → Bool → Bool → Option (Int)
 | 0, _, _, _, _, _, _, _, _ => none
 | k + 1, x0, x1, x2, x7, x8, x9, x10, x11 => if x0 = 7 then (if x9 = true then (outriderref01_logic.j2 k x0 x1 x2 x7 x8 x9 x10 true) else (outriderref01_logic.j2 k x0 x1 x2 x7 x8 x9 x10 x10)) else (outriderref01_logic.j2 k x0 x1 x2 x7 x8 x9 x10 x11)
def outriderref01_logic.j2 : Nat → Int → Int → Int → Int → Int → Bool → Bool → Bool → Option (Int)
 | 0, _, _, _, _, _, _, _, _ => none
 | k + 1, x0, x1, x2, x7, x8, x9, x10, x11 => if x0 = 8 then (if (x9 != x10) = true then (if 0 ≤ (IntKind.u64.wrap (x8)) then (outriderref01_logic.l0 k x0 x1 x2 (Go.bits .or .u64 x7 (shl .u64 1 (IntKind.u64.wrap (x8)))) (wrap64 (x8 + 1))) else (none)) else (outriderref01_logic.l0 k x0 x1 x2 x7 (wrap64 (x8 + 1)))) else (if x11 = true then (if 0 ≤ (IntKind.u64.wrap (x8)) then (outriderref01_logic.l0 k x0 x1 x2 (Go.bits .or .u64 x7 (shl .u64 1 (IntKind.u64.wrap (x8)))) (wrap64 (x8 + 1))) else (none)) else (outriderref01_logic.l0 k x0 x1 x2 x7 (wrap64 (x8 + 1))))
end
def outriderref01_logic.f (k : Nat) (a0 : Int) (a1 : Int) (a2 : Int) : Option (Int) := outriderref01_logic.l0 k a0 a1 a2 0 0
theorem outriderref01_logic.mono_l : ∀ k, (∀ y0 y1 y2 y3 y4, LeO (outriderref01_logic.l0 k y0 y1 y2 y3 y4) (outriderref01_logic.l0 (k + 1) y0 y1 y2 y3 y4)) ∧ (∀ y0 y1 y2 y3 y4 y5 y6 y7, LeO (outriderref01_logic.j1 k y0 y1 y2 y3 y4 y5 y6 y7) (outriderref01_logic.j1 (k + 1) y0 y1 y2 y3 y4 y5 y6 y7)) ∧ (∀ y0 y1 y2 y3 y4 y5 y6 y7, LeO (outriderref01_logic.j2 k y0 y1 y2 y3 y4 y5 y6 y7) (outriderref01_logic.j2 (k + 1) y0 y1 y2 y3 y4 y5 y6 y7))
 | 0 => ⟨fun _ _ _ _ _ r h => by simp [outriderref01_logic.l0] at h, fun _ _ _ _ _ _ _ _ r h => by simp [outriderref01_logic.j1] at h, fun _ _ _ _ _ _ _ _ r h => by simp [outriderref01_logic.j2] at h⟩
 | k + 1 => by
  obtain ⟨ih0, ih1, ih2⟩ := outriderref01_logic.mono_l k; refine ⟨?_, ?_, ?_⟩
  ·intro y0 y1 y2 y3 y4
   unfold outriderref01_logic.l0
   repeat' first
   | (with_reducible exact ih0 _ _ _ _ _)
   | (with_reducible exact ih1 _ _ _ _ _ _ _ _)
   | (with_reducible exact ih2 _ _ _ _ _ _ _ _)
   | (with_reducible exact LeO.refl _)
   | (with_reducible exact LeO.none _)
   | (with_reducible refine LeO.ite ?_ ?_)
   | (with_reducible refine LeO.bind ?_ (fun _ => ?_))
   | exact ih0 _ _ _ _ _
   | exact ih1 _ _ _ _ _ _ _ _
   | exact ih2 _ _ _ _ _ _ _ _
   | exact LeO.none _
   | refine LeO.ite ?_ ?_
   | refine LeO.bind ?_ (fun _ => ?_)
  ·intro y0 y1 y2 y3 y4 y5 y6 y7
   unfold outriderref01_logic.j1
   repeat' first
   | (with_reducible exact ih0 _ _ _ _ _)
   | (with_reducible exact ih1 _ _ _ _ _ _ _ _)
   | (with_reducible exact ih2 _ _ _ _ _ _ _ _)
   | (with_reducible exact LeO.refl _)
   | (with_reducible exact LeO.none _)
   | (with_reducible refine LeO.ite ?_ ?_)
   | (with_reducible refine LeO.bind ?_ (fun _ => ?_))
   | exact ih0 _ _ _ _ _
   | exact ih1 _ _ _ _ _ _ _ _
   | exact ih2 _ _ _ _ _ _ _ _
   | exact LeO.none _
   | refine LeO.ite ?_ ?_
   | refine LeO.bind ?_ (fun _ => ?_)
  ·intro y0 y1 y2 y3 y4 y5 y6 y7
   unfold outriderref01_logic.j2
   repeat' first
   | (with_reducible exact ih0 _ _ _ _ _)
   | (with_reducible exact ih1 _ _ _ _ _ _ _ _)
   | (with_reducible exact ih2 _ _ _ _ _ _ _ _)
   | (with_reducible exact LeO.refl _)
   | (with_reducible exact LeO.none _)
   | (with_reducible refine LeO.ite ?_ ?_)
   | (with_reducible refine LeO.bind ?_ (fun _ => ?_))
   | exact ih0 _ _ _ _ _
   | exact ih1 _ _ _ _ _ _ _ _
   | exact ih2 _ _ _ _ _ _ _ _
   | exact LeO.none _
   | refine LeO.ite ?_ ?_
   | refine LeO.bind ?_ (fun _ => ?_)
theorem outriderref01_logic.mono : ∀ a0 a1 a2 k, LeO (outriderref01_logic.f k a0 a1 a2) (outriderref01_logic.f (k + 1) a0 a1 a2) := by
 intro a0 a1 a2 k; obtain ⟨ih0, ih1, ih2⟩ := outriderref01_logic.mono_l k; unfold outriderref01_logic.f
 repeat' first
   | (with_reducible exact ih0 _ _ _ _ _)
   | (with_reducible exact ih1 _ _ _ _ _ _ _ _)
   | (with_reducible exact ih2 _ _ _ _ _ _ _ _)
   | (with_reducible exact LeO.refl _)
   | (with_reducible exact LeO.none _)
   | (with_reducible refine LeO.ite ?_ ?_)
   | (with_reducible refine LeO.bind ?_ (fun _ => ?_))
   | exact ih0 _ _ _ _ _
   | exact ih1 _ _ _ _ _ _ _ _
   | exact ih2 _ _ _ _ _ _ _ _
   | exact LeO.none _
   | refine LeO.ite ?_ ?_
   | refine LeO.bind ?_ (fun _ => ?_)
set_option maxHeartbeats 8000000 in
set_option maxRecDepth 100000 in
theorem outriderref01_logic.calls (k : Nat) (a0 : Int) (a1 : Int) (a2 : Int) (r : Int) (w : World) (h : outriderref01_logic.f k a0 a1 a2 = some r) :
  Calls Try.prog 114 #[.int .i64 a0, .int .i64 a1, .int .i64 a2] w fun e w' => e = .returned (.int .i64 r) ∧ Drawn0 w w' := by
 have H : (outriderref01_logic.l0 k a0 a1 a2 0 0) = some r := h
 clear h; have H' := Aside0.mk H; clear H; go_enter Try.func114, Try.ntmps114
 go_wp2; go_loopg [7, 8] k (fun kq v7 v8 w' => ∃ (x7_1 : Int) (x8_1 : Int), v7 = .int .u64 x7_1 ∧ v8 = .int .i64 x8_1 ∧ Aside0 (outriderref01_logic.l0 kq a0 a1 a2 x7_1 x8_1 = some r) ∧ Aside0 (kq ≤ k) ∧ Drawn0 w w')
 case atStart => exact ⟨(0), (0), (by first | rfl | (simp; done) | (simp [*]; done)), (by first | rfl | (simp; done) | (simp [*]; done)), H', ⟨Nat.le_refl _⟩, by repeat (first | exact Drawn0.refl _ | apply Drawn0.step)⟩
 case round =>
  clear H'; try clear c1
  try clear p2
  obtain ⟨x7_1, x8_1, rfl, rfl, HA, HK1, ⟨m1, rfl⟩⟩ := hrel
  cases gk with
  | zero => exact absurd HA.out (by simp [outriderref01_logic.l0])
  | succ k1 =>
   have H := HA.out; clear HA; simp only [outriderref01_logic.l0] at H
   by_cases c4 : x8_1 < 64
   ·rw [if_pos c4] at H
    have c4b0 : decide (x8_1 < 64) = true := decide_eq_true c4
    clear c4; replace H := Option.bind_eq_some_iff.mp H; obtain ⟨t117, A50, H⟩ := H; replace H : ((outriderref01_bit.f a2 x8_1).bind fun t118 => (if t117 = true then (outriderref01_logic.j1 k1 a0 a1 a2 x7_1 x8_1 t117 t118 t118) else (outriderref01_logic.j1 k1 a0 a1 a2 x7_1 x8_1 t117 t118 false))) = some r := H
    have A5 := Aside0.mk A50; clear A50; replace H := Option.bind_eq_some_iff.mp H; obtain ⟨t118, A60, H⟩ := H; replace H : (if t117 = true then (outriderref01_logic.j1 k1 a0 a1 a2 x7_1 x8_1 t117 t118 t118) else (outriderref01_logic.j1 k1 a0 a1 a2 x7_1 x8_1 t117 t118 false)) = some r := H
    have A6 := Aside0.mk A60; clear A60; have HC7 := Aside0.mk H; clear H; go_upto_region 6 with (first | ((with_reducible refine gate_callee (f := 121) rfl ?_); refine goesL_ (some 18) rfl rfl Try.func121 (by kernel_rfl) rfl #[.int .i64 a1, .int .i64 x8_1] rfl (by (try simp only [List.map_toArray, List.map_cons, List.map_nil]); first | done | rfl | (simp only [List.length_drop, List.length_take]; rfl)) ?_; (with_reducible refine (outriderref01_bit.calls a1 x8_1 t117 _ A5.out).mono ?_); rintro e w' ⟨rfl, ⟨nd, rfl⟩⟩; refine ⟨_, rfl, ?_⟩) | ((with_reducible refine gate_callee (f := 121) rfl ?_); refine goesL_ (some 21) rfl rfl Try.func121 (by kernel_rfl) rfl #[.int .i64 a2, .int .i64 x8_1] rfl (by (try simp only [List.map_toArray, List.map_cons, List.map_nil]); first | done | rfl | (simp only [List.length_drop, List.length_take]; rfl)) ?_; (with_reducible refine (outriderref01_bit.calls a2 x8_1 t118 _ A6.out).mono ?_); rintro e w' ⟨rfl, ⟨nd, rfl⟩⟩; refine ⟨_, rfl, ?_⟩))
    (try simp only [Act.put, List.setIfInBounds_toArray, List.set_cons_zero, List.set_cons_succ])
    go_cut [11] (fun v11 wc => ∃ (kq : Nat) (x11_6 : Bool), v11 = .bool x11_6 ∧ Aside0 (outriderref01_logic.j1 kq a0 a1 a2 x7_1 x8_1 t117 t118 x11_6 = some r) ∧ Aside0 (kq ≤ k1) ∧ Drawn0 w wc)
    case first =>
     have H := HC7.out; clear HC7; by_cases c8 : t117 = true
     ·subst c8
      have H1 : (outriderref01_logic.j1 k1 a0 a1 a2 x7_1 x8_1 true t118 t118) = some r := by rw [if_pos rfl] at H; exact H
      clear H; have H := H1; clear H1; have H' := Aside0.mk H; clear H; go_wp2; go_meet
      case rel => exact ⟨_, (t118), (by first | rfl | (simp; done) | (simp [*]; done)), H', ⟨by have := HK1.out; first | omega | exact Nat.le_refl _⟩, by repeat (first | exact Drawn0.refl _ | apply Drawn0.step)⟩
     ·replace c8 := Bool.eq_false_iff.mpr c8
      subst c8; have H1 : (outriderref01_logic.j1 k1 a0 a1 a2 x7_1 x8_1 false t118 false) = some r := by rw [if_neg (show ¬ (false = true) by decide)] at H; exact H
      clear H; have H := H1; clear H1; have H' := Aside0.mk H; clear H; go_wp2; go_meet
      case rel => exact ⟨_, (false), (by first | rfl | (simp; done) | (simp [*]; done)), H', ⟨by have := HK1.out; first | omega | exact Nat.le_refl _⟩, by repeat (first | exact Drawn0.refl _ | apply Drawn0.step)⟩
    case rest =>
     clear HC7; try clear c1
     try clear p2
     try clear c4
     try clear c4b0
     try clear c8
     try clear p2
     obtain ⟨kq, x11_6, rfl, HA, HJ6, ⟨mc6, rfl⟩⟩ := hcut
     cases kq with
     | zero => exact absurd HA.out (by simp [outriderref01_logic.j1])
     | succ kj6 =>
      have H := HA.out; clear HA; simp only [outriderref01_logic.j1] at H
      have HC9 := Aside0.mk H; clear H; go_upto_if 27 with (fail)
      go_cut [11] (fun v11 wc => ∃ (kq : Nat) (x11_8 : Bool), v11 = .bool x11_8 ∧ Aside0 (outriderref01_logic.j2 kq a0 a1 a2 x7_1 x8_1 t117 t118 x11_8 = some r) ∧ Aside0 (kq ≤ kj6) ∧ Drawn0 w wc)
      case first =>
       have H := HC9.out; clear HC9; by_cases c10 : a0 = 7
       ·rw [if_pos c10] at H
        have c10b0 : (a0 == 7) = true := beq_iff_eq.mpr c10
        have c10b1 : (a0 != 7) = false := bne_eq_false_iff_eq.mpr c10
        clear c10; (first | rw [c10b0] | (simp only [i64_w, i32_w]; rw [c10b0]) | skip)
        by_cases c11 : t117 = true
        ·subst c11
         have H1 : (outriderref01_logic.j2 kj6 a0 a1 a2 x7_1 x8_1 true t118 true) = some r := by rw [if_pos rfl] at H; exact H
         clear H; have H := H1; clear H1; have H' := Aside0.mk H; clear H; go_wp2; go_meet
         case rel => exact ⟨_, (true), (by first | rfl | (simp; done) | (simp [*]; done)), H', ⟨by have := HK1.out; have := HJ6.out; first | omega | exact Nat.le_refl _⟩, by repeat (first | exact Drawn0.refl _ | apply Drawn0.step)⟩
        ·replace c11 := Bool.eq_false_iff.mpr c11
         subst c11; have H1 : (outriderref01_logic.j2 kj6 a0 a1 a2 x7_1 x8_1 false t118 t118) = some r := by rw [if_neg (show ¬ (false = true) by decide)] at H; exact H
         clear H; have H := H1; clear H1; have H' := Aside0.mk H; clear H; go_wp2; go_meet
         case rel => exact ⟨_, (t118), (by first | rfl | (simp; done) | (simp [*]; done)), H', ⟨by have := HK1.out; have := HJ6.out; first | omega | exact Nat.le_refl _⟩, by repeat (first | exact Drawn0.refl _ | apply Drawn0.step)⟩
       ·rw [if_neg c10] at H
        have c10b0 : (a0 == 7) = false := beq_eq_false_iff_ne.mpr c10
        have c10b1 : (a0 != 7) = true := bne_iff_ne.mpr c10
        (first | rw [c10b0] | (simp only [i64_w, i32_w]; rw [c10b0]) | skip)
        have H' := Aside0.mk H; clear H; go_wp2; go_meet
        case rel => exact ⟨_, (x11_6), (by first | rfl | (simp; done) | (simp [*]; done)), H', ⟨by have := HK1.out; have := HJ6.out; first | omega | exact Nat.le_refl _⟩, by repeat (first | exact Drawn0.refl _ | apply Drawn0.step)⟩
      case rest =>
       clear HC9; try clear c1
       try clear p2
       try clear c4
       try clear c4b0
       try clear c6
       try clear c8
       try clear c10
       try clear c10b0
       try clear c10b1
       try clear c11
       try clear p2
       obtain ⟨kq, x11_8, rfl, HA, HJ8, ⟨mc8, rfl⟩⟩ := hcut
       cases kq with
       | zero => exact absurd HA.out (by simp [outriderref01_logic.j2])
       | succ kj8 =>
        have H := HA.out; clear HA; simp only [outriderref01_logic.j2] at H
        by_cases c12 : a0 = 8
        ·rw [if_pos c12] at H
         have c12b0 : (a0 == 8) = true := beq_iff_eq.mpr c12
         have c12b1 : (a0 != 8) = false := bne_eq_false_iff_eq.mpr c12
         clear c12; by_cases c13 : (t117 != t118) = true
         ·rw [if_pos c13] at H
          have c13b0 : (t117 != t118) = true := c13
          (try (have c13b1 : decide (t117 = t118) = false := by simpa using c13))
          (try (have c13b2 : (t117 == t118) = false := by simpa using c13))
          (try (have c13b3 : ¬ (t117 = t118) := by simpa using c13))
          clear c13; obtain ⟨ji14, hji14⟩ : ∃ j_ : Int, (IntKind.u64.wrap (x8_1)) = j_ := ⟨_, rfl⟩
          replace H : (if 0 ≤ (ji14) then (outriderref01_logic.l0 kj8 a0 a1 a2 (Go.bits .or .u64 x7_1 (shl .u64 1 (ji14))) (wrap64 (x8_1 + 1))) else (none)) = some r := by first | (rw [hji14] at H; exact H) | (simp only [hji14] at H ⊢; exact H)
          by_cases c15 : 0 ≤ (ji14)
          ·rw [if_pos c15] at H
           have c15b0 := eq_true c15; have c15b1 : decide (0 ≤ (ji14)) = true := decide_eq_true c15
           clear c15; obtain ⟨ji16, hji16⟩ : ∃ j_ : Int, (shl .u64 1 (ji14)) = j_ := ⟨_, rfl⟩
           replace H : (outriderref01_logic.l0 kj8 a0 a1 a2 (Go.bits .or .u64 x7_1 (ji16)) (wrap64 (x8_1 + 1))) = some r := by first | (rw [hji16] at H; exact H) | (simp only [hji16] at H ⊢; exact H)
           have hji16_ : (IntKind.u64.wrap (1 * 2 ^ min (ji14).toNat 64)) = ji16 := hji16
           have hji16z : (ji14) ≤ 64 → (IntKind.u64.wrap (1 * 2 ^ (ji14).toNat)) = ji16 := shl_small hji16
           have hji16u : (IntKind.u64.wrap (2 ^ min (ji14).toNat 64)) = ji16 := by have h_ := hji16_; rw [Int.one_mul] at h_; exact h_
           have hji16v : (ji14) ≤ 64 → (IntKind.u64.wrap (2 ^ (ji14).toNat)) = ji16 := fun hle_ => by have h_ := hji16z hle_; rw [Int.one_mul] at h_; exact h_
           have H' := Aside0.mk H; clear H; go_wp2; go_roundg kj8
           case measure => have := HK1.out; have := HJ6.out; have := HJ8.out; omega
           case rel => exact ⟨(Go.bits .or .u64 x7_1 (ji16)), (wrap64 (x8_1 + 1)), (by first | rfl | (simp; done) | (simp only [← hji16] <;> (first | rfl | simp)) | (simp [*]; done)), (by first | rfl | (simp; done) | (simp [*]; done)), H', ⟨by have := HK1.out; have := HJ6.out; have := HJ8.out; omega⟩, by repeat (first | exact Drawn0.refl _ | apply Drawn0.step)⟩
          ·rw [if_neg c15] at H
           exact absurd H (by simp)
         ·rw [if_neg c13] at H
          have c13b0 : (t117 != t118) = false := by simpa using c13
          (try (have c13b1 : decide (t117 = t118) = true := by simpa using c13))
          (try (have c13b2 : (t117 == t118) = true := by simpa using c13))
          clear c13; have H' := Aside0.mk H; clear H; go_wp2; go_roundg kj8
          case measure => have := HK1.out; have := HJ6.out; have := HJ8.out; omega
          case rel => exact ⟨(x7_1), (wrap64 (x8_1 + 1)), (by first | rfl | (simp; done) | (simp [*]; done)), (by first | rfl | (simp; done) | (simp [*]; done)), H', ⟨by have := HK1.out; have := HJ6.out; have := HJ8.out; omega⟩, by repeat (first | exact Drawn0.refl _ | apply Drawn0.step)⟩
        ·rw [if_neg c12] at H
         have c12b0 : (a0 == 8) = false := beq_eq_false_iff_ne.mpr c12
         have c12b1 : (a0 != 8) = true := bne_iff_ne.mpr c12
         by_cases c17 : x11_8 = true
         ·subst c17
          have H1 : (if 0 ≤ (IntKind.u64.wrap (x8_1)) then (outriderref01_logic.l0 kj8 a0 a1 a2 (Go.bits .or .u64 x7_1 (shl .u64 1 (IntKind.u64.wrap (x8_1)))) (wrap64 (x8_1 + 1))) else (none)) = some r := by rw [if_pos rfl] at H; exact H
          clear H; have H := H1; clear H1; obtain ⟨ji18, hji18⟩ : ∃ j_ : Int, (IntKind.u64.wrap (x8_1)) = j_ := ⟨_, rfl⟩
          replace H : (if 0 ≤ (ji18) then (outriderref01_logic.l0 kj8 a0 a1 a2 (Go.bits .or .u64 x7_1 (shl .u64 1 (ji18))) (wrap64 (x8_1 + 1))) else (none)) = some r := by first | (rw [hji18] at H; exact H) | (simp only [hji18] at H ⊢; exact H)
          by_cases c19 : 0 ≤ (ji18)
          ·rw [if_pos c19] at H
           have c19b0 := eq_true c19; have c19b1 : decide (0 ≤ (ji18)) = true := decide_eq_true c19
           clear c19; obtain ⟨ji20, hji20⟩ : ∃ j_ : Int, (shl .u64 1 (ji18)) = j_ := ⟨_, rfl⟩
           replace H : (outriderref01_logic.l0 kj8 a0 a1 a2 (Go.bits .or .u64 x7_1 (ji20)) (wrap64 (x8_1 + 1))) = some r := by first | (rw [hji20] at H; exact H) | (simp only [hji20] at H ⊢; exact H)
           have hji20_ : (IntKind.u64.wrap (1 * 2 ^ min (ji18).toNat 64)) = ji20 := hji20
           have hji20z : (ji18) ≤ 64 → (IntKind.u64.wrap (1 * 2 ^ (ji18).toNat)) = ji20 := shl_small hji20
           have hji20u : (IntKind.u64.wrap (2 ^ min (ji18).toNat 64)) = ji20 := by have h_ := hji20_; rw [Int.one_mul] at h_; exact h_
           have hji20v : (ji18) ≤ 64 → (IntKind.u64.wrap (2 ^ (ji18).toNat)) = ji20 := fun hle_ => by have h_ := hji20z hle_; rw [Int.one_mul] at h_; exact h_
           have H' := Aside0.mk H; clear H; go_wp2; go_roundg kj8
           case measure => have := HK1.out; have := HJ6.out; have := HJ8.out; omega
           case rel => exact ⟨(Go.bits .or .u64 x7_1 (ji20)), (wrap64 (x8_1 + 1)), (by first | rfl | (simp; done) | (simp only [← hji20] <;> (first | rfl | simp)) | (simp [*]; done)), (by first | rfl | (simp; done) | (simp [*]; done)), H', ⟨by have := HK1.out; have := HJ6.out; have := HJ8.out; omega⟩, by repeat (first | exact Drawn0.refl _ | apply Drawn0.step)⟩
          ·rw [if_neg c19] at H
           exact absurd H (by simp)
         ·replace c17 := Bool.eq_false_iff.mpr c17
          subst c17; have H1 : (outriderref01_logic.l0 kj8 a0 a1 a2 x7_1 (wrap64 (x8_1 + 1))) = some r := by rw [if_neg (show ¬ (false = true) by decide)] at H; exact H
          clear H; have H := H1; clear H1; have H' := Aside0.mk H; clear H; go_wp2; go_roundg kj8
          case measure => have := HK1.out; have := HJ6.out; have := HJ8.out; omega
          case rel => exact ⟨(x7_1), (wrap64 (x8_1 + 1)), (by first | rfl | (simp; done) | (simp [*]; done)), (by first | rfl | (simp; done) | (simp [*]; done)), H', ⟨by have := HK1.out; have := HJ6.out; have := HJ8.out; omega⟩, by repeat (first | exact Drawn0.refl _ | apply Drawn0.step)⟩
   ·rw [if_neg c4] at H
    have c4b0 : decide (x8_1 < 64) = false := decide_eq_false c4
    clear c4; obtain rfl := Option.some.inj H
    go_wp2; go_ret; exact ⟨by first | rfl | (simp; done) | (simp [*]; done), by repeat (first | exact Drawn0.refl _ | apply Drawn0.step)⟩
end Go.Proofs.Ytjlnpppjkdcpkaa.PNum
