-- written by wip/tools/myprint.py
import Derived.Test.YtnpkaoogifjofaaPNumx0
import Derived.Test.YtnpkaoogifjofaaPNumx11
import Derived.Test.YtnpkaoogifjofaaPNumx17
import Derived.Test.YtnpkaoogifjofaaPNumx19
import Derived.Test.YtnpkaoogifjofaaPNumx27
namespace Go.Proofs.Ytnpkaoogifjofaa.PNum
open Go.RowKit Go.Proofs.YtnpkaoogifjofaaW.PrintWords Go.Proofs.YtnpkaoogifjofaaW.PrintLast Go.Proofs.YtnpkaoogifjofaaW.PrintMore
attribute [local go_sem] max2_int min2_int max_two min_two max_three min_three max_four min_four   -- for this text's walks alone
set_option linter.unusedVariables false
set_option linter.unusedSimpArgs false

/-! ### outriderlaw01_NumBezout: function 12 -/
mutual
def outriderlaw01_NumBezout.j0 : Nat → Int → Int → Int → Int → Int → Int → Bool → Option (Bool)
  | 0, _, _, _, _, _, _, _ => none
  | k + 1, x0, x1, x5, x6, x7, x8, x30 => if x30 = true then (if x8 = 11 then (if x5 = 0 then (if x6 = 0 then (if x7 = 0 then ((outriderlaw01_alive.f k).bind fun t273 => (some t273)) else (some false)) else (some false)) else (some false)) else (some false)) else (if x8 = 0 then (if x7 < 0 then (outriderlaw01_NumBezout.j1 k x0 x1 x5 x6 x7 true) else ((num_Gcd.f k x0 x1).bind fun t274 => (if (IntKind.u64.wrap (x7)) = t274 then (if (wrap64 ((wrap64 (x0 * x5)) + (wrap64 (x1 * x6)))) = x7 then (if x7 = 0 then (if x0 = 0 then (outriderlaw01_NumBezout.j1 k x0 x1 x5 x6 x7 (x1 != 0)) else (outriderlaw01_NumBezout.j1 k x0 x1 x5 x6 x7 true)) else (outriderlaw01_NumBezout.j1 k x0 x1 x5 x6 x7 false)) else (outriderlaw01_NumBezout.j1 k x0 x1 x5 x6 x7 true)) else (outriderlaw01_NumBezout.j1 k x0 x1 x5 x6 x7 true)))) else (outriderlaw01_NumBezout.j1 k x0 x1 x5 x6 x7 true))
def outriderlaw01_NumBezout.j1 : Nat → Int → Int → Int → Int → Int → Bool → Option (Bool)
  | 0, _, _, _, _, _, _ => none
  | k + 1, x0, x1, x5, x6, x7, x84 => if x84 = true then (some false) else (if x1 = 0 then (if x6 = 0 then (if x5 = 0 then (if x0 = 0 then ((outriderlaw01_alive.f k).bind fun t275 => (some t275)) else (if x5 = 1 then (if x0 > 0 then ((outriderlaw01_alive.f k).bind fun t276 => (some t276)) else (if x5 = (-1) then (if x0 < 0 then ((outriderlaw01_alive.f k).bind fun t277 => (some t277)) else (some false)) else (some false))) else (if x5 = (-1) then (if x0 < 0 then ((outriderlaw01_alive.f k).bind fun t278 => (some t278)) else (some false)) else (some false)))) else (if x5 = 1 then (if x0 > 0 then ((outriderlaw01_alive.f k).bind fun t279 => (some t279)) else (if x5 = (-1) then (if x0 < 0 then ((outriderlaw01_alive.f k).bind fun t280 => (some t280)) else (some false)) else (some false))) else (if x5 = (-1) then (if x0 < 0 then ((outriderlaw01_alive.f k).bind fun t281 => (some t281)) else (some false)) else (some false)))) else (some false)) else (if x5 ≥ 0 then ((outriderlaw01_size.f x1).bind fun t282 => (if (IntKind.u64.wrap (x7)) = 0 then (none) else (if (IntKind.u64.wrap (x5)) < (IntKind.u64.wrap (Int.tdiv t282 (IntKind.u64.wrap (x7)))) then ((outriderlaw01_alive.f k).bind fun t283 => (some t283)) else (some false)))) else (some false)))
end
def outriderlaw01_NumBezout.f (k : Nat) (a0 : Int) (a1 : Int) : Option (Bool) := (num_Bezout.f k a0 a1).bind fun bt269 => (if a0 < (-2147483648) then (outriderlaw01_NumBezout.j0 k a0 a1 bt269.1 bt269.2.1 bt269.2.2.1 bt269.2.2.2 true) else (if a0 > 2147483648 then (outriderlaw01_NumBezout.j0 k a0 a1 bt269.1 bt269.2.1 bt269.2.2.1 bt269.2.2.2 true) else (if a1 < (-2147483648) then (outriderlaw01_NumBezout.j0 k a0 a1 bt269.1 bt269.2.1 bt269.2.2.1 bt269.2.2.2 true) else (outriderlaw01_NumBezout.j0 k a0 a1 bt269.1 bt269.2.1 bt269.2.2.1 bt269.2.2.2 (decide (a1 > 2147483648))))))
theorem outriderlaw01_NumBezout.mono_l : ∀ k, (∀ y0 y1 y2 y3 y4 y5 y6, LeO (outriderlaw01_NumBezout.j0 k y0 y1 y2 y3 y4 y5 y6) (outriderlaw01_NumBezout.j0 (k + 1) y0 y1 y2 y3 y4 y5 y6)) ∧ (∀ y0 y1 y2 y3 y4 y5, LeO (outriderlaw01_NumBezout.j1 k y0 y1 y2 y3 y4 y5) (outriderlaw01_NumBezout.j1 (k + 1) y0 y1 y2 y3 y4 y5))
  | 0 => ⟨fun _ _ _ _ _ _ _ r h => by simp [outriderlaw01_NumBezout.j0] at h, fun _ _ _ _ _ _ r h => by simp [outriderlaw01_NumBezout.j1] at h⟩
  | k + 1 => by
    obtain ⟨ih0, ih1⟩ := outriderlaw01_NumBezout.mono_l k
    refine ⟨?_, ?_⟩
    · intro y0 y1 y2 y3 y4 y5 y6
      unfold outriderlaw01_NumBezout.j0
      repeat' first
      | (with_reducible exact ih0 _ _ _ _ _ _ _)
      | (with_reducible exact ih1 _ _ _ _ _ _)
      | (with_reducible exact num_Bezout.mono _ _ _)
      | (with_reducible exact num_Gcd.mono _ _ _)
      | (with_reducible exact outriderlaw01_alive.mono _)
      | (with_reducible exact LeO.refl _)
      | (with_reducible exact LeO.none _)
      | (with_reducible refine LeO.ite ?_ ?_)
      | (with_reducible refine LeO.bind ?_ (fun _ => ?_))
      | exact ih0 _ _ _ _ _ _ _
      | exact ih1 _ _ _ _ _ _
      | exact num_Bezout.mono _ _ _
      | exact num_Gcd.mono _ _ _
      | exact outriderlaw01_alive.mono _
      | exact LeO.none _
      | refine LeO.ite ?_ ?_
      | refine LeO.bind ?_ (fun _ => ?_)
    · intro y0 y1 y2 y3 y4 y5
      unfold outriderlaw01_NumBezout.j1
      repeat' first
      | (with_reducible exact ih0 _ _ _ _ _ _ _)
      | (with_reducible exact ih1 _ _ _ _ _ _)
      | (with_reducible exact num_Bezout.mono _ _ _)
      | (with_reducible exact num_Gcd.mono _ _ _)
      | (with_reducible exact outriderlaw01_alive.mono _)
      | (with_reducible exact LeO.refl _)
      | (with_reducible exact LeO.none _)
      | (with_reducible refine LeO.ite ?_ ?_)
      | (with_reducible refine LeO.bind ?_ (fun _ => ?_))
      | exact ih0 _ _ _ _ _ _ _
      | exact ih1 _ _ _ _ _ _
      | exact num_Bezout.mono _ _ _
      | exact num_Gcd.mono _ _ _
      | exact outriderlaw01_alive.mono _
      | exact LeO.none _
      | refine LeO.ite ?_ ?_
      | refine LeO.bind ?_ (fun _ => ?_)
theorem outriderlaw01_NumBezout.mono : ∀ a0 a1 k, LeO (outriderlaw01_NumBezout.f k a0 a1) (outriderlaw01_NumBezout.f (k + 1) a0 a1) := by
  intro a0 a1 k
  obtain ⟨ih0, ih1⟩ := outriderlaw01_NumBezout.mono_l k
  unfold outriderlaw01_NumBezout.f
  repeat' first
      | (with_reducible exact ih0 _ _ _ _ _ _ _)
      | (with_reducible exact ih1 _ _ _ _ _ _)
      | (with_reducible exact num_Bezout.mono _ _ _)
      | (with_reducible exact num_Gcd.mono _ _ _)
      | (with_reducible exact outriderlaw01_alive.mono _)
      | (with_reducible exact LeO.refl _)
      | (with_reducible exact LeO.none _)
      | (with_reducible refine LeO.ite ?_ ?_)
      | (with_reducible refine LeO.bind ?_ (fun _ => ?_))
      | exact ih0 _ _ _ _ _ _ _
      | exact ih1 _ _ _ _ _ _
      | exact num_Bezout.mono _ _ _
      | exact num_Gcd.mono _ _ _
      | exact outriderlaw01_alive.mono _
      | exact LeO.none _
      | refine LeO.ite ?_ ?_
      | refine LeO.bind ?_ (fun _ => ?_)
set_option maxHeartbeats 8000000 in
set_option maxRecDepth 100000 in
theorem outriderlaw01_NumBezout.calls (k : Nat) (a0 : Int) (a1 : Int) (r : Bool) (w : World) (h : outriderlaw01_NumBezout.f k a0 a1 = some r) :
    Calls Try.prog 12 #[.int .i64 a0, .int .i64 a1] w fun e w' => e = .returned (.bool r) ∧ Below w.heap.size w w' := by
  have HB := Aside0.mk (Below.refl w.heap.size w)
  have H : ((num_Bezout.f k a0 a1).bind fun bt269 => (if a0 < (-2147483648) then (outriderlaw01_NumBezout.j0 k a0 a1 bt269.1 bt269.2.1 bt269.2.2.1 bt269.2.2.2 true) else (if a0 > 2147483648 then (outriderlaw01_NumBezout.j0 k a0 a1 bt269.1 bt269.2.1 bt269.2.2.1 bt269.2.2.2 true) else (if a1 < (-2147483648) then (outriderlaw01_NumBezout.j0 k a0 a1 bt269.1 bt269.2.1 bt269.2.2.1 bt269.2.2.2 true) else (outriderlaw01_NumBezout.j0 k a0 a1 bt269.1 bt269.2.1 bt269.2.2.1 bt269.2.2.2 (decide (a1 > 2147483648))))))) = some r := h
  clear h
  replace H := Option.bind_eq_some_iff.mp H
  obtain ⟨⟨t269, t270, t271, t272⟩, A30, H⟩ := H
  replace H : (if a0 < (-2147483648) then (outriderlaw01_NumBezout.j0 k a0 a1 t269 t270 t271 t272 true) else (if a0 > 2147483648 then (outriderlaw01_NumBezout.j0 k a0 a1 t269 t270 t271 t272 true) else (if a1 < (-2147483648) then (outriderlaw01_NumBezout.j0 k a0 a1 t269 t270 t271 t272 true) else (outriderlaw01_NumBezout.j0 k a0 a1 t269 t270 t271 t272 (decide (a1 > 2147483648)))))) = some r := H
  have A3 := Aside0.mk A30
  clear A30
  have HC4 := Aside0.mk H
  clear H
  go_enter Try.func12, Try.ntmps12
  go_upto_region 2 with (first | ((with_reducible refine gate_callee (f := 29) rfl ?_); refine goesL_ (some 12) rfl rfl Try.func29 (by kernel_rfl) rfl #[.int .i64 a0, .int .i64 a1] rfl (by (try simp only [List.map_toArray, List.map_cons, List.map_nil]); first | done | rfl | (simp only [List.length_drop, List.length_take]; rfl)) ?_; (with_reducible refine (num_Bezout.calls k a0 a1 t269 t270 t271 t272 _ A3.out).mono ?_); rintro e w' ⟨rfl, ⟨nd, rfl⟩⟩; refine ⟨_, rfl, ?_⟩))
  (try simp only [Act.put, List.setIfInBounds_toArray, List.set_cons_zero, List.set_cons_succ])
  go_cut [30] (fun v30 wc => ∃ (kq : Nat) (x30_3 : Bool), v30 = .bool x30_3 ∧ Aside0 (outriderlaw01_NumBezout.j0 kq a0 a1 t269 t270 t271 t272 x30_3 = some r) ∧ Aside0 (kq ≤ k) ∧ Aside0 (Below w.heap.size w wc))
  case first =>
    have H := HC4.out
    clear HC4
    by_cases c5 : a0 < (-2147483648)
    · rw [if_pos c5] at H
      have c5b0 : decide (a0 < (-2147483648)) = true := decide_eq_true c5
      clear c5
      (first | rw [c5b0] | (simp only [i64_w, i32_w]; rw [c5b0]) | skip)
      have H' := Aside0.mk H
      clear H
      go_wp2
      go_meet
      case rel => exact ⟨_, (true), (by first | rfl | (simp; done) | (simp [*]; done)), H', ⟨by first | omega | exact Nat.le_refl _⟩, ⟨by repeat (first | (with_reducible first | exact HB.out | apply below_alloc | apply pw_below_drewN | apply below_drew1) | exact HB.out)⟩⟩
    · rw [if_neg c5] at H
      have c5b0 : decide (a0 < (-2147483648)) = false := decide_eq_false c5
      clear c5
      (first | rw [c5b0] | (simp only [i64_w, i32_w]; rw [c5b0]) | skip)
      by_cases c6 : a0 > 2147483648
      · rw [if_pos c6] at H
        have c6b0 : decide (2147483648 < a0) = true := decide_eq_true c6
        clear c6
        have H' := Aside0.mk H
        clear H
        go_wp2
        go_meet
        case rel => exact ⟨_, (true), (by first | rfl | (simp; done) | (simp [*]; done)), H', ⟨by first | omega | exact Nat.le_refl _⟩, ⟨by repeat (first | (with_reducible first | exact HB.out | apply below_alloc | apply pw_below_drewN | apply below_drew1) | exact HB.out)⟩⟩
      · rw [if_neg c6] at H
        have c6b0 : decide (2147483648 < a0) = false := decide_eq_false c6
        clear c6
        by_cases c7 : a1 < (-2147483648)
        · rw [if_pos c7] at H
          have c7b0 : decide (a1 < (-2147483648)) = true := decide_eq_true c7
          clear c7
          have H' := Aside0.mk H
          clear H
          go_wp2
          go_meet
          case rel => exact ⟨_, (true), (by first | rfl | (simp; done) | (simp [*]; done)), H', ⟨by first | omega | exact Nat.le_refl _⟩, ⟨by repeat (first | (with_reducible first | exact HB.out | apply below_alloc | apply pw_below_drewN | apply below_drew1) | exact HB.out)⟩⟩
        · rw [if_neg c7] at H
          have c7b0 : decide (a1 < (-2147483648)) = false := decide_eq_false c7
          clear c7
          have H' := Aside0.mk H
          clear H
          go_wp2
          go_meet
          case rel => exact ⟨_, (decide (a1 > 2147483648)), (by first | rfl | (simp; done) | (simp [*]; done)), H', ⟨by first | omega | exact Nat.le_refl _⟩, ⟨by repeat (first | (with_reducible first | exact HB.out | apply below_alloc | apply pw_below_drewN | apply below_drew1) | exact HB.out)⟩⟩
  case rest =>
    clear HC4
    try clear c1
    try clear c2
    try clear p2
    try clear c5
    try clear c5b0
    try clear c6
    try clear c6b0
    try clear c7
    try clear c7b0
    obtain ⟨kq, x30_3, rfl, HA, HJ3, HB⟩ := hcut
    cases kq with
    | zero => exact absurd HA.out (by simp [outriderlaw01_NumBezout.j0])
    | succ kj3 =>
      have H := HA.out
      clear HA
      simp only [outriderlaw01_NumBezout.j0] at H
      by_cases c8 : x30_3 = true
      · subst c8
        have H1 : (if t272 = 11 then (if t269 = 0 then (if t270 = 0 then (if t271 = 0 then ((outriderlaw01_alive.f kj3).bind fun t273 => (some t273)) else (some false)) else (some false)) else (some false)) else (some false)) = some r := by rw [if_pos rfl] at H; exact H
        clear H
        have H := H1
        clear H1
        by_cases c9 : t272 = 11
        · rw [if_pos c9] at H
          have c9b0 : (t272 == 11) = true := beq_iff_eq.mpr c9
          have c9b1 : (t272 != 11) = false := bne_eq_false_iff_eq.mpr c9
          clear c9
          by_cases c10 : t269 = 0
          · rw [if_pos c10] at H
            have c10b0 : (t269 == 0) = true := beq_iff_eq.mpr c10
            have c10b1 : (t269 != 0) = false := bne_eq_false_iff_eq.mpr c10
            clear c10
            by_cases c11 : t270 = 0
            · rw [if_pos c11] at H
              have c11b0 : (t270 == 0) = true := beq_iff_eq.mpr c11
              have c11b1 : (t270 != 0) = false := bne_eq_false_iff_eq.mpr c11
              clear c11
              by_cases c12 : t271 = 0
              · rw [if_pos c12] at H
                have c12b0 : (t271 == 0) = true := beq_iff_eq.mpr c12
                have c12b1 : (t271 != 0) = false := bne_eq_false_iff_eq.mpr c12
                clear c12
                replace H := Option.bind_eq_some_iff.mp H
                obtain ⟨t273, A130, H⟩ := H
                replace H : (some t273) = some r := H
                have A13 := Aside0.mk A130
                clear A130
                obtain rfl := Option.some.inj H
                go_wp2_with (first | (go_at_call 15; (with_reducible refine (outriderlaw01_alive.calls kj3  t273 _ A13.out).mono ?_); rintro e w14 ⟨rfl, hb⟩; have n0_ := Aside0.mk (below_step (by repeat (first | (with_reducible first | exact HB.out | apply below_alloc | apply pw_below_drewN | apply below_drew1) | exact HB.out)) hb); clear HB; have HB := n0_; clear n0_; (try clear hb); (try clear hb2); (try clear hk); (try clear hi)))
                go_ret
                exact ⟨by first | rfl | (simp [errW_none, errW_some] <;> rfl) | (simp [*, errW_none, errW_some] <;> rfl), by repeat (first | (with_reducible first | exact HB.out | apply below_alloc | apply pw_below_drewN | apply below_drew1) | exact HB.out)⟩
              · rw [if_neg c12] at H
                have c12b0 : (t271 == 0) = false := beq_eq_false_iff_ne.mpr c12
                have c12b1 : (t271 != 0) = true := bne_iff_ne.mpr c12
                obtain rfl := Option.some.inj H
                go_wp2
                go_ret
                exact ⟨by first | rfl | (simp [errW_none, errW_some] <;> rfl) | (simp [*, errW_none, errW_some] <;> rfl), by repeat (first | (with_reducible first | exact HB.out | apply below_alloc | apply pw_below_drewN | apply below_drew1) | exact HB.out)⟩
            · rw [if_neg c11] at H
              have c11b0 : (t270 == 0) = false := beq_eq_false_iff_ne.mpr c11
              have c11b1 : (t270 != 0) = true := bne_iff_ne.mpr c11
              obtain rfl := Option.some.inj H
              go_wp2
              go_ret
              exact ⟨by first | rfl | (simp [errW_none, errW_some] <;> rfl) | (simp [*, errW_none, errW_some] <;> rfl), by repeat (first | (with_reducible first | exact HB.out | apply below_alloc | apply pw_below_drewN | apply below_drew1) | exact HB.out)⟩
          · rw [if_neg c10] at H
            have c10b0 : (t269 == 0) = false := beq_eq_false_iff_ne.mpr c10
            have c10b1 : (t269 != 0) = true := bne_iff_ne.mpr c10
            obtain rfl := Option.some.inj H
            go_wp2
            go_ret
            exact ⟨by first | rfl | (simp [errW_none, errW_some] <;> rfl) | (simp [*, errW_none, errW_some] <;> rfl), by repeat (first | (with_reducible first | exact HB.out | apply below_alloc | apply pw_below_drewN | apply below_drew1) | exact HB.out)⟩
        · rw [if_neg c9] at H
          have c9b0 : (t272 == 11) = false := beq_eq_false_iff_ne.mpr c9
          have c9b1 : (t272 != 11) = true := bne_iff_ne.mpr c9
          obtain rfl := Option.some.inj H
          go_wp2
          go_ret
          exact ⟨by first | rfl | (simp [errW_none, errW_some] <;> rfl) | (simp [*, errW_none, errW_some] <;> rfl), by repeat (first | (with_reducible first | exact HB.out | apply below_alloc | apply pw_below_drewN | apply below_drew1) | exact HB.out)⟩
      · replace c8 := Bool.eq_false_iff.mpr c8
        subst c8
        have H1 : (if t272 = 0 then (if t271 < 0 then (outriderlaw01_NumBezout.j1 kj3 a0 a1 t269 t270 t271 true) else ((num_Gcd.f kj3 a0 a1).bind fun t274 => (if (IntKind.u64.wrap (t271)) = t274 then (if (wrap64 ((wrap64 (a0 * t269)) + (wrap64 (a1 * t270)))) = t271 then (if t271 = 0 then (if a0 = 0 then (outriderlaw01_NumBezout.j1 kj3 a0 a1 t269 t270 t271 (a1 != 0)) else (outriderlaw01_NumBezout.j1 kj3 a0 a1 t269 t270 t271 true)) else (outriderlaw01_NumBezout.j1 kj3 a0 a1 t269 t270 t271 false)) else (outriderlaw01_NumBezout.j1 kj3 a0 a1 t269 t270 t271 true)) else (outriderlaw01_NumBezout.j1 kj3 a0 a1 t269 t270 t271 true)))) else (outriderlaw01_NumBezout.j1 kj3 a0 a1 t269 t270 t271 true)) = some r := by rw [if_neg (show ¬ (false = true) by decide)] at H; exact H
        clear H
        have H := H1
        clear H1
        have HC15 := Aside0.mk H
        clear H
        go_upto_region 4 with (fail)
        go_cut [84] (fun v84 wc => ∃ (kq : Nat) (x84_14 : Bool), v84 = .bool x84_14 ∧ Aside0 (outriderlaw01_NumBezout.j1 kq a0 a1 t269 t270 t271 x84_14 = some r) ∧ Aside0 (kq ≤ kj3) ∧ Aside0 (Below w.heap.size w wc))
        case first =>
          have H := HC15.out
          clear HC15
          by_cases c16 : t272 = 0
          · rw [if_pos c16] at H
            have c16b0 : (t272 == 0) = true := beq_iff_eq.mpr c16
            have c16b1 : (t272 != 0) = false := bne_eq_false_iff_eq.mpr c16
            clear c16
            (first | rw [c16b0] | (simp only [i64_w, i32_w]; rw [c16b0]) | skip)
            by_cases c17 : t271 < 0
            · rw [if_pos c17] at H
              have c17b0 : decide (t271 < 0) = true := decide_eq_true c17
              clear c17
              have H' := Aside0.mk H
              clear H
              go_wp2
              go_meet
              case rel => exact ⟨_, (true), (by first | rfl | (simp; done) | (simp [*]; done)), H', ⟨by have := HJ3.out; first | omega | exact Nat.le_refl _⟩, ⟨by repeat (first | (with_reducible first | exact HB.out | apply below_alloc | apply pw_below_drewN | apply below_drew1) | exact HB.out)⟩⟩
            · rw [if_neg c17] at H
              have c17b0 : decide (t271 < 0) = false := decide_eq_false c17
              clear c17
              replace H := Option.bind_eq_some_iff.mp H
              obtain ⟨t274, A180, H⟩ := H
              replace H : (if (IntKind.u64.wrap (t271)) = t274 then (if (wrap64 ((wrap64 (a0 * t269)) + (wrap64 (a1 * t270)))) = t271 then (if t271 = 0 then (if a0 = 0 then (outriderlaw01_NumBezout.j1 kj3 a0 a1 t269 t270 t271 (a1 != 0)) else (outriderlaw01_NumBezout.j1 kj3 a0 a1 t269 t270 t271 true)) else (outriderlaw01_NumBezout.j1 kj3 a0 a1 t269 t270 t271 false)) else (outriderlaw01_NumBezout.j1 kj3 a0 a1 t269 t270 t271 true)) else (outriderlaw01_NumBezout.j1 kj3 a0 a1 t269 t270 t271 true)) = some r := H
              have A18 := Aside0.mk A180
              clear A180
              by_cases c19 : (IntKind.u64.wrap (t271)) = t274
              · rw [if_pos c19] at H
                have c19b0 : ((IntKind.u64.wrap (t271)) == t274) = true := beq_iff_eq.mpr c19
                have c19b1 : ((IntKind.u64.wrap (t271)) != t274) = false := bne_eq_false_iff_eq.mpr c19
                clear c19
                by_cases c20 : (wrap64 ((wrap64 (a0 * t269)) + (wrap64 (a1 * t270)))) = t271
                · rw [if_pos c20] at H
                  have c20b0 : ((wrap64 ((wrap64 (a0 * t269)) + (wrap64 (a1 * t270)))) == t271) = true := beq_iff_eq.mpr c20
                  have c20b1 : ((wrap64 ((wrap64 (a0 * t269)) + (wrap64 (a1 * t270)))) != t271) = false := bne_eq_false_iff_eq.mpr c20
                  clear c20
                  by_cases c21 : t271 = 0
                  · rw [if_pos c21] at H
                    have c21b0 : (t271 == 0) = true := beq_iff_eq.mpr c21
                    have c21b1 : (t271 != 0) = false := bne_eq_false_iff_eq.mpr c21
                    clear c21
                    by_cases c22 : a0 = 0
                    · rw [if_pos c22] at H
                      have c22b0 : (a0 == 0) = true := beq_iff_eq.mpr c22
                      have c22b1 : (a0 != 0) = false := bne_eq_false_iff_eq.mpr c22
                      clear c22
                      have H' := Aside0.mk H
                      clear H
                      go_wp2_with (first | (go_at_call 21; (with_reducible refine (num_Gcd.calls kj3 a0 a1 t274 _ A18.out).mono ?_); rintro e w' ⟨rfl, ⟨nd, rfl⟩⟩))
                      go_meet
                      case rel => exact ⟨_, ((a1 != 0)), (by first | rfl | (simp; done) | (simp [*]; done)), H', ⟨by have := HJ3.out; first | omega | exact Nat.le_refl _⟩, ⟨by repeat (first | (with_reducible first | exact HB.out | apply below_alloc | apply pw_below_drewN | apply below_drew1) | exact HB.out)⟩⟩
                    · rw [if_neg c22] at H
                      have c22b0 : (a0 == 0) = false := beq_eq_false_iff_ne.mpr c22
                      have c22b1 : (a0 != 0) = true := bne_iff_ne.mpr c22
                      have H' := Aside0.mk H
                      clear H
                      go_wp2_with (first | (go_at_call 21; (with_reducible refine (num_Gcd.calls kj3 a0 a1 t274 _ A18.out).mono ?_); rintro e w' ⟨rfl, ⟨nd, rfl⟩⟩))
                      go_meet
                      case rel => exact ⟨_, (true), (by first | rfl | (simp; done) | (simp [*]; done)), H', ⟨by have := HJ3.out; first | omega | exact Nat.le_refl _⟩, ⟨by repeat (first | (with_reducible first | exact HB.out | apply below_alloc | apply pw_below_drewN | apply below_drew1) | exact HB.out)⟩⟩
                  · rw [if_neg c21] at H
                    have c21b0 : (t271 == 0) = false := beq_eq_false_iff_ne.mpr c21
                    have c21b1 : (t271 != 0) = true := bne_iff_ne.mpr c21
                    have H' := Aside0.mk H
                    clear H
                    go_wp2_with (first | (go_at_call 21; (with_reducible refine (num_Gcd.calls kj3 a0 a1 t274 _ A18.out).mono ?_); rintro e w' ⟨rfl, ⟨nd, rfl⟩⟩))
                    go_meet
                    case rel => exact ⟨_, (false), (by first | rfl | (simp; done) | (simp [*]; done)), H', ⟨by have := HJ3.out; first | omega | exact Nat.le_refl _⟩, ⟨by repeat (first | (with_reducible first | exact HB.out | apply below_alloc | apply pw_below_drewN | apply below_drew1) | exact HB.out)⟩⟩
                · rw [if_neg c20] at H
                  have c20b0 : ((wrap64 ((wrap64 (a0 * t269)) + (wrap64 (a1 * t270)))) == t271) = false := beq_eq_false_iff_ne.mpr c20
                  have c20b1 : ((wrap64 ((wrap64 (a0 * t269)) + (wrap64 (a1 * t270)))) != t271) = true := bne_iff_ne.mpr c20
                  have H' := Aside0.mk H
                  clear H
                  go_wp2_with (first | (go_at_call 21; (with_reducible refine (num_Gcd.calls kj3 a0 a1 t274 _ A18.out).mono ?_); rintro e w' ⟨rfl, ⟨nd, rfl⟩⟩))
                  go_meet
                  case rel => exact ⟨_, (true), (by first | rfl | (simp; done) | (simp [*]; done)), H', ⟨by have := HJ3.out; first | omega | exact Nat.le_refl _⟩, ⟨by repeat (first | (with_reducible first | exact HB.out | apply below_alloc | apply pw_below_drewN | apply below_drew1) | exact HB.out)⟩⟩
              · rw [if_neg c19] at H
                have c19b0 : ((IntKind.u64.wrap (t271)) == t274) = false := beq_eq_false_iff_ne.mpr c19
                have c19b1 : ((IntKind.u64.wrap (t271)) != t274) = true := bne_iff_ne.mpr c19
                have H' := Aside0.mk H
                clear H
                go_wp2_with (first | (go_at_call 21; (with_reducible refine (num_Gcd.calls kj3 a0 a1 t274 _ A18.out).mono ?_); rintro e w' ⟨rfl, ⟨nd, rfl⟩⟩))
                go_meet
                case rel => exact ⟨_, (true), (by first | rfl | (simp; done) | (simp [*]; done)), H', ⟨by have := HJ3.out; first | omega | exact Nat.le_refl _⟩, ⟨by repeat (first | (with_reducible first | exact HB.out | apply below_alloc | apply pw_below_drewN | apply below_drew1) | exact HB.out)⟩⟩
          · rw [if_neg c16] at H
            have c16b0 : (t272 == 0) = false := beq_eq_false_iff_ne.mpr c16
            have c16b1 : (t272 != 0) = true := bne_iff_ne.mpr c16
            (first | rw [c16b0] | (simp only [i64_w, i32_w]; rw [c16b0]) | skip)
            have H' := Aside0.mk H
            clear H
            go_wp2
            go_meet
            case rel => exact ⟨_, (true), (by first | rfl | (simp; done) | (simp [*]; done)), H', ⟨by have := HJ3.out; first | omega | exact Nat.le_refl _⟩, ⟨by repeat (first | (with_reducible first | exact HB.out | apply below_alloc | apply pw_below_drewN | apply below_drew1) | exact HB.out)⟩⟩
        case rest =>
          clear HC15
          try clear c1
          try clear c2
          try clear p2
          try clear c5
          try clear c5b0
          try clear c6
          try clear c6b0
          try clear p6
          try clear c7
          try clear c7b0
          try clear c8
          try clear c9
          try clear c9b0
          try clear c9b1
          try clear c10
          try clear c10b0
          try clear c10b1
          try clear c11
          try clear c11b0
          try clear c11b1
          try clear c12
          try clear c12b0
          try clear c12b1
          try clear c16
          try clear c16b0
          try clear c16b1
          try clear c17
          try clear c17b0
          try clear c19
          try clear c19b0
          try clear c19b1
          try clear c20
          try clear c20b0
          try clear c20b1
          try clear c21
          try clear c21b0
          try clear c21b1
          try clear c22
          try clear c22b0
          try clear c22b1
          try clear p2
          obtain ⟨kq, x84_14, rfl, HA, HJ14, HB⟩ := hcut
          cases kq with
          | zero => exact absurd HA.out (by simp [outriderlaw01_NumBezout.j1])
          | succ kj14 =>
            have H := HA.out
            clear HA
            simp only [outriderlaw01_NumBezout.j1] at H
            by_cases c23 : x84_14 = true
            · subst c23
              have H1 : (some false) = some r := by rw [if_pos rfl] at H; exact H
              clear H
              have H := H1
              clear H1
              obtain rfl := Option.some.inj H
              go_wp2
              go_ret
              exact ⟨by first | rfl | (simp [errW_none, errW_some] <;> rfl) | (simp [*, errW_none, errW_some] <;> rfl), by repeat (first | (with_reducible first | exact HB.out | apply below_alloc | apply pw_below_drewN | apply below_drew1) | exact HB.out)⟩
            · replace c23 := Bool.eq_false_iff.mpr c23
              subst c23
              have H1 : (if a1 = 0 then (if t270 = 0 then (if t269 = 0 then (if a0 = 0 then ((outriderlaw01_alive.f kj14).bind fun t275 => (some t275)) else (if t269 = 1 then (if a0 > 0 then ((outriderlaw01_alive.f kj14).bind fun t276 => (some t276)) else (if t269 = (-1) then (if a0 < 0 then ((outriderlaw01_alive.f kj14).bind fun t277 => (some t277)) else (some false)) else (some false))) else (if t269 = (-1) then (if a0 < 0 then ((outriderlaw01_alive.f kj14).bind fun t278 => (some t278)) else (some false)) else (some false)))) else (if t269 = 1 then (if a0 > 0 then ((outriderlaw01_alive.f kj14).bind fun t279 => (some t279)) else (if t269 = (-1) then (if a0 < 0 then ((outriderlaw01_alive.f kj14).bind fun t280 => (some t280)) else (some false)) else (some false))) else (if t269 = (-1) then (if a0 < 0 then ((outriderlaw01_alive.f kj14).bind fun t281 => (some t281)) else (some false)) else (some false)))) else (some false)) else (if t269 ≥ 0 then ((outriderlaw01_size.f a1).bind fun t282 => (if (IntKind.u64.wrap (t271)) = 0 then (none) else (if (IntKind.u64.wrap (t269)) < (IntKind.u64.wrap (Int.tdiv t282 (IntKind.u64.wrap (t271)))) then ((outriderlaw01_alive.f kj14).bind fun t283 => (some t283)) else (some false)))) else (some false))) = some r := by rw [if_neg (show ¬ (false = true) by decide)] at H; exact H
              clear H
              have H := H1
              clear H1
              by_cases c24 : a1 = 0
              · rw [if_pos c24] at H
                have c24b0 : (a1 == 0) = true := beq_iff_eq.mpr c24
                have c24b1 : (a1 != 0) = false := bne_eq_false_iff_eq.mpr c24
                clear c24
                by_cases c25 : t270 = 0
                · rw [if_pos c25] at H
                  have c25b0 : (t270 == 0) = true := beq_iff_eq.mpr c25
                  have c25b1 : (t270 != 0) = false := bne_eq_false_iff_eq.mpr c25
                  clear c25
                  by_cases c26 : t269 = 0
                  · rw [if_pos c26] at H
                    have c26b0 : (t269 == 0) = true := beq_iff_eq.mpr c26
                    have c26b1 : (t269 != 0) = false := bne_eq_false_iff_eq.mpr c26
                    clear c26
                    by_cases c27 : a0 = 0
                    · rw [if_pos c27] at H
                      have c27b0 : (a0 == 0) = true := beq_iff_eq.mpr c27
                      have c27b1 : (a0 != 0) = false := bne_eq_false_iff_eq.mpr c27
                      clear c27
                      replace H := Option.bind_eq_some_iff.mp H
                      obtain ⟨t275, A280, H⟩ := H
                      replace H : (some t275) = some r := H
                      have A28 := Aside0.mk A280
                      clear A280
                      obtain rfl := Option.some.inj H
                      go_wp2_with (first | (go_at_call 15; (with_reducible refine (outriderlaw01_alive.calls kj14  t275 _ A28.out).mono ?_); rintro e w29 ⟨rfl, hb⟩; have n0_ := Aside0.mk (below_step (by repeat (first | (with_reducible first | exact HB.out | apply below_alloc | apply pw_below_drewN | apply below_drew1) | exact HB.out)) hb); clear HB; have HB := n0_; clear n0_; (try clear hb); (try clear hb2); (try clear hk); (try clear hi)))
                      go_ret
                      exact ⟨by first | rfl | (simp [errW_none, errW_some] <;> rfl) | (simp [*, errW_none, errW_some] <;> rfl), by repeat (first | (with_reducible first | exact HB.out | apply below_alloc | apply pw_below_drewN | apply below_drew1) | exact HB.out)⟩
                    · rw [if_neg c27] at H
                      have c27b0 : (a0 == 0) = false := beq_eq_false_iff_ne.mpr c27
                      have c27b1 : (a0 != 0) = true := bne_iff_ne.mpr c27
                      by_cases c30 : t269 = 1
                      · rw [if_pos c30] at H
                        have c30b0 : (t269 == 1) = true := beq_iff_eq.mpr c30
                        have c30b1 : (t269 != 1) = false := bne_eq_false_iff_eq.mpr c30
                        clear c30
                        by_cases c31 : a0 > 0
                        · rw [if_pos c31] at H
                          have c31b0 : decide (0 < a0) = true := decide_eq_true c31
                          clear c31
                          replace H := Option.bind_eq_some_iff.mp H
                          obtain ⟨t276, A320, H⟩ := H
                          replace H : (some t276) = some r := H
                          have A32 := Aside0.mk A320
                          clear A320
                          obtain rfl := Option.some.inj H
                          go_wp2_with (first | (go_at_call 15; (with_reducible refine (outriderlaw01_alive.calls kj14  t276 _ A32.out).mono ?_); rintro e w33 ⟨rfl, hb⟩; have n0_ := Aside0.mk (below_step (by repeat (first | (with_reducible first | exact HB.out | apply below_alloc | apply pw_below_drewN | apply below_drew1) | exact HB.out)) hb); clear HB; have HB := n0_; clear n0_; (try clear hb); (try clear hb2); (try clear hk); (try clear hi)))
                          go_ret
                          exact ⟨by first | rfl | (simp [errW_none, errW_some] <;> rfl) | (simp [*, errW_none, errW_some] <;> rfl), by repeat (first | (with_reducible first | exact HB.out | apply below_alloc | apply pw_below_drewN | apply below_drew1) | exact HB.out)⟩
                        · rw [if_neg c31] at H
                          have c31b0 : decide (0 < a0) = false := decide_eq_false c31
                          clear c31
                          by_cases c34 : t269 = (-1)
                          · rw [if_pos c34] at H
                            have c34b0 : (t269 == (-1)) = true := beq_iff_eq.mpr c34
                            have c34b1 : (t269 != (-1)) = false := bne_eq_false_iff_eq.mpr c34
                            clear c34
                            by_cases c35 : a0 < 0
                            · rw [if_pos c35] at H
                              have c35b0 : decide (a0 < 0) = true := decide_eq_true c35
                              clear c35
                              replace H := Option.bind_eq_some_iff.mp H
                              obtain ⟨t277, A360, H⟩ := H
                              replace H : (some t277) = some r := H
                              have A36 := Aside0.mk A360
                              clear A360
                              obtain rfl := Option.some.inj H
                              go_wp2_with (first | (go_at_call 15; (with_reducible refine (outriderlaw01_alive.calls kj14  t277 _ A36.out).mono ?_); rintro e w37 ⟨rfl, hb⟩; have n0_ := Aside0.mk (below_step (by repeat (first | (with_reducible first | exact HB.out | apply below_alloc | apply pw_below_drewN | apply below_drew1) | exact HB.out)) hb); clear HB; have HB := n0_; clear n0_; (try clear hb); (try clear hb2); (try clear hk); (try clear hi)))
                              go_ret
                              exact ⟨by first | rfl | (simp [errW_none, errW_some] <;> rfl) | (simp [*, errW_none, errW_some] <;> rfl), by repeat (first | (with_reducible first | exact HB.out | apply below_alloc | apply pw_below_drewN | apply below_drew1) | exact HB.out)⟩
                            · rw [if_neg c35] at H
                              have c35b0 : decide (a0 < 0) = false := decide_eq_false c35
                              clear c35
                              obtain rfl := Option.some.inj H
                              go_wp2
                              go_ret
                              exact ⟨by first | rfl | (simp [errW_none, errW_some] <;> rfl) | (simp [*, errW_none, errW_some] <;> rfl), by repeat (first | (with_reducible first | exact HB.out | apply below_alloc | apply pw_below_drewN | apply below_drew1) | exact HB.out)⟩
                          · rw [if_neg c34] at H
                            have c34b0 : (t269 == (-1)) = false := beq_eq_false_iff_ne.mpr c34
                            have c34b1 : (t269 != (-1)) = true := bne_iff_ne.mpr c34
                            obtain rfl := Option.some.inj H
                            go_wp2
                            go_ret
                            exact ⟨by first | rfl | (simp [errW_none, errW_some] <;> rfl) | (simp [*, errW_none, errW_some] <;> rfl), by repeat (first | (with_reducible first | exact HB.out | apply below_alloc | apply pw_below_drewN | apply below_drew1) | exact HB.out)⟩
                      · rw [if_neg c30] at H
                        have c30b0 : (t269 == 1) = false := beq_eq_false_iff_ne.mpr c30
                        have c30b1 : (t269 != 1) = true := bne_iff_ne.mpr c30
                        by_cases c38 : t269 = (-1)
                        · rw [if_pos c38] at H
                          have c38b0 : (t269 == (-1)) = true := beq_iff_eq.mpr c38
                          have c38b1 : (t269 != (-1)) = false := bne_eq_false_iff_eq.mpr c38
                          clear c38
                          by_cases c39 : a0 < 0
                          · rw [if_pos c39] at H
                            have c39b0 : decide (a0 < 0) = true := decide_eq_true c39
                            clear c39
                            replace H := Option.bind_eq_some_iff.mp H
                            obtain ⟨t278, A400, H⟩ := H
                            replace H : (some t278) = some r := H
                            have A40 := Aside0.mk A400
                            clear A400
                            obtain rfl := Option.some.inj H
                            go_wp2_with (first | (go_at_call 15; (with_reducible refine (outriderlaw01_alive.calls kj14  t278 _ A40.out).mono ?_); rintro e w41 ⟨rfl, hb⟩; have n0_ := Aside0.mk (below_step (by repeat (first | (with_reducible first | exact HB.out | apply below_alloc | apply pw_below_drewN | apply below_drew1) | exact HB.out)) hb); clear HB; have HB := n0_; clear n0_; (try clear hb); (try clear hb2); (try clear hk); (try clear hi)))
                            go_ret
                            exact ⟨by first | rfl | (simp [errW_none, errW_some] <;> rfl) | (simp [*, errW_none, errW_some] <;> rfl), by repeat (first | (with_reducible first | exact HB.out | apply below_alloc | apply pw_below_drewN | apply below_drew1) | exact HB.out)⟩
                          · rw [if_neg c39] at H
                            have c39b0 : decide (a0 < 0) = false := decide_eq_false c39
                            clear c39
                            obtain rfl := Option.some.inj H
                            go_wp2
                            go_ret
                            exact ⟨by first | rfl | (simp [errW_none, errW_some] <;> rfl) | (simp [*, errW_none, errW_some] <;> rfl), by repeat (first | (with_reducible first | exact HB.out | apply below_alloc | apply pw_below_drewN | apply below_drew1) | exact HB.out)⟩
                        · rw [if_neg c38] at H
                          have c38b0 : (t269 == (-1)) = false := beq_eq_false_iff_ne.mpr c38
                          have c38b1 : (t269 != (-1)) = true := bne_iff_ne.mpr c38
                          obtain rfl := Option.some.inj H
                          go_wp2
                          go_ret
                          exact ⟨by first | rfl | (simp [errW_none, errW_some] <;> rfl) | (simp [*, errW_none, errW_some] <;> rfl), by repeat (first | (with_reducible first | exact HB.out | apply below_alloc | apply pw_below_drewN | apply below_drew1) | exact HB.out)⟩
                  · rw [if_neg c26] at H
                    have c26b0 : (t269 == 0) = false := beq_eq_false_iff_ne.mpr c26
                    have c26b1 : (t269 != 0) = true := bne_iff_ne.mpr c26
                    by_cases c42 : t269 = 1
                    · rw [if_pos c42] at H
                      have c42b0 : (t269 == 1) = true := beq_iff_eq.mpr c42
                      have c42b1 : (t269 != 1) = false := bne_eq_false_iff_eq.mpr c42
                      clear c42
                      by_cases c43 : a0 > 0
                      · rw [if_pos c43] at H
                        have c43b0 : decide (0 < a0) = true := decide_eq_true c43
                        clear c43
                        replace H := Option.bind_eq_some_iff.mp H
                        obtain ⟨t279, A440, H⟩ := H
                        replace H : (some t279) = some r := H
                        have A44 := Aside0.mk A440
                        clear A440
                        obtain rfl := Option.some.inj H
                        go_wp2_with (first | (go_at_call 15; (with_reducible refine (outriderlaw01_alive.calls kj14  t279 _ A44.out).mono ?_); rintro e w45 ⟨rfl, hb⟩; have n0_ := Aside0.mk (below_step (by repeat (first | (with_reducible first | exact HB.out | apply below_alloc | apply pw_below_drewN | apply below_drew1) | exact HB.out)) hb); clear HB; have HB := n0_; clear n0_; (try clear hb); (try clear hb2); (try clear hk); (try clear hi)))
                        go_ret
                        exact ⟨by first | rfl | (simp [errW_none, errW_some] <;> rfl) | (simp [*, errW_none, errW_some] <;> rfl), by repeat (first | (with_reducible first | exact HB.out | apply below_alloc | apply pw_below_drewN | apply below_drew1) | exact HB.out)⟩
                      · rw [if_neg c43] at H
                        have c43b0 : decide (0 < a0) = false := decide_eq_false c43
                        clear c43
                        by_cases c46 : t269 = (-1)
                        · rw [if_pos c46] at H
                          have c46b0 : (t269 == (-1)) = true := beq_iff_eq.mpr c46
                          have c46b1 : (t269 != (-1)) = false := bne_eq_false_iff_eq.mpr c46
                          clear c46
                          by_cases c47 : a0 < 0
                          · rw [if_pos c47] at H
                            have c47b0 : decide (a0 < 0) = true := decide_eq_true c47
                            clear c47
                            replace H := Option.bind_eq_some_iff.mp H
                            obtain ⟨t280, A480, H⟩ := H
                            replace H : (some t280) = some r := H
                            have A48 := Aside0.mk A480
                            clear A480
                            obtain rfl := Option.some.inj H
                            go_wp2_with (first | (go_at_call 15; (with_reducible refine (outriderlaw01_alive.calls kj14  t280 _ A48.out).mono ?_); rintro e w49 ⟨rfl, hb⟩; have n0_ := Aside0.mk (below_step (by repeat (first | (with_reducible first | exact HB.out | apply below_alloc | apply pw_below_drewN | apply below_drew1) | exact HB.out)) hb); clear HB; have HB := n0_; clear n0_; (try clear hb); (try clear hb2); (try clear hk); (try clear hi)))
                            go_ret
                            exact ⟨by first | rfl | (simp [errW_none, errW_some] <;> rfl) | (simp [*, errW_none, errW_some] <;> rfl), by repeat (first | (with_reducible first | exact HB.out | apply below_alloc | apply pw_below_drewN | apply below_drew1) | exact HB.out)⟩
                          · rw [if_neg c47] at H
                            have c47b0 : decide (a0 < 0) = false := decide_eq_false c47
                            clear c47
                            obtain rfl := Option.some.inj H
                            go_wp2
                            go_ret
                            exact ⟨by first | rfl | (simp [errW_none, errW_some] <;> rfl) | (simp [*, errW_none, errW_some] <;> rfl), by repeat (first | (with_reducible first | exact HB.out | apply below_alloc | apply pw_below_drewN | apply below_drew1) | exact HB.out)⟩
                        · rw [if_neg c46] at H
                          have c46b0 : (t269 == (-1)) = false := beq_eq_false_iff_ne.mpr c46
                          have c46b1 : (t269 != (-1)) = true := bne_iff_ne.mpr c46
                          obtain rfl := Option.some.inj H
                          go_wp2
                          go_ret
                          exact ⟨by first | rfl | (simp [errW_none, errW_some] <;> rfl) | (simp [*, errW_none, errW_some] <;> rfl), by repeat (first | (with_reducible first | exact HB.out | apply below_alloc | apply pw_below_drewN | apply below_drew1) | exact HB.out)⟩
                    · rw [if_neg c42] at H
                      have c42b0 : (t269 == 1) = false := beq_eq_false_iff_ne.mpr c42
                      have c42b1 : (t269 != 1) = true := bne_iff_ne.mpr c42
                      by_cases c50 : t269 = (-1)
                      · rw [if_pos c50] at H
                        have c50b0 : (t269 == (-1)) = true := beq_iff_eq.mpr c50
                        have c50b1 : (t269 != (-1)) = false := bne_eq_false_iff_eq.mpr c50
                        clear c50
                        by_cases c51 : a0 < 0
                        · rw [if_pos c51] at H
                          have c51b0 : decide (a0 < 0) = true := decide_eq_true c51
                          clear c51
                          replace H := Option.bind_eq_some_iff.mp H
                          obtain ⟨t281, A520, H⟩ := H
                          replace H : (some t281) = some r := H
                          have A52 := Aside0.mk A520
                          clear A520
                          obtain rfl := Option.some.inj H
                          go_wp2_with (first | (go_at_call 15; (with_reducible refine (outriderlaw01_alive.calls kj14  t281 _ A52.out).mono ?_); rintro e w53 ⟨rfl, hb⟩; have n0_ := Aside0.mk (below_step (by repeat (first | (with_reducible first | exact HB.out | apply below_alloc | apply pw_below_drewN | apply below_drew1) | exact HB.out)) hb); clear HB; have HB := n0_; clear n0_; (try clear hb); (try clear hb2); (try clear hk); (try clear hi)))
                          go_ret
                          exact ⟨by first | rfl | (simp [errW_none, errW_some] <;> rfl) | (simp [*, errW_none, errW_some] <;> rfl), by repeat (first | (with_reducible first | exact HB.out | apply below_alloc | apply pw_below_drewN | apply below_drew1) | exact HB.out)⟩
                        · rw [if_neg c51] at H
                          have c51b0 : decide (a0 < 0) = false := decide_eq_false c51
                          clear c51
                          obtain rfl := Option.some.inj H
                          go_wp2
                          go_ret
                          exact ⟨by first | rfl | (simp [errW_none, errW_some] <;> rfl) | (simp [*, errW_none, errW_some] <;> rfl), by repeat (first | (with_reducible first | exact HB.out | apply below_alloc | apply pw_below_drewN | apply below_drew1) | exact HB.out)⟩
                      · rw [if_neg c50] at H
                        have c50b0 : (t269 == (-1)) = false := beq_eq_false_iff_ne.mpr c50
                        have c50b1 : (t269 != (-1)) = true := bne_iff_ne.mpr c50
                        obtain rfl := Option.some.inj H
                        go_wp2
                        go_ret
                        exact ⟨by first | rfl | (simp [errW_none, errW_some] <;> rfl) | (simp [*, errW_none, errW_some] <;> rfl), by repeat (first | (with_reducible first | exact HB.out | apply below_alloc | apply pw_below_drewN | apply below_drew1) | exact HB.out)⟩
                · rw [if_neg c25] at H
                  have c25b0 : (t270 == 0) = false := beq_eq_false_iff_ne.mpr c25
                  have c25b1 : (t270 != 0) = true := bne_iff_ne.mpr c25
                  obtain rfl := Option.some.inj H
                  go_wp2
                  go_ret
                  exact ⟨by first | rfl | (simp [errW_none, errW_some] <;> rfl) | (simp [*, errW_none, errW_some] <;> rfl), by repeat (first | (with_reducible first | exact HB.out | apply below_alloc | apply pw_below_drewN | apply below_drew1) | exact HB.out)⟩
              · rw [if_neg c24] at H
                have c24b0 : (a1 == 0) = false := beq_eq_false_iff_ne.mpr c24
                have c24b1 : (a1 != 0) = true := bne_iff_ne.mpr c24
                by_cases c54 : t269 ≥ 0
                · rw [if_pos c54] at H
                  have c54b0 : decide (0 ≤ t269) = true := decide_eq_true c54
                  clear c54
                  replace H := Option.bind_eq_some_iff.mp H
                  obtain ⟨t282, A550, H⟩ := H
                  replace H : (if (IntKind.u64.wrap (t271)) = 0 then (none) else (if (IntKind.u64.wrap (t269)) < (IntKind.u64.wrap (Int.tdiv t282 (IntKind.u64.wrap (t271)))) then ((outriderlaw01_alive.f kj14).bind fun t283 => (some t283)) else (some false))) = some r := H
                  have A55 := Aside0.mk A550
                  clear A550
                  by_cases c56 : (IntKind.u64.wrap (t271)) = 0
                  · rw [if_pos c56] at H
                    exact absurd H (by simp)
                  · rw [if_neg c56] at H
                    have c56b0 : ((IntKind.u64.wrap (t271)) == 0) = false := beq_eq_false_iff_ne.mpr c56
                    have c56b1 : ((IntKind.u64.wrap (t271)) != 0) = true := bne_iff_ne.mpr c56
                    by_cases c57 : (IntKind.u64.wrap (t269)) < (IntKind.u64.wrap (Int.tdiv t282 (IntKind.u64.wrap (t271))))
                    · rw [if_pos c57] at H
                      have c57b0 : decide ((IntKind.u64.wrap (t269)) < (IntKind.u64.wrap (Int.tdiv t282 (IntKind.u64.wrap (t271))))) = true := decide_eq_true c57
                      clear c57
                      replace H := Option.bind_eq_some_iff.mp H
                      obtain ⟨t283, A580, H⟩ := H
                      replace H : (some t283) = some r := H
                      have A58 := Aside0.mk A580
                      clear A580
                      obtain rfl := Option.some.inj H
                      go_wp2_with (first | (go_at_call 23; (with_reducible refine (outriderlaw01_size.calls a1 t282 _ A55.out).mono ?_); rintro e w' ⟨rfl, ⟨nd, rfl⟩⟩) | (go_at_call 15; (with_reducible refine (outriderlaw01_alive.calls kj14  t283 _ A58.out).mono ?_); rintro e w59 ⟨rfl, hb⟩; have n0_ := Aside0.mk (below_step (by repeat (first | (with_reducible first | exact HB.out | apply below_alloc | apply pw_below_drewN | apply below_drew1) | exact HB.out)) hb); clear HB; have HB := n0_; clear n0_; (try clear hb); (try clear hb2); (try clear hk); (try clear hi)))
                      go_ret
                      exact ⟨by first | rfl | (simp [errW_none, errW_some] <;> rfl) | (simp [*, errW_none, errW_some] <;> rfl), by repeat (first | (with_reducible first | exact HB.out | apply below_alloc | apply pw_below_drewN | apply below_drew1) | exact HB.out)⟩
                    · rw [if_neg c57] at H
                      have c57b0 : decide ((IntKind.u64.wrap (t269)) < (IntKind.u64.wrap (Int.tdiv t282 (IntKind.u64.wrap (t271))))) = false := decide_eq_false c57
                      clear c57
                      obtain rfl := Option.some.inj H
                      go_wp2_with (first | (go_at_call 23; (with_reducible refine (outriderlaw01_size.calls a1 t282 _ A55.out).mono ?_); rintro e w' ⟨rfl, ⟨nd, rfl⟩⟩))
                      go_ret
                      exact ⟨by first | rfl | (simp [errW_none, errW_some] <;> rfl) | (simp [*, errW_none, errW_some] <;> rfl), by repeat (first | (with_reducible first | exact HB.out | apply below_alloc | apply pw_below_drewN | apply below_drew1) | exact HB.out)⟩
                · rw [if_neg c54] at H
                  have c54b0 : decide (0 ≤ t269) = false := decide_eq_false c54
                  clear c54
                  obtain rfl := Option.some.inj H
                  go_wp2
                  go_ret
                  exact ⟨by first | rfl | (simp [errW_none, errW_some] <;> rfl) | (simp [*, errW_none, errW_some] <;> rfl), by repeat (first | (with_reducible first | exact HB.out | apply below_alloc | apply pw_below_drewN | apply below_drew1) | exact HB.out)⟩

/-- THE ONE PURE STATEMENT of outriderlaw01_NumBezout: yours. -/
def outriderlaw01_NumBezout.Pure : Prop := ∀ (a0 : Int) (a1 : Int), (Lit.int .i64 a0).wf = true → (Lit.int .i64 a1).wf = true → ∃ k, outriderlaw01_NumBezout.f k a0 a1 = some true
theorem outriderlaw01_NumBezout.walk (P : outriderlaw01_NumBezout.Pure) (a0 : Int) (a1 : Int) (w : World) (w0 : (Lit.int .i64 a0).wf = true) (w1 : (Lit.int .i64 a1).wf = true) :
    Calls Try.prog 12 #[.int .i64 a0, .int .i64 a1] w fun e w' => e = .returned (.bool true) ∧ Below w.heap.size w w' := by
  obtain ⟨k, h⟩ := P a0 a1 w0 w1
  refine (outriderlaw01_NumBezout.calls k a0 a1 true w h).mono ?_
  rintro e w' ⟨rfl, hd⟩
  exact ⟨rfl, hd⟩

end Go.Proofs.Ytnpkaoogifjofaa.PNum
