-- written by wip/tools/myprint.py
import Derived.Test.YtnpkaoogifjofaaPNumx0
import Derived.Test.YtnpkaoogifjofaaPNumx11
import Derived.Test.YtnpkaoogifjofaaPNumx17
import Derived.Test.YtnpkaoogifjofaaPNumx18
import Derived.Test.YtnpkaoogifjofaaPNumx19
namespace Go.Proofs.Ytnpkaoogifjofaa.PNum
open Go.RowKit Go.Proofs.YtnpkaoogifjofaaW.PrintWords Go.Proofs.YtnpkaoogifjofaaW.PrintLast Go.Proofs.YtnpkaoogifjofaaW.PrintMore
attribute [local go_sem] max2_int min2_int max_two min_two max_three min_three max_four min_four   -- for this text's walks alone
set_option linter.unusedVariables false
set_option linter.unusedSimpArgs false

/-! ### outriderlaw01_NumGcd: function 8 -/
def outriderlaw01_NumGcd.j0 : Nat → Int → Int → Int → Bool → Option (Bool)
  | 0, _, _, _, _ => none
  | k + 1, x0, x1, x5, x28 => if x28 = true then (some false) else (if x5 = 0 then (if x0 = 0 then (if x1 = 0 then ((outriderlaw01_alive.f k).bind fun t223 => (some t223)) else (some false)) else (some false)) else ((outriderlaw01_size.f x0).bind fun t224 => (if (Int.tmod t224 x5) = 0 then ((outriderlaw01_size.f x1).bind fun t225 => (if (Int.tmod t225 x5) = 0 then ((outriderlaw01_alive.f k).bind fun t226 => (some t226)) else (some false))) else (some false))))
def outriderlaw01_NumGcd.f (k : Nat) (a0 : Int) (a1 : Int) : Option (Bool) := (num_Gcd.f k a0 a1).bind fun t219 => ((outriderref01_Gcd.f k a0 a1).bind fun t220 => (if t219 = t220 then ((num_Gcd.f k a1 a0).bind fun t221 => (if t219 = t221 then ((num_Gcd.f k (wrap64 (-a0)) a1).bind fun t222 => (outriderlaw01_NumGcd.j0 k a0 a1 t219 (t219 != t222))) else (outriderlaw01_NumGcd.j0 k a0 a1 t219 true))) else (outriderlaw01_NumGcd.j0 k a0 a1 t219 true)))
theorem outriderlaw01_NumGcd.mono_l : ∀ k, (∀ y0 y1 y2 y3, LeO (outriderlaw01_NumGcd.j0 k y0 y1 y2 y3) (outriderlaw01_NumGcd.j0 (k + 1) y0 y1 y2 y3))
  | 0 => fun _ _ _ _ r h => by simp [outriderlaw01_NumGcd.j0] at h
  | k + 1 => by
    have ih0 := outriderlaw01_NumGcd.mono_l k
    · intro y0 y1 y2 y3
      unfold outriderlaw01_NumGcd.j0
      repeat' first
      | (with_reducible exact ih0 _ _ _ _)
      | (with_reducible exact num_Gcd.mono _ _ _)
      | (with_reducible exact outriderlaw01_alive.mono _)
      | (with_reducible exact outriderref01_Gcd.mono _ _ _)
      | (with_reducible exact LeO.refl _)
      | (with_reducible exact LeO.none _)
      | (with_reducible refine LeO.ite ?_ ?_)
      | (with_reducible refine LeO.bind ?_ (fun _ => ?_))
      | exact ih0 _ _ _ _
      | exact num_Gcd.mono _ _ _
      | exact outriderlaw01_alive.mono _
      | exact outriderref01_Gcd.mono _ _ _
      | exact LeO.none _
      | refine LeO.ite ?_ ?_
      | refine LeO.bind ?_ (fun _ => ?_)
theorem outriderlaw01_NumGcd.mono : ∀ a0 a1 k, LeO (outriderlaw01_NumGcd.f k a0 a1) (outriderlaw01_NumGcd.f (k + 1) a0 a1) := by
  intro a0 a1 k
  have ih0 := outriderlaw01_NumGcd.mono_l k
  unfold outriderlaw01_NumGcd.f
  repeat' first
      | (with_reducible exact ih0 _ _ _ _)
      | (with_reducible exact num_Gcd.mono _ _ _)
      | (with_reducible exact outriderlaw01_alive.mono _)
      | (with_reducible exact outriderref01_Gcd.mono _ _ _)
      | (with_reducible exact LeO.refl _)
      | (with_reducible exact LeO.none _)
      | (with_reducible refine LeO.ite ?_ ?_)
      | (with_reducible refine LeO.bind ?_ (fun _ => ?_))
      | exact ih0 _ _ _ _
      | exact num_Gcd.mono _ _ _
      | exact outriderlaw01_alive.mono _
      | exact outriderref01_Gcd.mono _ _ _
      | exact LeO.none _
      | refine LeO.ite ?_ ?_
      | refine LeO.bind ?_ (fun _ => ?_)
set_option maxHeartbeats 8000000 in
set_option maxRecDepth 100000 in
theorem outriderlaw01_NumGcd.calls (k : Nat) (a0 : Int) (a1 : Int) (r : Bool) (w : World) (h : outriderlaw01_NumGcd.f k a0 a1 = some r) :
    Calls Try.prog 8 #[.int .i64 a0, .int .i64 a1] w fun e w' => e = .returned (.bool r) ∧ Below w.heap.size w w' := by
  have HB := Aside0.mk (Below.refl w.heap.size w)
  have H : ((num_Gcd.f k a0 a1).bind fun t219 => ((outriderref01_Gcd.f k a0 a1).bind fun t220 => (if t219 = t220 then ((num_Gcd.f k a1 a0).bind fun t221 => (if t219 = t221 then ((num_Gcd.f k (wrap64 (-a0)) a1).bind fun t222 => (outriderlaw01_NumGcd.j0 k a0 a1 t219 (t219 != t222))) else (outriderlaw01_NumGcd.j0 k a0 a1 t219 true))) else (outriderlaw01_NumGcd.j0 k a0 a1 t219 true)))) = some r := h
  clear h
  replace H := Option.bind_eq_some_iff.mp H
  obtain ⟨t219, A30, H⟩ := H
  replace H : ((outriderref01_Gcd.f k a0 a1).bind fun t220 => (if t219 = t220 then ((num_Gcd.f k a1 a0).bind fun t221 => (if t219 = t221 then ((num_Gcd.f k (wrap64 (-a0)) a1).bind fun t222 => (outriderlaw01_NumGcd.j0 k a0 a1 t219 (t219 != t222))) else (outriderlaw01_NumGcd.j0 k a0 a1 t219 true))) else (outriderlaw01_NumGcd.j0 k a0 a1 t219 true))) = some r := H
  have A3 := Aside0.mk A30
  clear A30
  have HC4 := Aside0.mk H
  clear H
  go_enter Try.func8, Try.ntmps8
  go_upto_region 2 with (first | ((with_reducible refine gate_callee (f := 21) rfl ?_); refine goesL_ (some 8) rfl rfl Try.func21 (by kernel_rfl) rfl #[.int .i64 a0, .int .i64 a1] rfl (by (try simp only [List.map_toArray, List.map_cons, List.map_nil]); first | done | rfl | (simp only [List.length_drop, List.length_take]; rfl)) ?_; (with_reducible refine (num_Gcd.calls k a0 a1 t219 _ A3.out).mono ?_); rintro e w' ⟨rfl, ⟨nd, rfl⟩⟩; refine ⟨_, rfl, ?_⟩))
  (try simp only [Act.put, List.setIfInBounds_toArray, List.set_cons_zero, List.set_cons_succ])
  go_cut [28] (fun v28 wc => ∃ (kq : Nat) (x28_3 : Bool), v28 = .bool x28_3 ∧ Aside0 (outriderlaw01_NumGcd.j0 kq a0 a1 t219 x28_3 = some r) ∧ Aside0 (kq ≤ k) ∧ Aside0 (Below w.heap.size w wc))
  case first =>
    have H := HC4.out
    clear HC4
    replace H := Option.bind_eq_some_iff.mp H
    obtain ⟨t220, A50, H⟩ := H
    replace H : (if t219 = t220 then ((num_Gcd.f k a1 a0).bind fun t221 => (if t219 = t221 then ((num_Gcd.f k (wrap64 (-a0)) a1).bind fun t222 => (outriderlaw01_NumGcd.j0 k a0 a1 t219 (t219 != t222))) else (outriderlaw01_NumGcd.j0 k a0 a1 t219 true))) else (outriderlaw01_NumGcd.j0 k a0 a1 t219 true)) = some r := H
    have A5 := Aside0.mk A50
    clear A50
    by_cases c6 : t219 = t220
    · rw [if_pos c6] at H
      have c6b0 : (t219 == t220) = true := beq_iff_eq.mpr c6
      have c6b1 : (t219 != t220) = false := bne_eq_false_iff_eq.mpr c6
      clear c6
      (first | rw [c6b0] | (simp only [i64_w, i32_w]; rw [c6b0]) | skip)
      replace H := Option.bind_eq_some_iff.mp H
      obtain ⟨t221, A70, H⟩ := H
      replace H : (if t219 = t221 then ((num_Gcd.f k (wrap64 (-a0)) a1).bind fun t222 => (outriderlaw01_NumGcd.j0 k a0 a1 t219 (t219 != t222))) else (outriderlaw01_NumGcd.j0 k a0 a1 t219 true)) = some r := H
      have A7 := Aside0.mk A70
      clear A70
      by_cases c8 : t219 = t221
      · rw [if_pos c8] at H
        have c8b0 : (t219 == t221) = true := beq_iff_eq.mpr c8
        have c8b1 : (t219 != t221) = false := bne_eq_false_iff_eq.mpr c8
        clear c8
        replace H := Option.bind_eq_some_iff.mp H
        obtain ⟨t222, A90, H⟩ := H
        replace H : (outriderlaw01_NumGcd.j0 k a0 a1 t219 (t219 != t222)) = some r := H
        have A9 := Aside0.mk A90
        clear A90
        have H' := Aside0.mk H
        clear H
        go_wp2_with (first | ((with_reducible refine gate_callee (f := 22) rfl ?_); refine goesL_ (some 12) rfl rfl Try.func22 (by kernel_rfl) rfl #[.int .i64 a0, .int .i64 a1] rfl (by (try simp only [List.map_toArray, List.map_cons, List.map_nil]); first | done | rfl | (simp only [List.length_drop, List.length_take]; rfl)) ?_; (with_reducible refine (outriderref01_Gcd.calls k a0 a1 t220 _ A5.out).mono ?_); rintro e w' ⟨rfl, ⟨nd, rfl⟩⟩; refine ⟨_, rfl, ?_⟩) | (go_at_call 21; (with_reducible refine (num_Gcd.calls k a1 a0 t221 _ A7.out).mono ?_); rintro e w' ⟨rfl, ⟨nd, rfl⟩⟩) | (go_at_call 21; (with_reducible refine (num_Gcd.calls k (wrap64 (-a0)) a1 t222 _ A9.out).mono ?_); rintro e w' ⟨rfl, ⟨nd, rfl⟩⟩))
        go_meet
        case rel => exact ⟨_, ((t219 != t222)), (by first | rfl | (simp; done) | (simp [*]; done)), H', ⟨by first | omega | exact Nat.le_refl _⟩, ⟨by repeat (first | (with_reducible first | exact HB.out | apply below_alloc | apply pw_below_drewN | apply below_drew1) | exact HB.out)⟩⟩
      · rw [if_neg c8] at H
        have c8b0 : (t219 == t221) = false := beq_eq_false_iff_ne.mpr c8
        have c8b1 : (t219 != t221) = true := bne_iff_ne.mpr c8
        have H' := Aside0.mk H
        clear H
        go_wp2_with (first | ((with_reducible refine gate_callee (f := 22) rfl ?_); refine goesL_ (some 12) rfl rfl Try.func22 (by kernel_rfl) rfl #[.int .i64 a0, .int .i64 a1] rfl (by (try simp only [List.map_toArray, List.map_cons, List.map_nil]); first | done | rfl | (simp only [List.length_drop, List.length_take]; rfl)) ?_; (with_reducible refine (outriderref01_Gcd.calls k a0 a1 t220 _ A5.out).mono ?_); rintro e w' ⟨rfl, ⟨nd, rfl⟩⟩; refine ⟨_, rfl, ?_⟩) | (go_at_call 21; (with_reducible refine (num_Gcd.calls k a1 a0 t221 _ A7.out).mono ?_); rintro e w' ⟨rfl, ⟨nd, rfl⟩⟩))
        go_meet
        case rel => exact ⟨_, (true), (by first | rfl | (simp; done) | (simp [*]; done)), H', ⟨by first | omega | exact Nat.le_refl _⟩, ⟨by repeat (first | (with_reducible first | exact HB.out | apply below_alloc | apply pw_below_drewN | apply below_drew1) | exact HB.out)⟩⟩
    · rw [if_neg c6] at H
      have c6b0 : (t219 == t220) = false := beq_eq_false_iff_ne.mpr c6
      have c6b1 : (t219 != t220) = true := bne_iff_ne.mpr c6
      (first | rw [c6b0] | (simp only [i64_w, i32_w]; rw [c6b0]) | skip)
      have H' := Aside0.mk H
      clear H
      go_wp2_with (first | ((with_reducible refine gate_callee (f := 22) rfl ?_); refine goesL_ (some 12) rfl rfl Try.func22 (by kernel_rfl) rfl #[.int .i64 a0, .int .i64 a1] rfl (by (try simp only [List.map_toArray, List.map_cons, List.map_nil]); first | done | rfl | (simp only [List.length_drop, List.length_take]; rfl)) ?_; (with_reducible refine (outriderref01_Gcd.calls k a0 a1 t220 _ A5.out).mono ?_); rintro e w' ⟨rfl, ⟨nd, rfl⟩⟩; refine ⟨_, rfl, ?_⟩))
      go_meet
      case rel => exact ⟨_, (true), (by first | rfl | (simp; done) | (simp [*]; done)), H', ⟨by first | omega | exact Nat.le_refl _⟩, ⟨by repeat (first | (with_reducible first | exact HB.out | apply below_alloc | apply pw_below_drewN | apply below_drew1) | exact HB.out)⟩⟩
  case rest =>
    clear HC4
    try clear c2
    try clear p2
    try clear c6
    try clear c6b0
    try clear c6b1
    try clear p6
    try clear c8
    try clear c8b0
    try clear c8b1
    obtain ⟨kq, x28_3, rfl, HA, HJ3, HB⟩ := hcut
    cases kq with
    | zero => exact absurd HA.out (by simp [outriderlaw01_NumGcd.j0])
    | succ kj3 =>
      have H := HA.out
      clear HA
      simp only [outriderlaw01_NumGcd.j0] at H
      by_cases c10 : x28_3 = true
      · subst c10
        have H1 : (some false) = some r := by rw [if_pos rfl] at H; exact H
        clear H
        have H := H1
        clear H1
        obtain rfl := Option.some.inj H
        go_wp2
        go_ret
        exact ⟨by first | rfl | (simp [errW_none, errW_some] <;> rfl) | (simp [*, errW_none, errW_some] <;> rfl), by repeat (first | (with_reducible first | exact HB.out | apply below_alloc | apply pw_below_drewN | apply below_drew1) | exact HB.out)⟩
      · replace c10 := Bool.eq_false_iff.mpr c10
        subst c10
        have H1 : (if t219 = 0 then (if a0 = 0 then (if a1 = 0 then ((outriderlaw01_alive.f kj3).bind fun t223 => (some t223)) else (some false)) else (some false)) else ((outriderlaw01_size.f a0).bind fun t224 => (if (Int.tmod t224 t219) = 0 then ((outriderlaw01_size.f a1).bind fun t225 => (if (Int.tmod t225 t219) = 0 then ((outriderlaw01_alive.f kj3).bind fun t226 => (some t226)) else (some false))) else (some false)))) = some r := by rw [if_neg (show ¬ (false = true) by decide)] at H; exact H
        clear H
        have H := H1
        clear H1
        by_cases c11 : t219 = 0
        · rw [if_pos c11] at H
          have c11b0 : (t219 == 0) = true := beq_iff_eq.mpr c11
          have c11b1 : (t219 != 0) = false := bne_eq_false_iff_eq.mpr c11
          clear c11
          by_cases c12 : a0 = 0
          · rw [if_pos c12] at H
            have c12b0 : (a0 == 0) = true := beq_iff_eq.mpr c12
            have c12b1 : (a0 != 0) = false := bne_eq_false_iff_eq.mpr c12
            clear c12
            by_cases c13 : a1 = 0
            · rw [if_pos c13] at H
              have c13b0 : (a1 == 0) = true := beq_iff_eq.mpr c13
              have c13b1 : (a1 != 0) = false := bne_eq_false_iff_eq.mpr c13
              clear c13
              replace H := Option.bind_eq_some_iff.mp H
              obtain ⟨t223, A140, H⟩ := H
              replace H : (some t223) = some r := H
              have A14 := Aside0.mk A140
              clear A140
              obtain rfl := Option.some.inj H
              go_wp2_with (first | (go_at_call 15; (with_reducible refine (outriderlaw01_alive.calls kj3  t223 _ A14.out).mono ?_); rintro e w15 ⟨rfl, hb⟩; have n0_ := Aside0.mk (below_step (by repeat (first | (with_reducible first | exact HB.out | apply below_alloc | apply pw_below_drewN | apply below_drew1) | exact HB.out)) hb); clear HB; have HB := n0_; clear n0_; (try clear hb); (try clear hb2); (try clear hk); (try clear hi)))
              go_ret
              exact ⟨by first | rfl | (simp [errW_none, errW_some] <;> rfl) | (simp [*, errW_none, errW_some] <;> rfl), by repeat (first | (with_reducible first | exact HB.out | apply below_alloc | apply pw_below_drewN | apply below_drew1) | exact HB.out)⟩
            · rw [if_neg c13] at H
              have c13b0 : (a1 == 0) = false := beq_eq_false_iff_ne.mpr c13
              have c13b1 : (a1 != 0) = true := bne_iff_ne.mpr c13
              obtain rfl := Option.some.inj H
              go_wp2
              go_ret
              exact ⟨by first | rfl | (simp [errW_none, errW_some] <;> rfl) | (simp [*, errW_none, errW_some] <;> rfl), by repeat (first | (with_reducible first | exact HB.out | apply below_alloc | apply pw_below_drewN | apply below_drew1) | exact HB.out)⟩
          · rw [if_neg c12] at H
            have c12b0 : (a0 == 0) = false := beq_eq_false_iff_ne.mpr c12
            have c12b1 : (a0 != 0) = true := bne_iff_ne.mpr c12
            obtain rfl := Option.some.inj H
            go_wp2
            go_ret
            exact ⟨by first | rfl | (simp [errW_none, errW_some] <;> rfl) | (simp [*, errW_none, errW_some] <;> rfl), by repeat (first | (with_reducible first | exact HB.out | apply below_alloc | apply pw_below_drewN | apply below_drew1) | exact HB.out)⟩
        · rw [if_neg c11] at H
          have c11b0 : (t219 == 0) = false := beq_eq_false_iff_ne.mpr c11
          have c11b1 : (t219 != 0) = true := bne_iff_ne.mpr c11
          replace H := Option.bind_eq_some_iff.mp H
          obtain ⟨t224, A160, H⟩ := H
          replace H : (if (Int.tmod t224 t219) = 0 then ((outriderlaw01_size.f a1).bind fun t225 => (if (Int.tmod t225 t219) = 0 then ((outriderlaw01_alive.f kj3).bind fun t226 => (some t226)) else (some false))) else (some false)) = some r := H
          have A16 := Aside0.mk A160
          clear A160
          by_cases c17 : (Int.tmod t224 t219) = 0
          · rw [if_pos c17] at H
            have c17b0 : ((Int.tmod t224 t219) == 0) = true := beq_iff_eq.mpr c17
            have c17b1 : ((Int.tmod t224 t219) != 0) = false := bne_eq_false_iff_eq.mpr c17
            clear c17
            replace H := Option.bind_eq_some_iff.mp H
            obtain ⟨t225, A180, H⟩ := H
            replace H : (if (Int.tmod t225 t219) = 0 then ((outriderlaw01_alive.f kj3).bind fun t226 => (some t226)) else (some false)) = some r := H
            have A18 := Aside0.mk A180
            clear A180
            by_cases c19 : (Int.tmod t225 t219) = 0
            · rw [if_pos c19] at H
              have c19b0 : ((Int.tmod t225 t219) == 0) = true := beq_iff_eq.mpr c19
              have c19b1 : ((Int.tmod t225 t219) != 0) = false := bne_eq_false_iff_eq.mpr c19
              clear c19
              replace H := Option.bind_eq_some_iff.mp H
              obtain ⟨t226, A200, H⟩ := H
              replace H : (some t226) = some r := H
              have A20 := Aside0.mk A200
              clear A200
              obtain rfl := Option.some.inj H
              go_wp2_with (first | ((with_reducible refine gate_callee (f := 23) rfl ?_); refine goesL_ (some 41) rfl rfl Try.func23 (by kernel_rfl) rfl #[.int .i64 a0] rfl (by (try simp only [List.map_toArray, List.map_cons, List.map_nil]); first | done | rfl | (simp only [List.length_drop, List.length_take]; rfl)) ?_; (with_reducible refine (outriderlaw01_size.calls a0 t224 _ A16.out).mono ?_); rintro e w' ⟨rfl, ⟨nd, rfl⟩⟩; refine ⟨_, rfl, ?_⟩) | (go_at_call 23; (with_reducible refine (outriderlaw01_size.calls a1 t225 _ A18.out).mono ?_); rintro e w' ⟨rfl, ⟨nd, rfl⟩⟩) | (go_at_call 15; (with_reducible refine (outriderlaw01_alive.calls kj3  t226 _ A20.out).mono ?_); rintro e w21 ⟨rfl, hb⟩; have n0_ := Aside0.mk (below_step (by repeat (first | (with_reducible first | exact HB.out | apply below_alloc | apply pw_below_drewN | apply below_drew1) | exact HB.out)) hb); clear HB; have HB := n0_; clear n0_; (try clear hb); (try clear hb2); (try clear hk); (try clear hi)))
              go_ret
              exact ⟨by first | rfl | (simp [errW_none, errW_some] <;> rfl) | (simp [*, errW_none, errW_some] <;> rfl), by repeat (first | (with_reducible first | exact HB.out | apply below_alloc | apply pw_below_drewN | apply below_drew1) | exact HB.out)⟩
            · rw [if_neg c19] at H
              have c19b0 : ((Int.tmod t225 t219) == 0) = false := beq_eq_false_iff_ne.mpr c19
              have c19b1 : ((Int.tmod t225 t219) != 0) = true := bne_iff_ne.mpr c19
              obtain rfl := Option.some.inj H
              go_wp2_with (first | ((with_reducible refine gate_callee (f := 23) rfl ?_); refine goesL_ (some 41) rfl rfl Try.func23 (by kernel_rfl) rfl #[.int .i64 a0] rfl (by (try simp only [List.map_toArray, List.map_cons, List.map_nil]); first | done | rfl | (simp only [List.length_drop, List.length_take]; rfl)) ?_; (with_reducible refine (outriderlaw01_size.calls a0 t224 _ A16.out).mono ?_); rintro e w' ⟨rfl, ⟨nd, rfl⟩⟩; refine ⟨_, rfl, ?_⟩) | (go_at_call 23; (with_reducible refine (outriderlaw01_size.calls a1 t225 _ A18.out).mono ?_); rintro e w' ⟨rfl, ⟨nd, rfl⟩⟩))
              go_ret
              exact ⟨by first | rfl | (simp [errW_none, errW_some] <;> rfl) | (simp [*, errW_none, errW_some] <;> rfl), by repeat (first | (with_reducible first | exact HB.out | apply below_alloc | apply pw_below_drewN | apply below_drew1) | exact HB.out)⟩
          · rw [if_neg c17] at H
            have c17b0 : ((Int.tmod t224 t219) == 0) = false := beq_eq_false_iff_ne.mpr c17
            have c17b1 : ((Int.tmod t224 t219) != 0) = true := bne_iff_ne.mpr c17
            obtain rfl := Option.some.inj H
            go_wp2_with (first | ((with_reducible refine gate_callee (f := 23) rfl ?_); refine goesL_ (some 41) rfl rfl Try.func23 (by kernel_rfl) rfl #[.int .i64 a0] rfl (by (try simp only [List.map_toArray, List.map_cons, List.map_nil]); first | done | rfl | (simp only [List.length_drop, List.length_take]; rfl)) ?_; (with_reducible refine (outriderlaw01_size.calls a0 t224 _ A16.out).mono ?_); rintro e w' ⟨rfl, ⟨nd, rfl⟩⟩; refine ⟨_, rfl, ?_⟩))
            go_ret
            exact ⟨by first | rfl | (simp [errW_none, errW_some] <;> rfl) | (simp [*, errW_none, errW_some] <;> rfl), by repeat (first | (with_reducible first | exact HB.out | apply below_alloc | apply pw_below_drewN | apply below_drew1) | exact HB.out)⟩

/-- THE ONE PURE STATEMENT of outriderlaw01_NumGcd: yours. -/
def outriderlaw01_NumGcd.Pure : Prop := ∀ (a0 : Int) (a1 : Int), (Lit.int .i64 a0).wf = true → (Lit.int .i64 a1).wf = true → ∃ k, outriderlaw01_NumGcd.f k a0 a1 = some true
theorem outriderlaw01_NumGcd.walk (P : outriderlaw01_NumGcd.Pure) (a0 : Int) (a1 : Int) (w : World) (w0 : (Lit.int .i64 a0).wf = true) (w1 : (Lit.int .i64 a1).wf = true) :
    Calls Try.prog 8 #[.int .i64 a0, .int .i64 a1] w fun e w' => e = .returned (.bool true) ∧ Below w.heap.size w w' := by
  obtain ⟨k, h⟩ := P a0 a1 w0 w1
  refine (outriderlaw01_NumGcd.calls k a0 a1 true w h).mono ?_
  rintro e w' ⟨rfl, hd⟩
  exact ⟨rfl, hd⟩

end Go.Proofs.Ytnpkaoogifjofaa.PNum
