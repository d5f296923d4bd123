-- written by wip/tools/myprint.py
import Derived.Test.YtnpkaoogifjofaaPNumx0
import Derived.Test.YtnpkaoogifjofaaPNumx11
import Derived.Test.YtnpkaoogifjofaaPNumx24
namespace Go.Proofs.Ytnpkaoogifjofaa.PNum
open Go.RowKit Go.Proofs.YtnpkaoogifjofaaW.PrintWords Go.Proofs.YtnpkaoogifjofaaW.PrintLast Go.Proofs.YtnpkaoogifjofaaW.PrintMore
attribute [local go_sem] max2_int min2_int max_two min_two max_three min_three max_four min_four   -- for this text's walks alone
set_option linter.unusedVariables false
set_option linter.unusedSimpArgs false

/-! ### outriderlaw01_NumCounts: function 11 -/
mutual
def outriderlaw01_NumCounts.j0 : Nat → Int → Int → Int → Int → Bool → Option (Bool)
  | 0, _, _, _, _, _ => none
  | k + 1, x5, x6, x7, x8, x41 => if x41 = true then (some false) else (if x7 = 9223372036854775807 then (outriderlaw01_NumCounts.j1 k x5 x6 x8 (decide (x5 < (wrap64 (9223372036854775807 - x6))))) else (if (wrap64 (x7 - x5)) = x6 then (outriderlaw01_NumCounts.j1 k x5 x6 x8 false) else (outriderlaw01_NumCounts.j1 k x5 x6 x8 true)))
def outriderlaw01_NumCounts.j1 : Nat → Int → Int → Int → Bool → Option (Bool)
  | 0, _, _, _, _ => none
  | k + 1, x5, x6, x8, x60 => if x60 = true then (some false) else (if x5 = 0 then (outriderlaw01_NumCounts.j2 k x5 x6 x8 true) else (outriderlaw01_NumCounts.j2 k x5 x6 x8 (x6 == 0)))
def outriderlaw01_NumCounts.j2 : Nat → Int → Int → Int → Bool → Option (Bool)
  | 0, _, _, _, _ => none
  | k + 1, x5, x6, x8, x66 => if x66 = true then (if x8 = 0 then ((outriderlaw01_alive.f k).bind fun t260 => (some t260)) else (some false)) else (if (IntKind.u64.wrap (x5)) = 0 then (none) else (if x8 = 9223372036854775807 then (if (IntKind.u64.wrap (Int.tdiv (IntKind.u64.wrap (x8)) (IntKind.u64.wrap (x5)))) ≤ (IntKind.u64.wrap (x6)) then ((outriderlaw01_alive.f k).bind fun t261 => (some t261)) else (some false)) else (if (IntKind.u64.wrap (Int.tdiv (IntKind.u64.wrap (x8)) (IntKind.u64.wrap (x5)))) = (IntKind.u64.wrap (x6)) then (if (Int.tmod (IntKind.u64.wrap (x8)) (IntKind.u64.wrap (x5))) = 0 then ((outriderlaw01_alive.f k).bind fun t262 => (some t262)) else (some false)) else (some false))))
end
def outriderlaw01_NumCounts.f (k : Nat) (a0 : Int) (a1 : Int) : Option (Bool) := (num_Plus.f a0 a1).bind fun t256 => ((num_Times.f a0 a1).bind fun t257 => (if t256 < (mx a0 0) then (outriderlaw01_NumCounts.j0 k (mx a0 0) (mx a1 0) t256 t257 true) else (if t256 < (mx a1 0) then (outriderlaw01_NumCounts.j0 k (mx a0 0) (mx a1 0) t256 t257 true) else ((num_Plus.f a1 a0).bind fun t258 => (if t256 = t258 then ((num_Times.f a1 a0).bind fun t259 => (outriderlaw01_NumCounts.j0 k (mx a0 0) (mx a1 0) t256 t257 (t257 != t259))) else (outriderlaw01_NumCounts.j0 k (mx a0 0) (mx a1 0) t256 t257 true))))))
theorem outriderlaw01_NumCounts.mono_l : ∀ k, (∀ y0 y1 y2 y3 y4, LeO (outriderlaw01_NumCounts.j0 k y0 y1 y2 y3 y4) (outriderlaw01_NumCounts.j0 (k + 1) y0 y1 y2 y3 y4)) ∧ (∀ y0 y1 y2 y3, LeO (outriderlaw01_NumCounts.j1 k y0 y1 y2 y3) (outriderlaw01_NumCounts.j1 (k + 1) y0 y1 y2 y3)) ∧ (∀ y0 y1 y2 y3, LeO (outriderlaw01_NumCounts.j2 k y0 y1 y2 y3) (outriderlaw01_NumCounts.j2 (k + 1) y0 y1 y2 y3))
  | 0 => ⟨fun _ _ _ _ _ r h => by simp [outriderlaw01_NumCounts.j0] at h, fun _ _ _ _ r h => by simp [outriderlaw01_NumCounts.j1] at h, fun _ _ _ _ r h => by simp [outriderlaw01_NumCounts.j2] at h⟩
  | k + 1 => by
    obtain ⟨ih0, ih1, ih2⟩ := outriderlaw01_NumCounts.mono_l k
    refine ⟨?_, ?_, ?_⟩
    · intro y0 y1 y2 y3 y4
      unfold outriderlaw01_NumCounts.j0
      repeat' first
      | (with_reducible exact ih0 _ _ _ _ _)
      | (with_reducible exact ih1 _ _ _ _)
      | (with_reducible exact ih2 _ _ _ _)
      | (with_reducible exact outriderlaw01_alive.mono _)
      | (with_reducible exact LeO.refl _)
      | (with_reducible exact LeO.none _)
      | (with_reducible refine LeO.ite ?_ ?_)
      | (with_reducible refine LeO.bind ?_ (fun _ => ?_))
      | exact ih0 _ _ _ _ _
      | exact ih1 _ _ _ _
      | exact ih2 _ _ _ _
      | exact outriderlaw01_alive.mono _
      | exact LeO.none _
      | refine LeO.ite ?_ ?_
      | refine LeO.bind ?_ (fun _ => ?_)
    · intro y0 y1 y2 y3
      unfold outriderlaw01_NumCounts.j1
      repeat' first
      | (with_reducible exact ih0 _ _ _ _ _)
      | (with_reducible exact ih1 _ _ _ _)
      | (with_reducible exact ih2 _ _ _ _)
      | (with_reducible exact outriderlaw01_alive.mono _)
      | (with_reducible exact LeO.refl _)
      | (with_reducible exact LeO.none _)
      | (with_reducible refine LeO.ite ?_ ?_)
      | (with_reducible refine LeO.bind ?_ (fun _ => ?_))
      | exact ih0 _ _ _ _ _
      | exact ih1 _ _ _ _
      | exact ih2 _ _ _ _
      | exact outriderlaw01_alive.mono _
      | exact LeO.none _
      | refine LeO.ite ?_ ?_
      | refine LeO.bind ?_ (fun _ => ?_)
    · intro y0 y1 y2 y3
      unfold outriderlaw01_NumCounts.j2
      repeat' first
      | (with_reducible exact ih0 _ _ _ _ _)
      | (with_reducible exact ih1 _ _ _ _)
      | (with_reducible exact ih2 _ _ _ _)
      | (with_reducible exact outriderlaw01_alive.mono _)
      | (with_reducible exact LeO.refl _)
      | (with_reducible exact LeO.none _)
      | (with_reducible refine LeO.ite ?_ ?_)
      | (with_reducible refine LeO.bind ?_ (fun _ => ?_))
      | exact ih0 _ _ _ _ _
      | exact ih1 _ _ _ _
      | exact ih2 _ _ _ _
      | exact outriderlaw01_alive.mono _
      | exact LeO.none _
      | refine LeO.ite ?_ ?_
      | refine LeO.bind ?_ (fun _ => ?_)
theorem outriderlaw01_NumCounts.mono : ∀ a0 a1 k, LeO (outriderlaw01_NumCounts.f k a0 a1) (outriderlaw01_NumCounts.f (k + 1) a0 a1) := by
  intro a0 a1 k
  obtain ⟨ih0, ih1, ih2⟩ := outriderlaw01_NumCounts.mono_l k
  unfold outriderlaw01_NumCounts.f
  repeat' first
      | (with_reducible exact ih0 _ _ _ _ _)
      | (with_reducible exact ih1 _ _ _ _)
      | (with_reducible exact ih2 _ _ _ _)
      | (with_reducible exact outriderlaw01_alive.mono _)
      | (with_reducible exact LeO.refl _)
      | (with_reducible exact LeO.none _)
      | (with_reducible refine LeO.ite ?_ ?_)
      | (with_reducible refine LeO.bind ?_ (fun _ => ?_))
      | exact ih0 _ _ _ _ _
      | exact ih1 _ _ _ _
      | exact ih2 _ _ _ _
      | exact outriderlaw01_alive.mono _
      | exact LeO.none _
      | refine LeO.ite ?_ ?_
      | refine LeO.bind ?_ (fun _ => ?_)
set_option maxHeartbeats 8000000 in
set_option maxRecDepth 100000 in
theorem outriderlaw01_NumCounts.calls (k : Nat) (a0 : Int) (a1 : Int) (r : Bool) (w : World) (h : outriderlaw01_NumCounts.f k a0 a1 = some r) :
    Calls Try.prog 11 #[.int .i64 a0, .int .i64 a1] w fun e w' => e = .returned (.bool r) ∧ Below w.heap.size w w' := by
  have HB := Aside0.mk (Below.refl w.heap.size w)
  have H : ((num_Plus.f a0 a1).bind fun t256 => ((num_Times.f a0 a1).bind fun t257 => (if t256 < (mx a0 0) then (outriderlaw01_NumCounts.j0 k (mx a0 0) (mx a1 0) t256 t257 true) else (if t256 < (mx a1 0) then (outriderlaw01_NumCounts.j0 k (mx a0 0) (mx a1 0) t256 t257 true) else ((num_Plus.f a1 a0).bind fun t258 => (if t256 = t258 then ((num_Times.f a1 a0).bind fun t259 => (outriderlaw01_NumCounts.j0 k (mx a0 0) (mx a1 0) t256 t257 (t257 != t259))) else (outriderlaw01_NumCounts.j0 k (mx a0 0) (mx a1 0) t256 t257 true))))))) = some r := h
  clear h
  obtain ⟨ji3, hji3⟩ : ∃ j_ : Int, (mx a0 0) = j_ := ⟨_, rfl⟩
  replace H : ((num_Plus.f a0 a1).bind fun t256 => ((num_Times.f a0 a1).bind fun t257 => (if t256 < (ji3) then (outriderlaw01_NumCounts.j0 k ji3 (mx a1 0) t256 t257 true) else (if t256 < (mx a1 0) then (outriderlaw01_NumCounts.j0 k ji3 (mx a1 0) t256 t257 true) else ((num_Plus.f a1 a0).bind fun t258 => (if t256 = t258 then ((num_Times.f a1 a0).bind fun t259 => (outriderlaw01_NumCounts.j0 k ji3 (mx a1 0) t256 t257 (t257 != t259))) else (outriderlaw01_NumCounts.j0 k ji3 (mx a1 0) t256 t257 true))))))) = some r := by first | (rw [hji3] at H; exact H) | (simp only [hji3] at H ⊢; exact H)
  (try (have hji3l : 0 ≤ ji3 := by (rw [← hji3]; unfold mx; (repeat' split) <;> omega)))
  (try (have hji3m : 0 ≤ ji3 := by omega))
  have hji3_ : (if a0 < 0 then 0 else a0) = ji3 := hji3
  obtain ⟨ji4, hji4⟩ : ∃ j_ : Int, (mx a1 0) = j_ := ⟨_, rfl⟩
  replace H : ((num_Plus.f a0 a1).bind fun t256 => ((num_Times.f a0 a1).bind fun t257 => (if t256 < (ji3) then (outriderlaw01_NumCounts.j0 k ji3 ji4 t256 t257 true) else (if t256 < (ji4) then (outriderlaw01_NumCounts.j0 k ji3 ji4 t256 t257 true) else ((num_Plus.f a1 a0).bind fun t258 => (if t256 = t258 then ((num_Times.f a1 a0).bind fun t259 => (outriderlaw01_NumCounts.j0 k ji3 ji4 t256 t257 (t257 != t259))) else (outriderlaw01_NumCounts.j0 k ji3 ji4 t256 t257 true))))))) = some r := by first | (rw [hji4] at H; exact H) | (simp only [hji4] at H ⊢; exact H)
  (try (have hji4l : 0 ≤ ji4 := by (rw [← hji4]; unfold mx; (repeat' split) <;> omega)))
  (try (have hji4m : 0 ≤ ji4 := by omega))
  have hji4_ : (if a1 < 0 then 0 else a1) = ji4 := hji4
  replace H := Option.bind_eq_some_iff.mp H
  obtain ⟨t256, A50, H⟩ := H
  replace H : ((num_Times.f a0 a1).bind fun t257 => (if t256 < (ji3) then (outriderlaw01_NumCounts.j0 k ji3 ji4 t256 t257 true) else (if t256 < (ji4) then (outriderlaw01_NumCounts.j0 k ji3 ji4 t256 t257 true) else ((num_Plus.f a1 a0).bind fun t258 => (if t256 = t258 then ((num_Times.f a1 a0).bind fun t259 => (outriderlaw01_NumCounts.j0 k ji3 ji4 t256 t257 (t257 != t259))) else (outriderlaw01_NumCounts.j0 k ji3 ji4 t256 t257 true)))))) = some r := H
  have A5 := Aside0.mk A50
  clear A50
  replace H := Option.bind_eq_some_iff.mp H
  obtain ⟨t257, A60, H⟩ := H
  replace H : (if t256 < (ji3) then (outriderlaw01_NumCounts.j0 k ji3 ji4 t256 t257 true) else (if t256 < (ji4) then (outriderlaw01_NumCounts.j0 k ji3 ji4 t256 t257 true) else ((num_Plus.f a1 a0).bind fun t258 => (if t256 = t258 then ((num_Times.f a1 a0).bind fun t259 => (outriderlaw01_NumCounts.j0 k ji3 ji4 t256 t257 (t257 != t259))) else (outriderlaw01_NumCounts.j0 k ji3 ji4 t256 t257 true))))) = some r := H
  have A6 := Aside0.mk A60
  clear A60
  have HC7 := Aside0.mk H
  clear H
  go_enter Try.func11, Try.ntmps11
  go_upto_region 3 with (first | ((with_reducible refine gate_callee (f := 27) rfl ?_); refine goesL_ (some 16) rfl rfl Try.func27 (by kernel_rfl) rfl #[.int .i64 a0, .int .i64 a1] rfl (by (try simp only [List.map_toArray, List.map_cons, List.map_nil]); first | done | rfl | (simp only [List.length_drop, List.length_take]; rfl)) ?_; (with_reducible refine (num_Plus.calls a0 a1 t256 _ A5.out).mono ?_); rintro e w8 ⟨rfl, hb⟩; refine ⟨_, rfl, ?_⟩; have n0_ := Aside0.mk (below_step (by repeat (first | (with_reducible first | exact HB.out | apply below_alloc | apply pw_below_drewN | apply below_drew1) | exact HB.out)) hb); clear HB; have HB := n0_; clear n0_; (try clear hb); (try clear hb2); (try clear hk); (try clear hi)) | ((with_reducible refine gate_callee (f := 28) rfl ?_); refine goesL_ (some 19) rfl rfl Try.func28 (by kernel_rfl) rfl #[.int .i64 a0, .int .i64 a1] rfl (by (try simp only [List.map_toArray, List.map_cons, List.map_nil]); first | done | rfl | (simp only [List.length_drop, List.length_take]; rfl)) ?_; (with_reducible refine (num_Times.calls a0 a1 t257 _ A6.out).mono ?_); rintro e w9 ⟨rfl, hb⟩; refine ⟨_, rfl, ?_⟩; have n0_ := Aside0.mk (below_step (by repeat (first | (with_reducible first | exact HB.out | apply below_alloc | apply pw_below_drewN | apply below_drew1) | exact HB.out)) hb); clear HB; have HB := n0_; clear n0_; (try clear hb); (try clear hb2); (try clear hk); (try clear hi)))
  (try simp only [Act.put, List.setIfInBounds_toArray, List.set_cons_zero, List.set_cons_succ])
  go_cut [41] (fun v41 wc => ∃ (kq : Nat) (x41_6 : Bool), v41 = .bool x41_6 ∧ Aside0 (outriderlaw01_NumCounts.j0 kq ji3 ji4 t256 t257 x41_6 = some r) ∧ Aside0 (kq ≤ k) ∧ Aside0 (Below w.heap.size w wc))
  case first =>
    have H := HC7.out
    clear HC7
    by_cases c10 : t256 < (ji3)
    · rw [if_pos c10] at H
      have c10b0 : decide (t256 < (ji3)) = true := decide_eq_true c10
      clear c10
      (first | rw [c10b0] | (simp only [i64_w, i32_w]; rw [c10b0]) | skip)
      have H' := Aside0.mk H
      clear H
      go_wp2
      go_meet
      case rel => exact ⟨_, (true), (by first | rfl | (simp; done) | (simp [*]; done)), H', ⟨by first | omega | exact Nat.le_refl _⟩, ⟨by repeat (first | (with_reducible first | exact HB.out | apply below_alloc | apply pw_below_drewN | apply below_drew1) | exact HB.out)⟩⟩
    · rw [if_neg c10] at H
      have c10b0 : decide (t256 < (ji3)) = false := decide_eq_false c10
      clear c10
      (first | rw [c10b0] | (simp only [i64_w, i32_w]; rw [c10b0]) | skip)
      by_cases c11 : t256 < (ji4)
      · rw [if_pos c11] at H
        have c11b0 : decide (t256 < (ji4)) = true := decide_eq_true c11
        clear c11
        have H' := Aside0.mk H
        clear H
        go_wp2
        go_meet
        case rel => exact ⟨_, (true), (by first | rfl | (simp; done) | (simp [*]; done)), H', ⟨by first | omega | exact Nat.le_refl _⟩, ⟨by repeat (first | (with_reducible first | exact HB.out | apply below_alloc | apply pw_below_drewN | apply below_drew1) | exact HB.out)⟩⟩
      · rw [if_neg c11] at H
        have c11b0 : decide (t256 < (ji4)) = false := decide_eq_false c11
        clear c11
        replace H := Option.bind_eq_some_iff.mp H
        obtain ⟨t258, A120, H⟩ := H
        replace H : (if t256 = t258 then ((num_Times.f a1 a0).bind fun t259 => (outriderlaw01_NumCounts.j0 k ji3 ji4 t256 t257 (t257 != t259))) else (outriderlaw01_NumCounts.j0 k ji3 ji4 t256 t257 true)) = some r := H
        have A12 := Aside0.mk A120
        clear A120
        by_cases c13 : t256 = t258
        · rw [if_pos c13] at H
          have c13b0 : (t256 == t258) = true := beq_iff_eq.mpr c13
          have c13b1 : (t256 != t258) = false := bne_eq_false_iff_eq.mpr c13
          clear c13
          replace H := Option.bind_eq_some_iff.mp H
          obtain ⟨t259, A140, H⟩ := H
          replace H : (outriderlaw01_NumCounts.j0 k ji3 ji4 t256 t257 (t257 != t259)) = some r := H
          have A14 := Aside0.mk A140
          clear A140
          have H' := Aside0.mk H
          clear H
          go_wp2_with (first | (go_at_call 27; (with_reducible refine (num_Plus.calls a1 a0 t258 _ A12.out).mono ?_); rintro e w15 ⟨rfl, hb⟩; have n0_ := Aside0.mk (below_step (by repeat (first | (with_reducible first | exact HB.out | apply below_alloc | apply pw_below_drewN | apply below_drew1) | exact HB.out)) hb); clear HB; have HB := n0_; clear n0_; (try clear hb); (try clear hb2); (try clear hk); (try clear hi)) | (go_at_call 28; (with_reducible refine (num_Times.calls a1 a0 t259 _ A14.out).mono ?_); rintro e w16 ⟨rfl, hb⟩; have n0_ := Aside0.mk (below_step (by repeat (first | (with_reducible first | exact HB.out | apply below_alloc | apply pw_below_drewN | apply below_drew1) | exact HB.out)) hb); clear HB; have HB := n0_; clear n0_; (try clear hb); (try clear hb2); (try clear hk); (try clear hi)))
          go_meet
          case rel => exact ⟨_, ((t257 != t259)), (by first | rfl | (simp; done) | (simp [*]; done)), H', ⟨by first | omega | exact Nat.le_refl _⟩, ⟨by repeat (first | (with_reducible first | exact HB.out | apply below_alloc | apply pw_below_drewN | apply below_drew1) | exact HB.out)⟩⟩
        · rw [if_neg c13] at H
          have c13b0 : (t256 == t258) = false := beq_eq_false_iff_ne.mpr c13
          have c13b1 : (t256 != t258) = true := bne_iff_ne.mpr c13
          have H' := Aside0.mk H
          clear H
          go_wp2_with (first | (go_at_call 27; (with_reducible refine (num_Plus.calls a1 a0 t258 _ A12.out).mono ?_); rintro e w17 ⟨rfl, hb⟩; have n0_ := Aside0.mk (below_step (by repeat (first | (with_reducible first | exact HB.out | apply below_alloc | apply pw_below_drewN | apply below_drew1) | exact HB.out)) hb); clear HB; have HB := n0_; clear n0_; (try clear hb); (try clear hb2); (try clear hk); (try clear hi)))
          go_meet
          case rel => exact ⟨_, (true), (by first | rfl | (simp; done) | (simp [*]; done)), H', ⟨by first | omega | exact Nat.le_refl _⟩, ⟨by repeat (first | (with_reducible first | exact HB.out | apply below_alloc | apply pw_below_drewN | apply below_drew1) | exact HB.out)⟩⟩
  case rest =>
    clear HC7
    try clear c1
    try clear c2
    try clear p2
    try clear c10
    try clear c10b0
    try clear c11
    try clear c11b0
    try clear c13
    try clear c13b0
    try clear c13b1
    obtain ⟨kq, x41_6, rfl, HA, HJ6, HB⟩ := hcut
    cases kq with
    | zero => exact absurd HA.out (by simp [outriderlaw01_NumCounts.j0])
    | succ kj6 =>
      have H := HA.out
      clear HA
      simp only [outriderlaw01_NumCounts.j0] at H
      by_cases c18 : x41_6 = true
      · subst c18
        have H1 : (some false) = some r := by rw [if_pos rfl] at H; exact H
        clear H
        have H := H1
        clear H1
        obtain rfl := Option.some.inj H
        go_wp2
        go_ret
        exact ⟨by first | rfl | (simp [errW_none, errW_some] <;> rfl) | (simp only [← hji3, ← hji4]; first | rfl | (simp [errW_none, errW_some] <;> rfl)) | (simp [*, errW_none, errW_some] <;> rfl), by repeat (first | (with_reducible first | exact HB.out | apply below_alloc | apply pw_below_drewN | apply below_drew1) | exact HB.out)⟩
      · replace c18 := Bool.eq_false_iff.mpr c18
        subst c18
        have H1 : (if t256 = 9223372036854775807 then (outriderlaw01_NumCounts.j1 kj6 ji3 ji4 t257 (decide (ji3 < (wrap64 (9223372036854775807 - ji4))))) else (if (wrap64 (t256 - ji3)) = ji4 then (outriderlaw01_NumCounts.j1 kj6 ji3 ji4 t257 false) else (outriderlaw01_NumCounts.j1 kj6 ji3 ji4 t257 true))) = some r := by rw [if_neg (show ¬ (false = true) by decide)] at H; exact H
        clear H
        have H := H1
        clear H1
        have HC19 := Aside0.mk H
        clear H
        go_upto_region 5 with (fail)
        go_cut [60] (fun v60 wc => ∃ (kq : Nat) (x60_18 : Bool), v60 = .bool x60_18 ∧ Aside0 (outriderlaw01_NumCounts.j1 kq ji3 ji4 t257 x60_18 = some r) ∧ Aside0 (kq ≤ kj6) ∧ Aside0 (Below w.heap.size w wc))
        case first =>
          have H := HC19.out
          clear HC19
          by_cases c20 : t256 = 9223372036854775807
          · rw [if_pos c20] at H
            have c20b0 : (t256 == 9223372036854775807) = true := beq_iff_eq.mpr c20
            have c20b1 : (t256 != 9223372036854775807) = false := bne_eq_false_iff_eq.mpr c20
            clear c20
            (first | rw [c20b0] | (simp only [i64_w, i32_w]; rw [c20b0]) | skip)
            have H' := Aside0.mk H
            clear H
            go_wp2
            go_meet
            case rel => exact ⟨_, (decide (ji3 < (wrap64 (9223372036854775807 - ji4)))), (by first | rfl | (simp; done) | (simp only [← hji3, ← hji4] <;> (first | rfl | simp)) | (simp [*]; done)), H', ⟨by have := HJ6.out; first | omega | exact Nat.le_refl _⟩, ⟨by repeat (first | (with_reducible first | exact HB.out | apply below_alloc | apply pw_below_drewN | apply below_drew1) | exact HB.out)⟩⟩
          · rw [if_neg c20] at H
            have c20b0 : (t256 == 9223372036854775807) = false := beq_eq_false_iff_ne.mpr c20
            have c20b1 : (t256 != 9223372036854775807) = true := bne_iff_ne.mpr c20
            (first | rw [c20b0] | (simp only [i64_w, i32_w]; rw [c20b0]) | skip)
            by_cases c21 : (wrap64 (t256 - ji3)) = ji4
            · rw [if_pos c21] at H
              have c21b0 : ((wrap64 (t256 - ji3)) == ji4) = true := beq_iff_eq.mpr c21
              have c21b1 : ((wrap64 (t256 - ji3)) != ji4) = false := bne_eq_false_iff_eq.mpr c21
              clear c21
              have H' := Aside0.mk H
              clear H
              go_wp2
              go_meet
              case rel => exact ⟨_, (false), (by first | rfl | (simp; done) | (simp [*]; done)), H', ⟨by have := HJ6.out; first | omega | exact Nat.le_refl _⟩, ⟨by repeat (first | (with_reducible first | exact HB.out | apply below_alloc | apply pw_below_drewN | apply below_drew1) | exact HB.out)⟩⟩
            · rw [if_neg c21] at H
              have c21b0 : ((wrap64 (t256 - ji3)) == ji4) = false := beq_eq_false_iff_ne.mpr c21
              have c21b1 : ((wrap64 (t256 - ji3)) != ji4) = true := bne_iff_ne.mpr c21
              have H' := Aside0.mk H
              clear H
              go_wp2
              go_meet
              case rel => exact ⟨_, (true), (by first | rfl | (simp; done) | (simp [*]; done)), H', ⟨by have := HJ6.out; first | omega | exact Nat.le_refl _⟩, ⟨by repeat (first | (with_reducible first | exact HB.out | apply below_alloc | apply pw_below_drewN | apply below_drew1) | exact HB.out)⟩⟩
        case rest =>
          clear HC19
          try clear c1
          try clear c2
          try clear p2
          try clear p6
          try clear c10
          try clear c10b0
          try clear c11
          try clear c11b0
          try clear c13
          try clear c13b0
          try clear c13b1
          try clear c18
          try clear c20
          try clear c20b0
          try clear c20b1
          try clear c21
          try clear c21b0
          try clear c21b1
          try clear p2
          obtain ⟨kq, x60_18, rfl, HA, HJ18, HB⟩ := hcut
          cases kq with
          | zero => exact absurd HA.out (by simp [outriderlaw01_NumCounts.j1])
          | succ kj18 =>
            have H := HA.out
            clear HA
            simp only [outriderlaw01_NumCounts.j1] at H
            by_cases c22 : x60_18 = true
            · subst c22
              have H1 : (some false) = some r := by rw [if_pos rfl] at H; exact H
              clear H
              have H := H1
              clear H1
              obtain rfl := Option.some.inj H
              go_wp2
              go_ret
              exact ⟨by first | rfl | (simp [errW_none, errW_some] <;> rfl) | (simp only [← hji3, ← hji4]; first | rfl | (simp [errW_none, errW_some] <;> rfl)) | (simp [*, errW_none, errW_some] <;> rfl), by repeat (first | (with_reducible first | exact HB.out | apply below_alloc | apply pw_below_drewN | apply below_drew1) | exact HB.out)⟩
            · replace c22 := Bool.eq_false_iff.mpr c22
              subst c22
              have H1 : (if ji3 = 0 then (outriderlaw01_NumCounts.j2 kj18 ji3 ji4 t257 true) else (outriderlaw01_NumCounts.j2 kj18 ji3 ji4 t257 (ji4 == 0))) = some r := by rw [if_neg (show ¬ (false = true) by decide)] at H; exact H
              clear H
              have H := H1
              clear H1
              have HC23 := Aside0.mk H
              clear H
              go_upto_region 7 with (fail)
              go_cut [66] (fun v66 wc => ∃ (kq : Nat) (x66_22 : Bool), v66 = .bool x66_22 ∧ Aside0 (outriderlaw01_NumCounts.j2 kq ji3 ji4 t257 x66_22 = some r) ∧ Aside0 (kq ≤ kj18) ∧ Aside0 (Below w.heap.size w wc))
              case first =>
                have H := HC23.out
                clear HC23
                by_cases c24 : ji3 = 0
                · rw [if_pos c24] at H
                  have c24b0 : (ji3 == 0) = true := beq_iff_eq.mpr c24
                  have c24b1 : (ji3 != 0) = false := bne_eq_false_iff_eq.mpr c24
                  clear c24
                  (first | rw [c24b0] | (simp only [i64_w, i32_w]; rw [c24b0]) | skip)
                  have H' := Aside0.mk H
                  clear H
                  go_wp2
                  go_meet
                  case rel => exact ⟨_, (true), (by first | rfl | (simp; done) | (simp [*]; done)), H', ⟨by have := HJ6.out; have := HJ18.out; first | omega | exact Nat.le_refl _⟩, ⟨by repeat (first | (with_reducible first | exact HB.out | apply below_alloc | apply pw_below_drewN | apply below_drew1) | exact HB.out)⟩⟩
                · rw [if_neg c24] at H
                  have c24b0 : (ji3 == 0) = false := beq_eq_false_iff_ne.mpr c24
                  have c24b1 : (ji3 != 0) = true := bne_iff_ne.mpr c24
                  (first | rw [c24b0] | (simp only [i64_w, i32_w]; rw [c24b0]) | skip)
                  have H' := Aside0.mk H
                  clear H
                  go_wp2
                  go_meet
                  case rel => exact ⟨_, ((ji4 == 0)), (by first | rfl | (simp; done) | (simp only [← hji4] <;> (first | rfl | simp)) | (simp [*]; done)), H', ⟨by have := HJ6.out; have := HJ18.out; first | omega | exact Nat.le_refl _⟩, ⟨by repeat (first | (with_reducible first | exact HB.out | apply below_alloc | apply pw_below_drewN | apply below_drew1) | exact HB.out)⟩⟩
              case rest =>
                clear HC23
                try clear c1
                try clear c2
                try clear p2
                try clear p6
                try clear c10
                try clear c10b0
                try clear c11
                try clear c11b0
                try clear c13
                try clear c13b0
                try clear c13b1
                try clear c18
                try clear c20
                try clear c20b0
                try clear c20b1
                try clear c21
                try clear c21b0
                try clear c21b1
                try clear c22
                try clear c24
                try clear c24b0
                try clear c24b1
                try clear p2
                try clear p6
                obtain ⟨kq, x66_22, rfl, HA, HJ22, HB⟩ := hcut
                cases kq with
                | zero => exact absurd HA.out (by simp [outriderlaw01_NumCounts.j2])
                | succ kj22 =>
                  have H := HA.out
                  clear HA
                  simp only [outriderlaw01_NumCounts.j2] at H
                  by_cases c25 : x66_22 = true
                  · subst c25
                    have H1 : (if t257 = 0 then ((outriderlaw01_alive.f kj22).bind fun t260 => (some t260)) else (some false)) = some r := by rw [if_pos rfl] at H; exact H
                    clear H
                    have H := H1
                    clear H1
                    by_cases c26 : t257 = 0
                    · rw [if_pos c26] at H
                      have c26b0 : (t257 == 0) = true := beq_iff_eq.mpr c26
                      have c26b1 : (t257 != 0) = false := bne_eq_false_iff_eq.mpr c26
                      clear c26
                      replace H := Option.bind_eq_some_iff.mp H
                      obtain ⟨t260, A270, H⟩ := H
                      replace H : (some t260) = some r := H
                      have A27 := Aside0.mk A270
                      clear A270
                      obtain rfl := Option.some.inj H
                      go_wp2_with (first | (go_at_call 15; (with_reducible refine (outriderlaw01_alive.calls kj22  t260 _ A27.out).mono ?_); rintro e w28 ⟨rfl, hb⟩; have n0_ := Aside0.mk (below_step (by repeat (first | (with_reducible first | exact HB.out | apply below_alloc | apply pw_below_drewN | apply below_drew1) | exact HB.out)) hb); clear HB; have HB := n0_; clear n0_; (try clear hb); (try clear hb2); (try clear hk); (try clear hi)))
                      go_ret
                      exact ⟨by first | rfl | (simp [errW_none, errW_some] <;> rfl) | (simp only [← hji3, ← hji4]; first | rfl | (simp [errW_none, errW_some] <;> rfl)) | (simp [*, errW_none, errW_some] <;> rfl), by repeat (first | (with_reducible first | exact HB.out | apply below_alloc | apply pw_below_drewN | apply below_drew1) | exact HB.out)⟩
                    · rw [if_neg c26] at H
                      have c26b0 : (t257 == 0) = false := beq_eq_false_iff_ne.mpr c26
                      have c26b1 : (t257 != 0) = true := bne_iff_ne.mpr c26
                      obtain rfl := Option.some.inj H
                      go_wp2
                      go_ret
                      exact ⟨by first | rfl | (simp [errW_none, errW_some] <;> rfl) | (simp only [← hji3, ← hji4]; first | rfl | (simp [errW_none, errW_some] <;> rfl)) | (simp [*, errW_none, errW_some] <;> rfl), by repeat (first | (with_reducible first | exact HB.out | apply below_alloc | apply pw_below_drewN | apply below_drew1) | exact HB.out)⟩
                  · replace c25 := Bool.eq_false_iff.mpr c25
                    subst c25
                    have H1 : (if (IntKind.u64.wrap (ji3)) = 0 then (none) else (if t257 = 9223372036854775807 then (if (IntKind.u64.wrap (Int.tdiv (IntKind.u64.wrap (t257)) (IntKind.u64.wrap (ji3)))) ≤ (IntKind.u64.wrap (ji4)) then ((outriderlaw01_alive.f kj22).bind fun t261 => (some t261)) else (some false)) else (if (IntKind.u64.wrap (Int.tdiv (IntKind.u64.wrap (t257)) (IntKind.u64.wrap (ji3)))) = (IntKind.u64.wrap (ji4)) then (if (Int.tmod (IntKind.u64.wrap (t257)) (IntKind.u64.wrap (ji3))) = 0 then ((outriderlaw01_alive.f kj22).bind fun t262 => (some t262)) else (some false)) else (some false)))) = some r := by rw [if_neg (show ¬ (false = true) by decide)] at H; exact H
                    clear H
                    have H := H1
                    clear H1
                    by_cases c29 : (IntKind.u64.wrap (ji3)) = 0
                    · rw [if_pos c29] at H
                      exact absurd H (by simp)
                    · rw [if_neg c29] at H
                      have c29b0 : ((IntKind.u64.wrap (ji3)) == 0) = false := beq_eq_false_iff_ne.mpr c29
                      have c29b1 : ((IntKind.u64.wrap (ji3)) != 0) = true := bne_iff_ne.mpr c29
                      by_cases c30 : t257 = 9223372036854775807
                      · rw [if_pos c30] at H
                        have c30b0 : (t257 == 9223372036854775807) = true := beq_iff_eq.mpr c30
                        have c30b1 : (t257 != 9223372036854775807) = false := bne_eq_false_iff_eq.mpr c30
                        clear c30
                        by_cases c31 : (IntKind.u64.wrap (Int.tdiv (IntKind.u64.wrap (t257)) (IntKind.u64.wrap (ji3)))) ≤ (IntKind.u64.wrap (ji4))
                        · rw [if_pos c31] at H
                          have c31b0 : decide ((IntKind.u64.wrap (Int.tdiv (IntKind.u64.wrap (t257)) (IntKind.u64.wrap (ji3)))) ≤ (IntKind.u64.wrap (ji4))) = true := decide_eq_true c31
                          clear c31
                          replace H := Option.bind_eq_some_iff.mp H
                          obtain ⟨t261, A320, H⟩ := H
                          replace H : (some t261) = some r := H
                          have A32 := Aside0.mk A320
                          clear A320
                          obtain rfl := Option.some.inj H
                          go_wp2_with (first | (go_at_call 15; (with_reducible refine (outriderlaw01_alive.calls kj22  t261 _ A32.out).mono ?_); rintro e w33 ⟨rfl, hb⟩; have n0_ := Aside0.mk (below_step (by repeat (first | (with_reducible first | exact HB.out | apply below_alloc | apply pw_below_drewN | apply below_drew1) | exact HB.out)) hb); clear HB; have HB := n0_; clear n0_; (try clear hb); (try clear hb2); (try clear hk); (try clear hi)))
                          go_ret
                          exact ⟨by first | rfl | (simp [errW_none, errW_some] <;> rfl) | (simp only [← hji3, ← hji4]; first | rfl | (simp [errW_none, errW_some] <;> rfl)) | (simp [*, errW_none, errW_some] <;> rfl), by repeat (first | (with_reducible first | exact HB.out | apply below_alloc | apply pw_below_drewN | apply below_drew1) | exact HB.out)⟩
                        · rw [if_neg c31] at H
                          have c31b0 : decide ((IntKind.u64.wrap (Int.tdiv (IntKind.u64.wrap (t257)) (IntKind.u64.wrap (ji3)))) ≤ (IntKind.u64.wrap (ji4))) = false := decide_eq_false c31
                          clear c31
                          obtain rfl := Option.some.inj H
                          go_wp2
                          go_ret
                          exact ⟨by first | rfl | (simp [errW_none, errW_some] <;> rfl) | (simp only [← hji3, ← hji4]; first | rfl | (simp [errW_none, errW_some] <;> rfl)) | (simp [*, errW_none, errW_some] <;> rfl), by repeat (first | (with_reducible first | exact HB.out | apply below_alloc | apply pw_below_drewN | apply below_drew1) | exact HB.out)⟩
                      · rw [if_neg c30] at H
                        have c30b0 : (t257 == 9223372036854775807) = false := beq_eq_false_iff_ne.mpr c30
                        have c30b1 : (t257 != 9223372036854775807) = true := bne_iff_ne.mpr c30
                        by_cases c34 : (IntKind.u64.wrap (Int.tdiv (IntKind.u64.wrap (t257)) (IntKind.u64.wrap (ji3)))) = (IntKind.u64.wrap (ji4))
                        · rw [if_pos c34] at H
                          have c34b0 : ((IntKind.u64.wrap (Int.tdiv (IntKind.u64.wrap (t257)) (IntKind.u64.wrap (ji3)))) == (IntKind.u64.wrap (ji4))) = true := beq_iff_eq.mpr c34
                          have c34b1 : ((IntKind.u64.wrap (Int.tdiv (IntKind.u64.wrap (t257)) (IntKind.u64.wrap (ji3)))) != (IntKind.u64.wrap (ji4))) = false := bne_eq_false_iff_eq.mpr c34
                          clear c34
                          by_cases c35 : (Int.tmod (IntKind.u64.wrap (t257)) (IntKind.u64.wrap (ji3))) = 0
                          · rw [if_pos c35] at H
                            have c35b0 : ((Int.tmod (IntKind.u64.wrap (t257)) (IntKind.u64.wrap (ji3))) == 0) = true := beq_iff_eq.mpr c35
                            have c35b1 : ((Int.tmod (IntKind.u64.wrap (t257)) (IntKind.u64.wrap (ji3))) != 0) = false := bne_eq_false_iff_eq.mpr c35
                            clear c35
                            replace H := Option.bind_eq_some_iff.mp H
                            obtain ⟨t262, A360, H⟩ := H
                            replace H : (some t262) = some r := H
                            have A36 := Aside0.mk A360
                            clear A360
                            obtain rfl := Option.some.inj H
                            go_wp2_with (first | (go_at_call 15; (with_reducible refine (outriderlaw01_alive.calls kj22  t262 _ A36.out).mono ?_); rintro e w37 ⟨rfl, hb⟩; have n0_ := Aside0.mk (below_step (by repeat (first | (with_reducible first | exact HB.out | apply below_alloc | apply pw_below_drewN | apply below_drew1) | exact HB.out)) hb); clear HB; have HB := n0_; clear n0_; (try clear hb); (try clear hb2); (try clear hk); (try clear hi)))
                            go_ret
                            exact ⟨by first | rfl | (simp [errW_none, errW_some] <;> rfl) | (simp only [← hji3, ← hji4]; first | rfl | (simp [errW_none, errW_some] <;> rfl)) | (simp [*, errW_none, errW_some] <;> rfl), by repeat (first | (with_reducible first | exact HB.out | apply below_alloc | apply pw_below_drewN | apply below_drew1) | exact HB.out)⟩
                          · rw [if_neg c35] at H
                            have c35b0 : ((Int.tmod (IntKind.u64.wrap (t257)) (IntKind.u64.wrap (ji3))) == 0) = false := beq_eq_false_iff_ne.mpr c35
                            have c35b1 : ((Int.tmod (IntKind.u64.wrap (t257)) (IntKind.u64.wrap (ji3))) != 0) = true := bne_iff_ne.mpr c35
                            obtain rfl := Option.some.inj H
                            go_wp2
                            go_ret
                            exact ⟨by first | rfl | (simp [errW_none, errW_some] <;> rfl) | (simp only [← hji3, ← hji4]; first | rfl | (simp [errW_none, errW_some] <;> rfl)) | (simp [*, errW_none, errW_some] <;> rfl), by repeat (first | (with_reducible first | exact HB.out | apply below_alloc | apply pw_below_drewN | apply below_drew1) | exact HB.out)⟩
                        · rw [if_neg c34] at H
                          have c34b0 : ((IntKind.u64.wrap (Int.tdiv (IntKind.u64.wrap (t257)) (IntKind.u64.wrap (ji3)))) == (IntKind.u64.wrap (ji4))) = false := beq_eq_false_iff_ne.mpr c34
                          have c34b1 : ((IntKind.u64.wrap (Int.tdiv (IntKind.u64.wrap (t257)) (IntKind.u64.wrap (ji3)))) != (IntKind.u64.wrap (ji4))) = true := bne_iff_ne.mpr c34
                          obtain rfl := Option.some.inj H
                          go_wp2
                          go_ret
                          exact ⟨by first | rfl | (simp [errW_none, errW_some] <;> rfl) | (simp only [← hji3, ← hji4]; first | rfl | (simp [errW_none, errW_some] <;> rfl)) | (simp [*, errW_none, errW_some] <;> rfl), by repeat (first | (with_reducible first | exact HB.out | apply below_alloc | apply pw_below_drewN | apply below_drew1) | exact HB.out)⟩

/-- THE ONE PURE STATEMENT of outriderlaw01_NumCounts: yours. -/
def outriderlaw01_NumCounts.Pure : Prop := ∀ (a0 : Int) (a1 : Int), (Lit.int .i64 a0).wf = true → (Lit.int .i64 a1).wf = true → ∃ k, outriderlaw01_NumCounts.f k a0 a1 = some true
theorem outriderlaw01_NumCounts.walk (P : outriderlaw01_NumCounts.Pure) (a0 : Int) (a1 : Int) (w : World) (w0 : (Lit.int .i64 a0).wf = true) (w1 : (Lit.int .i64 a1).wf = true) :
    Calls Try.prog 11 #[.int .i64 a0, .int .i64 a1] w fun e w' => e = .returned (.bool true) ∧ Below w.heap.size w w' := by
  obtain ⟨k, h⟩ := P a0 a1 w0 w1
  refine (outriderlaw01_NumCounts.calls k a0 a1 true w h).mono ?_
  rintro e w' ⟨rfl, hd⟩
  exact ⟨rfl, hd⟩

end Go.Proofs.Ytnpkaoogifjofaa.PNum
