/- The pure statement of the law NumCounts: over whole numbers alone, the printed function of the law answers true for every two int64. No condition. -/
import Derived.Test.YtnpkaoogifjofaaNumE
import Derived.Test.YtnpkaoogifjofaaPNumx24
import Derived.Test.YtnpkaoogifjofaaPNumx25
namespace Go.Proofs.Ytnpkaoogifjofaa.Pure
open Go.RowKit Go.Proofs.Ytnpkaoogifjofaa.PNum Go.Proofs.Ytnpkaoogifjofaa.NumA Go.Proofs.YtnpkaoogifjofaaW.PrintWords Go.Proofs.YtnpkaoogifjofaaW.PrintLast Go.Proofs.YtnpkaoogifjofaaW.PrintMore
def plus (x y : Int) : Int := if x > 9223372036854775807 - y then 9223372036854775807 else x + y
theorem plus_eq (a b : Int) (hx : 0 ≤ mx a 0 ∧ mx a 0 ≤ 9223372036854775807) (hy : 0 ≤ mx b 0 ∧ mx b 0 ≤ 9223372036854775807) : num_Plus.f a b = some (plus (mx a 0) (mx b 0)) := by
  unfold num_Plus.f plus
  rw [w64_id (x := 9223372036854775807 - mx b 0) (by omega) (by omega)]
  by_cases h : mx a 0 > 9223372036854775807 - mx b 0
  · rw [if_pos h, if_pos h]
  · rw [if_neg h, if_neg h, w64_id (by omega) (by omega)]
theorem times_eq (a b : Int) (ha : -9223372036854775808 ≤ a) (ha1 : a ≤ 9223372036854775807) (hb : -9223372036854775808 ≤ b) (hb1 : b ≤ 9223372036854775807) : num_Times.f a b = some (My.times a b) := by
  unfold num_Times.f; rw [if_pos ⟨⟨ha, ha1⟩, hb, hb1⟩]
theorem mx_cnt (a : Int) : My.cnt a = mx a 0 := rfl
def prod (x y : Int) : Int := if x = 0 then 0 else if y > 9223372036854775807 / x then 9223372036854775807 else x * y
theorem prod_comm (x y : Int) (hx : 0 ≤ x) (hy : 0 ≤ y) : prod x y = prod y x := by
  unfold prod
  by_cases h1 : x = 0
  · subst h1
    by_cases h2 : y = 0
    · simp [h2]
    · rw [if_pos rfl, if_neg h2, if_neg (by have := Int.ediv_nonneg (show (0 : Int) ≤ 9223372036854775807 by decide) hy; omega)]; simp
  · by_cases h2 : y = 0
    · subst h2
      rw [if_pos rfl, if_neg h1, if_neg (by have := Int.ediv_nonneg (show (0 : Int) ≤ 9223372036854775807 by decide) hx; omega)]; simp
    · rw [if_neg h1, if_neg h2]
      have e1 : y > 9223372036854775807 / x ↔ 9223372036854775807 < y * x := by
        rw [gt_iff_lt, Int.ediv_lt_iff_lt_mul (by omega)]
      have e2 : x > 9223372036854775807 / y ↔ 9223372036854775807 < y * x := by
        rw [gt_iff_lt, Int.ediv_lt_iff_lt_mul (by omega), Int.mul_comm]
      rw [Int.mul_comm x y]
      by_cases h : 9223372036854775807 < y * x
      · rw [if_pos (e1.mpr h), if_pos (e2.mpr h)]
      · rw [if_neg (fun h3 => h (e1.mp h3)), if_neg (fun h3 => h (e2.mp h3))]
theorem NumCounts : outriderlaw01_NumCounts.Pure := by
  intro a b h1 h2
  obtain ⟨ha, ha1⟩ := bd64 h1
  obtain ⟨hb, hb1⟩ := bd64 h2
  refine ⟨100, ?_⟩
  unfold outriderlaw01_NumCounts.f
  have hx : 0 ≤ mx a 0 ∧ mx a 0 ≤ 9223372036854775807 := by unfold mx; split <;> omega
  have hy : 0 ≤ mx b 0 ∧ mx b 0 ≤ 9223372036854775807 := by unfold mx; split <;> omega
  rw [plus_eq a b hx hy, plus_eq b a hy hx, times_eq a b ha ha1 hb hb1, times_eq b a hb hb1 ha ha1]
  have t1 : My.times a b = prod (mx a 0) (mx b 0) := rfl
  have t2 : My.times b a = prod (mx b 0) (mx a 0) := rfl
  rw [t1, t2]
  obtain ⟨x, hxx⟩ : ∃ x, x = mx a 0 := ⟨_, rfl⟩
  obtain ⟨y, hyy⟩ : ∃ y, y = mx b 0 := ⟨_, rfl⟩
  rw [← hxx, ← hyy]
  rw [← hxx] at hx
  rw [← hyy] at hy
  have pc := prod_comm x y hx.1 hy.1
  simp only [Option.bind_some]
  have p0 : plus x y = plus y x := by unfold plus; (repeat' split) <;> omega
  have p1 : ¬ plus x y < x := by unfold plus; split <;> omega
  have p2 : ¬ plus x y < y := by unfold plus; split <;> omega
  rw [if_neg p1, if_neg p2, if_pos p0, ← pc]
  have hj2 : outriderlaw01_NumCounts.j1 99 x y (prod x y) false = some true := by
    simp only [outriderlaw01_NumCounts.j1, Bool.false_eq_true, if_false, outriderlaw01_NumCounts.j2, uw, alive_ge 97 (by omega), Option.bind_some]
    by_cases hx0 : x = 0
    · subst hx0; simp [prod]
    · rw [if_neg hx0]
      by_cases hy0 : y = 0
      · subst hy0
        rw [pc]
        simp [prod]
      · rw [if_neg (by simpa using hy0)]
        have m1 : x % 18446744073709551616 = x := by omega
        have m2 : y % 18446744073709551616 = y := by omega
        have m3 : (9223372036854775807 : Int) % 18446744073709551616 = 9223372036854775807 := by decide
        rw [m1, m2, if_neg hx0]
        by_cases hc : y > 9223372036854775807 / x
        · have e : prod x y = 9223372036854775807 := by unfold prod; rw [if_neg hx0, if_pos hc]
          have d0 := Int.ediv_nonneg (show (0 : Int) ≤ 9223372036854775807 by decide) hx.1
          rw [e, if_pos rfl, m3, Int.tdiv_eq_ediv_of_nonneg (by decide), if_pos (by omega)]
        · have hp := My.prod_le (show 0 < x by omega) hy.1 hc
          have hp0 := Int.mul_nonneg hx.1 hy.1
          have e : prod x y = x * y := by unfold prod; rw [if_neg hx0, if_neg hc]
          have m4 : x * y % 18446744073709551616 = x * y := Int.emod_eq_of_lt hp0 (by omega)
          rw [e, m4, Int.tdiv_eq_ediv_of_nonneg hp0, Int.tmod_eq_emod_of_nonneg hp0, Int.mul_ediv_cancel_left _ hx0, m2, Int.mul_emod_right]
          simp
  have hs : outriderlaw01_NumCounts.j0 100 x y (plus x y) (prod x y) (prod x y != prod x y) = some true := by
    simp only [outriderlaw01_NumCounts.j0, bne_self_eq_false, Bool.false_eq_true, if_false]
    by_cases ht : plus x y = 9223372036854775807
    · rw [if_pos ht, w64_id (by omega) (by omega), decide_eq_false (by unfold plus at ht; split at ht <;> omega)]
      exact hj2
    · rw [if_neg ht]
      have e : plus x y = x + y := by unfold plus at ht ⊢; split at ht <;> first | omega | (rw [if_neg (by omega)])
      rw [e, if_pos (by rw [w64_id (by omega) (by omega)]; omega)]
      exact hj2
  exact hs
end Go.Proofs.Ytnpkaoogifjofaa.Pure
