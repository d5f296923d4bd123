/- The Go function num.Times: the product of two counts, or the greatest int. For every two int64. -/
import Derived.Test.YtnpkaoogifjofaaProg
import Derived.WalkKit
import Derived.Lib.Hide
import Derived.KernelRfl
import Derived.Test.YtnpkaoogifjofaaWWords
import Derived.Test.YtnpkaoogifjofaaWMore
namespace Go.Proofs.Ytnpkaoogifjofaa.My
open Go.RowKit Go.Proofs.YtnpkaoogifjofaaW.PrintWords Go.Proofs.YtnpkaoogifjofaaW.PrintMore
attribute [local go_sem] max2_int max_two
/-- a count: what lies below 0 counts as 0 -/
def cnt (a : Int) : Int := if a < 0 then 0 else a
def times (a b : Int) : Int := if cnt a = 0 then 0 else if cnt b > 9223372036854775807 / cnt a then 9223372036854775807 else cnt a * cnt b
theorem prod_le {x y : Int} (hx : 0 < x) (_hy : 0 ≤ y) (h : ¬ y > 9223372036854775807 / x) : x * y ≤ 9223372036854775807 := by
  have h1 : y ≤ 9223372036854775807 / x := by omega
  have h2 := Int.mul_le_mul_of_nonneg_left h1 (Int.le_of_lt hx)
  have h3 := Int.mul_ediv_self_le (x := 9223372036854775807) (k := x) (by omega)
  omega
set_option maxHeartbeats 400000 in
set_option maxRecDepth 100000 in
theorem times_calls (a b : Int) (ha : -9223372036854775808 ≤ a) (ha1 : a ≤ 9223372036854775807) (hb : -9223372036854775808 ≤ b) (hb1 : b ≤ 9223372036854775807) (w : World) :
    Calls Try.prog 28 #[.int .i64 a, .int .i64 b] w fun e w' => e = .returned (.int .i64 (times a b)) ∧ Below w.heap.size w w' := by
  obtain ⟨y, hy⟩ : ∃ y, y = cnt b := ⟨_, rfl⟩
  have hy0 : 0 ≤ y ∧ y ≤ 9223372036854775807 := by rw [hy]; unfold cnt; split <;> omega
  have hmb : (if b < 0 then 0 else b) = y := hy.symm
  have HY := Lib.hid hy
  clear hy
  by_cases h0 : a ≤ 0
  · have hma : (if a < 0 then 0 else a) = 0 := by split <;> omega
    have hf : times a b = 0 := by unfold times; rw [if_pos (by unfold cnt; exact hma)]
    have HF := Lib.hid hf
    clear hf
    have hz : ((0 : Int) != 0) = false := rfl
    go_enter Try.func28, Try.ntmps28
    go_wp2
    all_goals (try (go_ret; exact ⟨by rw [HF.out]; first | rfl | simp, Below.refl _ _⟩))
  · have hma : (if a < 0 then 0 else a) = a := by split <;> omega
    have hca : cnt a = a := hma
    have HC := Lib.hid hca
    clear hca
    have hnz : (a != 0) = true := by rw [bne_iff_ne]; omega
    by_cases hc : y > 9223372036854775807 / a
    · have hf : times a b = 9223372036854775807 := by unfold times; rw [HC.out, if_neg (by omega), ← HY.out, if_pos hc]
      have HF := Lib.hid hf
      clear hf
      have hd : decide (9223372036854775807 / a < y) = true := decide_eq_true hc
      clear hc
      go_enter Try.func28, Try.ntmps28
      go_wp2
      go_ret
      exact ⟨by rw [HF.out]; rfl, Below.refl _ _⟩
    · have hp := prod_le (by omega) hy0.1 hc
      have hp0 : 0 ≤ a * y := Int.mul_nonneg (by omega) hy0.1
      have hf : times a b = a * y := by unfold times; rw [HC.out, if_neg (by omega), ← HY.out, if_neg hc]
      have HF := Lib.hid hf
      clear hf
      have hd : decide (9223372036854775807 / a < y) = false := decide_eq_false hc
      clear hc
      go_enter Try.func28, Try.ntmps28
      go_wp2
      go_ret
      exact ⟨by rw [HF.out]; rfl, Below.refl _ _⟩
end Go.Proofs.Ytnpkaoogifjofaa.My
