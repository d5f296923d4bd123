/- Plain lemmas on the printed functions of layer 1's document: halves, sums, bits, long division, shifts, order: what they compute in whole numbers. No program in sight. -/
import Derived.Test.YtnpkaoogifjofaaPNumx3
import Derived.Test.YtnpkaoogifjofaaPNumx4
import Derived.Test.YtnpkaoogifjofaaPNumx6
import Derived.Lib.ItoaNum
namespace Go.Proofs.Ytnpkaoogifjofaa.NumA
open Go.RowKit Go.Proofs.Ytnpkaoogifjofaa.PNum Go.Proofs.YtnpkaoogifjofaaW.PrintWords Go.Proofs.YtnpkaoogifjofaaW.PrintLast Go.Proofs.YtnpkaoogifjofaaW.PrintMore

theorem uw (n : Int) : IntKind.u64.wrap n = n % 18446744073709551616 := by simp [IntKind.wrap, IntKind.bits, IntKind.signed]
theorem wraps_u64 (n : Int) (h₀ : 0 ≤ n) (h₁ : n < 2 ^ 64) : IntKind.u64.wrap n = n := by
  rw [uw]; exact Int.emod_eq_of_lt h₀ (by simpa using h₁)
theorem w64_congr {x y : Int} (h : x % 18446744073709551616 = y % 18446744073709551616) : wrap64 x = wrap64 y := by unfold wrap64; omega
theorem w64_mod (x : Int) : wrap64 x % 18446744073709551616 = x % 18446744073709551616 := by unfold wrap64; omega
theorem w64_id {x : Int} (h0 : -9223372036854775808 ≤ x) (h1 : x ≤ 9223372036854775807) : wrap64 x = x := by unfold wrap64; omega
theorem w64_bd (x : Int) : -9223372036854775808 ≤ wrap64 x ∧ wrap64 x ≤ 9223372036854775807 := by unfold wrap64; omega
theorem mask32 (x : Int) (h₀ : 0 ≤ x) (h₁ : x < 18446744073709551616) : Go.bits .and .u64 x 4294967295 = x % 4294967296 := bits_mask .u64 64 (by decide) wraps_u64 32 (by decide) x h₀ (by simpa using h₁)
theorem mask1 (x : Int) (h₀ : 0 ≤ x) (h₁ : x < 18446744073709551616) : Go.bits .and .u64 x 1 = x % 2 := bits_mask .u64 64 (by decide) wraps_u64 1 (by decide) x h₀ (by simpa using h₁)
theorem c32 : (4294967296 : Int) ≤ 2 ^ 64 := by decide
theorem c2 : (2 : Int) ≤ 2 ^ 64 := by decide
theorem join32 (x y : Int) (h0 : 0 ≤ x) (h1 : x < 18446744073709551616) (hx : x % 4294967296 = 0) (h2 : 0 ≤ y) (h3 : y < 4294967296) : Go.bits .or .u64 x y = x + y :=
  bits_join .u64 64 (by decide) wraps_u64 32 x y h0 (by simpa using hx) (by simpa using h1) h2 (by simpa using h3) (Int.lt_of_lt_of_le h3 c32)
theorem join1 (x y : Int) (h0 : 0 ≤ x) (h1 : x < 18446744073709551616) (hx : x % 2 = 0) (h2 : 0 ≤ y) (h3 : y < 2) : Go.bits .or .u64 x y = x + y :=
  bits_join .u64 64 (by decide) wraps_u64 1 x y h0 (by simpa using hx) (by simpa using h1) h2 (by simpa using h3) (Int.lt_of_lt_of_le h3 c2)

theorem half_eq (a : Int) : outriderref01_half.f a = some ((a % 18446744073709551616) % 4294967296, (a % 18446744073709551616) / 4294967296) := by
  unfold outriderref01_half.f; rw [uw, mask32 _ (by omega) (by omega)]
theorem whole_eq (lo hi : Int) (h0 : 0 ≤ lo) (h1 : lo < 18446744073709551616) (_h2 : 0 ≤ hi) : outriderref01_whole.f lo hi = some (wrap64 (hi * 4294967296 + lo % 4294967296)) := by
  unfold outriderref01_whole.f; rw [uw, mask32 _ h0 h1, join32 _ _ (by omega) (by omega) (by omega) (by omega) (by omega)]
  congr 1; exact w64_congr (by omega)
theorem add_eq (a b : Int) : outriderref01_add.f a b = some (wrap64 (a + b)) := by
  unfold outriderref01_add.f
  simp only [half_eq, Option.bind_some, uw]
  rw [whole_eq _ _ (by omega) (by omega) (by omega)]
  simp only [Option.bind_some]
  congr 1; exact w64_congr (by omega)
theorem com_eq (a : Int) : outriderref01_com.f a = some (wrap64 (-a - 1)) := by
  unfold outriderref01_com.f
  simp only [half_eq, Option.bind_some, uw]
  rw [whole_eq _ _ (by omega) (by omega) (by omega)]
  simp only [Option.bind_some]
  congr 1; exact w64_congr (by omega)
theorem neg_eq (a : Int) : outriderref01_neg.f a = some (wrap64 (-a)) := by
  unfold outriderref01_neg.f
  simp only [com_eq, add_eq, Option.bind_some]
  congr 1; exact w64_congr (by rw [Int.add_emod, w64_mod, ← Int.add_emod]; congr 1; omega)
/-- the bit of a number at a place -/
def bt2 (a : Int) (i : Nat) : Bool := (a % 18446744073709551616) / 2 ^ i % 2 == 1
theorem bit_eq (a : Int) (i : Nat) (hi : i < 64) : outriderref01_bit.f a i = some (bt2 a i) := by
  unfold outriderref01_bit.f
  have hi2 : (i : Int) % 18446744073709551616 = i := by omega
  simp only [uw, hi2]
  rw [if_pos (by omega)]
  have hp : (0 : Int) < 2 ^ i := Int.pow_pos (by decide)
  have e : shr .u64 (a % 18446744073709551616) i = (a % 18446744073709551616) / 2 ^ i := by
    unfold shr; simp only [Int.toNat_natCast, IntKind.bits]; rw [Nat.min_eq_left (by omega)]
  rw [e, mask1 _ (Int.ediv_nonneg (by omega) (by omega)) (by
    have := Int.ediv_le_self (2 ^ i) (show 0 ≤ a % 18446744073709551616 by omega); omega)]
  rfl
theorem size_eq (a : Int) (h0 : -9223372036854775808 ≤ a) (h1 : a ≤ 9223372036854775807) : outriderref01_size.f a = some (a.natAbs : Int) := by
  unfold outriderref01_size.f
  split
  · rw [neg_eq]; simp only [Option.bind_some, uw, w64_mod]; congr 1; omega
  · rw [uw]; congr 1; omega
theorem signed_eq (n : Int) (m : Bool) : outriderref01_signed.f n m = some (wrap64 (if m then -n else n)) := by
  unfold outriderref01_signed.f
  cases m
  · rfl
  · simp only [if_true, neg_eq, Option.bind_some]
    congr 1; exact w64_congr (by have := w64_mod n; omega)
theorem truth_eq (b : Bool) : outriderref01_truth.f b = some (if b then 1 else 0) := by unfold outriderref01_truth.f; cases b <;> rfl

/-! long multiplication -/
theorem pow_step (i : Nat) : (2 : Int) ^ (i + 1) = 2 ^ i * 2 := Int.pow_succ 2 i
theorem two_le {i j : Nat} (h : i ≤ j) : (2 : Int) ^ i ≤ 2 ^ j := by exact_mod_cast Nat.pow_le_pow_right (show 0 < 2 by decide) h
theorem mod_step (B : Int) (i : Nat) (hB : 0 ≤ B) : B % 2 ^ (i + 1) = B % 2 ^ i + 2 ^ i * (B / 2 ^ i % 2) := by
  obtain ⟨n, rfl⟩ := Int.eq_ofNat_of_zero_le hB
  have h : n % (2 ^ i * 2) = n % 2 ^ i + 2 ^ i * (n / 2 ^ i % 2) := Nat.mod_mul
  rw [pow_step]
  exact_mod_cast h
theorem mul_loop (a b : Int) (d : Nat) : ∀ (k i : Nat), i + d = 64 → d < k →
    outriderref01_mul.l0 k (wrap64 (a * 2 ^ i)) b (wrap64 (a * ((b % 18446744073709551616) % 2 ^ i))) i = some (wrap64 (a * b)) := by
  induction d with
  | zero =>
    intro k i hi hk
    obtain ⟨k, rfl⟩ : ∃ m, k = m + 1 := ⟨k - 1, by omega⟩
    obtain rfl : i = 64 := by omega
    simp only [outriderref01_mul.l0]
    rw [if_neg (by omega)]
    congr 1
    refine w64_congr ?_
    rw [show (2 : Int) ^ 64 = 18446744073709551616 by decide, Int.emod_emod, Int.mul_emod, Int.emod_emod, ← Int.mul_emod]
  | succ d ih =>
    intro k i hi hk
    obtain ⟨k, rfl⟩ : ∃ m, k = m + 1 := ⟨k - 1, by omega⟩
    have h := ih k (i + 1) (by omega) (by omega)
    have hs := mod_step (b % 18446744073709551616) i (by omega)
    have e1 : wrap64 ((i : Int) + 1) = ((i + 1 : Nat) : Int) := by rw [w64_id (by omega) (by omega)]; omega
    have e2 : wrap64 (wrap64 (a * 2 ^ i) + wrap64 (a * 2 ^ i)) = wrap64 (a * 2 ^ (i + 1)) := by
      refine w64_congr ?_
      rw [Int.add_emod, w64_mod, ← Int.add_emod, pow_step, ← Int.mul_assoc]; congr 1; omega
    simp only [outriderref01_mul.l0]
    rw [if_pos (by omega), bit_eq _ _ (by omega)]
    simp only [Option.bind_some, add_eq, e1, e2]
    by_cases hb : bt2 b i = true
    · rw [if_pos hb]
      unfold bt2 at hb
      have hb1 := of_decide_eq_true hb
      rw [hb1, Int.mul_one] at hs
      have e3 : wrap64 (wrap64 (a * (b % 18446744073709551616 % 2 ^ i)) + wrap64 (a * 2 ^ i)) = wrap64 (a * (b % 18446744073709551616 % 2 ^ (i + 1))) := by
        refine w64_congr ?_
        rw [Int.add_emod, w64_mod, w64_mod, ← Int.add_emod, ← Int.mul_add, hs]
      rw [e3]; exact h
    · rw [if_neg hb]
      unfold bt2 at hb
      have hb1 : b % 18446744073709551616 / 2 ^ i % 2 = 0 := by
        have : ¬ (b % 18446744073709551616 / 2 ^ i % 2 = 1) := fun e => hb (decide_eq_true e)
        omega
      rw [hb1, Int.mul_zero, Int.add_zero] at hs
      rw [← hs]; exact h
theorem mul_eq (a b : Int) (h0 : -9223372036854775808 ≤ a) (h1 : a ≤ 9223372036854775807) (k : Nat) (hk : 64 < k) : outriderref01_mul.f k a b = some (wrap64 (a * b)) := by
  have h := mul_loop a b 64 k 0 (by omega) hk
  simp only [Int.pow_zero, Int.mul_one, Int.emod_one, Int.mul_zero] at h
  rw [w64_id h0 h1, show wrap64 0 = 0 from w64_id (by omega) (by omega)] at h
  exact h

/-! long division -/
theorem div_step (a : Int) (i : Nat) (_h0 : 0 ≤ a) : a / 2 ^ i = a / 2 ^ (i + 1) * 2 + a / 2 ^ i % 2 := by
  have hp : (0 : Int) < 2 ^ i := Int.pow_pos (by decide)
  rw [pow_step, ← Int.ediv_ediv_of_nonneg (by omega)]
  omega
theorem long_loop (a b : Int) (h0 : 0 ≤ a) (h1 : a < 18446744073709551616) (hb : 0 < b) (hb1 : b < 18446744073709551616) (d : Nat) : ∀ (k : Nat) (q r : Int), d ≤ 64 → d < k → 0 ≤ q → q < 2 ^ (64 - d) → 0 ≤ r → r < b → q * b + r = a / 2 ^ d →
    outriderref01_Long.l0 k a b q r ((d : Int) - 1) = some (a / b, a % b) := by
  induction d with
  | zero =>
    intro k q r _ hk hq hq1 hr hr1 h
    obtain ⟨k, rfl⟩ : ∃ m, k = m + 1 := ⟨k - 1, by omega⟩
    simp only [outriderref01_Long.l0]
    rw [if_neg (by omega)]
    simp only [Int.pow_zero, Int.ediv_one] at h
    have e1 : a / b = q := by rw [← h, Int.add_comm, Int.add_mul_ediv_right _ _ (by omega), Int.ediv_eq_zero_of_lt hr hr1, Int.zero_add]
    have e2 : a % b = r := by rw [← h, Int.add_comm, Int.add_mul_emod_self_right, Int.emod_eq_of_lt hr hr1]
    rw [e1, e2]
  | succ d ih =>
    intro k q r hd hk hq hq1 hr hr1 h
    obtain ⟨k, rfl⟩ : ∃ m, k = m + 1 := ⟨k - 1, by omega⟩
    have hi : ((d + 1 : Nat) : Int) - 1 = d := by omega
    rw [hi]
    have hi2 : (d : Int) % 18446744073709551616 = d := by omega
    have hs := div_step a d h0
    obtain ⟨t, ht⟩ : ∃ t, t = a / 2 ^ d % 2 := ⟨_, rfl⟩
    have ht2 : 0 ≤ t ∧ t < 2 := by omega
    have hq2 : q < 9223372036854775808 := by
      have : (2 : Int) ^ (64 - (d + 1)) ≤ 2 ^ 63 := two_le (by omega)
      have e : (2 : Int) ^ 63 = 9223372036854775808 := by decide
      omega
    have hq3 : q * 2 + 1 < 2 ^ (64 - d) := by
      rw [show 64 - d = (64 - (d + 1)) + 1 by omega, pow_step]; omega
    have e : shr .u64 a d = a / 2 ^ d := by
      unfold shr; simp only [Int.toNat_natCast, IntKind.bits]; rw [Nat.min_eq_left (by omega)]
    have hx0 : 0 ≤ a / 2 ^ d := Int.ediv_nonneg h0 (Int.le_of_lt (Int.pow_pos (by decide)))
    have hx1 : a / 2 ^ d < 18446744073709551616 := by have := Int.ediv_le_self (2 ^ d) h0; omega
    have e1 : Go.bits .or .u64 (r * 2 % 18446744073709551616) t = r * 2 % 18446744073709551616 + t := join1 _ _ (by omega) (by omega) (by omega) ht2.1 ht2.2
    have e2 : Go.bits .or .u64 (q * 2 % 18446744073709551616) 1 = q * 2 + 1 := by rw [join1 _ _ (by omega) (by omega) (by omega) (by omega) (by omega)]; omega
    have e3 : q * 2 % 18446744073709551616 = q * 2 := by omega
    have e4 : wrap64 ((d : Int) - 1) = (d : Int) - 1 := w64_id (by omega) (by omega)
    have hn : (q * 2) * b + (r * 2 + t) = a / 2 ^ d := by rw [hs, ← h, ht, Int.add_mul, Int.mul_assoc, Int.mul_assoc, Int.mul_comm 2 b]; omega
    simp only [outriderref01_Long.l0]
    rw [if_pos (by omega)]
    simp only [uw, hi2, e]
    rw [mask1 _ hx0 hx1, ← ht, e1, e2, e3, e4, if_pos (by omega)]
    by_cases ho : r / 9223372036854775808 = 1
    · rw [if_pos ho]
      have e5 : (r * 2 % 18446744073709551616 + t - b) % 18446744073709551616 = r * 2 + t - b := by omega
      rw [e5]
      exact ih k _ _ (by omega) (by omega) (by omega) (by omega) (by omega) (by omega) (by rw [Int.add_mul]; omega)
    · rw [if_neg ho]
      have e6 : r * 2 % 18446744073709551616 = r * 2 := by omega
      rw [e6]
      by_cases hc : r * 2 + t ≥ b
      · rw [if_pos hc]
        have e5 : (r * 2 + t - b) % 18446744073709551616 = r * 2 + t - b := by omega
        rw [e5]
        exact ih k _ _ (by omega) (by omega) (by omega) (by omega) (by omega) (by omega) (by rw [Int.add_mul]; omega)
      · rw [if_neg hc]
        exact ih k _ _ (by omega) (by omega) (by omega) (by omega) (by omega) (by omega) hn
theorem long_eq (a b : Int) (h0 : 0 ≤ a) (h1 : a < 18446744073709551616) (hb : 0 < b) (hb1 : b < 18446744073709551616) (k : Nat) (hk : 64 < k) : outriderref01_Long.f k a b = some (a / b, a % b) := by
  have e : a / 2 ^ 64 = 0 := Int.ediv_eq_zero_of_lt h0 (by simpa using h1)
  have h := long_loop a b h0 h1 hb hb1 64 k 0 0 (by omega) hk (by omega) (by decide) (by omega) hb (by rw [e]; omega)
  exact h
end Go.Proofs.Ytnpkaoogifjofaa.NumA
