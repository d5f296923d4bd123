/- Plain lemmas on the printed functions of the document's numbers: what they compute in whole numbers; what the document's operations give in memory. -/
import Derived.Test.YtjlnpppjkdcpkaaERPNumx1
import Derived.Test.YtjlnpppjkdcpkaaERPNumx3
import Derived.Test.YtjlnpppjkdcpkaaERPNumx4
import Derived.Test.YtjlnpppjkdcpkaaERPNumx5
import Derived.Test.YtjlnpppjkdcpkaaERPNumx6
import Derived.Test.YtjlnpppjkdcpkaaERPNumx7
import Derived.Test.YtjlnpppjkdcpkaaERNumH
import Derived.Lib.ItoaNum
import Derived.Below
namespace Go.Proofs.Ytjlnpppjkdcpkaa.NumA
open Go.RowKit Go.Proofs.Ytjlnpppjkdcpkaa.PNum Go.Proofs.YtjlnpppjkdcpkaaW.PrintWords Go.Proofs.YtjlnpppjkdcpkaaW.PrintLast Go.Proofs.YtjlnpppjkdcpkaaW.PrintMore
set_option linter.unusedVariables false
theorem wraps_u64 (n : Int) (h₀ : 0 ≤ n) (h₁ : n < 2 ^ 64) : IntKind.u64.wrap n = n := by
 rw [uw]; exact Int.emod_eq_of_lt h₀ (by simpa using h₁)
theorem w64_congr {x y : Int} (h : x % 18446744073709551616 = y % 18446744073709551616) : wrap64 x = wrap64 y := by unfold wrap64; omega
theorem w64_mod (x : Int) : wrap64 x % 18446744073709551616 = x % 18446744073709551616 := by unfold wrap64; omega
theorem mask32 (x : Int) (h₀ : 0 ≤ x) (h₁ : x < 18446744073709551616) : Go.bits .and .u64 x 4294967295 = x % 4294967296 := bits_mask .u64 64 (by decide) wraps_u64 32 (by decide) x h₀ (by simpa using h₁)
theorem mask1 (x : Int) (h₀ : 0 ≤ x) (h₁ : x < 18446744073709551616) : Go.bits .and .u64 x 1 = x % 2 := bits_mask .u64 64 (by decide) wraps_u64 1 (by decide) x h₀ (by simpa using h₁)
theorem c32 : (4294967296 : Int) ≤ 2 ^ 64 := by decide
theorem c2 : (2 : Int) ≤ 2 ^ 64 := by decide
theorem join32 (x y : Int) (h0 : 0 ≤ x) (h1 : x < 18446744073709551616) (hx : x % 4294967296 = 0) (h2 : 0 ≤ y) (h3 : y < 4294967296) : Go.bits .or .u64 x y = x + y :=
 bits_join .u64 64 (by decide) wraps_u64 32 x y h0 (by simpa using hx) (by simpa using h1) h2 (by simpa using h3) (Int.lt_of_lt_of_le h3 c32)
theorem join1 (x y : Int) (h0 : 0 ≤ x) (h1 : x < 18446744073709551616) (hx : x % 2 = 0) (h2 : 0 ≤ y) (h3 : y < 2) : Go.bits .or .u64 x y = x + y :=
 bits_join .u64 64 (by decide) wraps_u64 1 x y h0 (by simpa using hx) (by simpa using h1) h2 (by simpa using h3) (Int.lt_of_lt_of_le h3 c2)
theorem half_eq (a : Int) : outriderref01_half.f a = some ((a % 18446744073709551616) % 4294967296, (a % 18446744073709551616) / 4294967296) := by
 unfold outriderref01_half.f; rw [uw, mask32 _ (by omega) (by omega)]
theorem whole_eq (lo hi : Int) (h0 : 0 ≤ lo) (h1 : lo < 18446744073709551616) (_h2 : 0 ≤ hi) : outriderref01_whole.f lo hi = some (wrap64 (hi * 4294967296 + lo % 4294967296)) := by
 unfold outriderref01_whole.f; rw [uw, mask32 _ h0 h1, join32 _ _ (by omega) (by omega) (by omega) (by omega) (by omega)]
 congr 1; exact w64_congr (by omega)
theorem add_eq (a b : Int) : outriderref01_add.f a b = some (wrap64 (a + b)) := by
 unfold outriderref01_add.f
 simp only [half_eq, Option.bind_some, uw]
 rw [whole_eq _ _ (by omega) (by omega) (by omega)]
 simp only [Option.bind_some]
 congr 1; exact w64_congr (by omega)
theorem com_eq (a : Int) : outriderref01_com.f a = some (wrap64 (-a - 1)) := by
 unfold outriderref01_com.f
 simp only [half_eq, Option.bind_some, uw]
 rw [whole_eq _ _ (by omega) (by omega) (by omega)]
 simp only [Option.bind_some]
 congr 1; exact w64_congr (by omega)
theorem neg_eq (a : Int) : outriderref01_neg.f a = some (wrap64 (-a)) := by
 unfold outriderref01_neg.f
 simp only [com_eq, add_eq, Option.bind_some]
 congr 1; exact w64_congr (by rw [Int.add_emod, w64_mod, ← Int.add_emod]; congr 1; omega)
/-- the bit of a number at a place -/
def bt2 (a : Int) (i : Nat) : Bool := (a % 18446744073709551616) / 2 ^ i % 2 == 1
theorem bit_eq (a : Int) (i : Nat) (hi : i < 64) : outriderref01_bit.f a i = some (bt2 a i) := by
 unfold outriderref01_bit.f
 have hi2 : (i : Int) % 18446744073709551616 = i := by omega
 simp only [uw, hi2]
 rw [if_pos (by omega)]
 have hp : (0 : Int) < 2 ^ i := Int.pow_pos (by decide)
 have e : shr .u64 (a % 18446744073709551616) i = (a % 18446744073709551616) / 2 ^ i := by
  unfold shr; simp only [Int.toNat_natCast, IntKind.bits]; rw [Nat.min_eq_left (by omega)]
 rw [e, mask1 _ (Int.ediv_nonneg (by omega) (by omega)) (by
  have := Int.ediv_le_self (2 ^ i) (show 0 ≤ a % 18446744073709551616 by omega); omega)]
 rfl
theorem size_eq (a : Int) (h0 : -9223372036854775808 ≤ a) (h1 : a ≤ 9223372036854775807) : outriderref01_size.f a = some (a.natAbs : Int) := by
 unfold outriderref01_size.f
 split
 ·rw [neg_eq]; simp only [Option.bind_some, uw, w64_mod]; congr 1; omega
 ·rw [uw]; congr 1; omega
theorem signed_eq (n : Int) (m : Bool) : outriderref01_signed.f n m = some (wrap64 (if m then -n else n)) := by
 unfold outriderref01_signed.f
 cases m
 ·rfl
 ·simp only [if_true, neg_eq, Option.bind_some]
  congr 1; exact w64_congr (by have := w64_mod n; omega)
theorem truth_eq (b : Bool) : outriderref01_truth.f b = some (if b then 1 else 0) := by unfold outriderref01_truth.f; cases b <;> rfl
theorem pow_step (i : Nat) : (2 : Int) ^ (i + 1) = 2 ^ i * 2 := Int.pow_succ 2 i
theorem two_le {i j : Nat} (h : i ≤ j) : (2 : Int) ^ i ≤ 2 ^ j := by exact_mod_cast Nat.pow_le_pow_right (show 0 < 2 by decide) h
theorem mod_step (B : Int) (i : Nat) (hB : 0 ≤ B) : B % 2 ^ (i + 1) = B % 2 ^ i + 2 ^ i * (B / 2 ^ i % 2) := by
 obtain ⟨n, rfl⟩ := Int.eq_ofNat_of_zero_le hB; have h : n % (2 ^ i * 2) = n % 2 ^ i + 2 ^ i * (n / 2 ^ i % 2) := Nat.mod_mul
 rw [pow_step]; exact_mod_cast h
theorem mul_loop (a b : Int) (d : Nat) : ∀ (k i : Nat), i + d = 64 → d < k →
  outriderref01_mul.l0 k (wrap64 (a * 2 ^ i)) b (wrap64 (a * ((b % 18446744073709551616) % 2 ^ i))) i = some (wrap64 (a * b)) := by
 induction d with
 | zero =>
  intro k i hi hk; obtain ⟨k, rfl⟩ : ∃ m, k = m + 1 := ⟨k - 1, by omega⟩
  obtain rfl : i = 64 := by omega
  simp only [outriderref01_mul.l0]
  rw [if_neg (by omega)]
  congr 1
  refine w64_congr ?_; rw [show (2 : Int) ^ 64 = 18446744073709551616 by decide, Int.emod_emod, Int.mul_emod, Int.emod_emod, ← Int.mul_emod]
 | succ d ih =>
  intro k i hi hk; obtain ⟨k, rfl⟩ : ∃ m, k = m + 1 := ⟨k - 1, by omega⟩
  have h := ih k (i + 1) (by omega) (by omega)
  have hs := mod_step (b % 18446744073709551616) i (by omega)
  have e1 : wrap64 ((i : Int) + 1) = ((i + 1 : Nat) : Int) := by rw [w64_id (by omega) (by omega)]; omega
  have e2 : wrap64 (wrap64 (a * 2 ^ i) + wrap64 (a * 2 ^ i)) = wrap64 (a * 2 ^ (i + 1)) := by
   refine w64_congr ?_; rw [Int.add_emod, w64_mod, ← Int.add_emod, pow_step, ← Int.mul_assoc]; congr 1; omega
  simp only [outriderref01_mul.l0]
  rw [if_pos (by omega), bit_eq _ _ (by omega)]
  simp only [Option.bind_some, add_eq, e1, e2]
  by_cases hb : bt2 b i = true
  ·rw [if_pos hb]
   unfold bt2 at hb; have hb1 := of_decide_eq_true hb; rw [hb1, Int.mul_one] at hs; have e3 : wrap64 (wrap64 (a * (b % 18446744073709551616 % 2 ^ i)) + wrap64 (a * 2 ^ i)) = wrap64 (a * (b % 18446744073709551616 % 2 ^ (i + 1))) := by
    refine w64_congr ?_; rw [Int.add_emod, w64_mod, w64_mod, ← Int.add_emod, ← Int.mul_add, hs]
   rw [e3]; exact h
  ·rw [if_neg hb]
   unfold bt2 at hb; have hb1 : b % 18446744073709551616 / 2 ^ i % 2 = 0 := by
    have : ¬ (b % 18446744073709551616 / 2 ^ i % 2 = 1) := fun e => hb (decide_eq_true e)
    omega
   rw [hb1, Int.mul_zero, Int.add_zero] at hs; rw [← hs]; exact h
theorem mul_eq (a b : Int) (h0 : -9223372036854775808 ≤ a) (h1 : a ≤ 9223372036854775807) (k : Nat) (hk : 64 < k) : outriderref01_mul.f k a b = some (wrap64 (a * b)) := by
 have h := mul_loop a b 64 k 0 (by omega) hk
 simp only [Int.pow_zero, Int.mul_one, Int.emod_one, Int.mul_zero] at h
 rw [w64_id h0 h1, show wrap64 0 = 0 from w64_id (by omega) (by omega)] at h
 exact h
theorem div_step (a : Int) (i : Nat) (_h0 : 0 ≤ a) : a / 2 ^ i = a / 2 ^ (i + 1) * 2 + a / 2 ^ i % 2 := by
 have hp : (0 : Int) < 2 ^ i := Int.pow_pos (by decide)
 rw [pow_step, ← Int.ediv_ediv_of_nonneg (by omega)]
 omega
theorem long_loop (a b : Int) (h0 : 0 ≤ a) (h1 : a < 18446744073709551616) (hb : 0 < b) (hb1 : b < 18446744073709551616) (d : Nat) : ∀ (k : Nat) (q r : Int), d ≤ 64 → d < k → 0 ≤ q → q < 2 ^ (64 - d) → 0 ≤ r → r < b → q * b + r = a / 2 ^ d →
  outriderref01_Long.l0 k a b q r ((d : Int) - 1) = some (a / b, a % b) := by
 induction d with
 | zero =>
  intro k q r _ hk hq hq1 hr hr1 h; obtain ⟨k, rfl⟩ : ∃ m, k = m + 1 := ⟨k - 1, by omega⟩
  simp only [outriderref01_Long.l0]
  rw [if_neg (by omega)]
  simp only [Int.pow_zero, Int.ediv_one] at h
  have e1 : a / b = q := by rw [← h, Int.add_comm, Int.add_mul_ediv_right _ _ (by omega), Int.ediv_eq_zero_of_lt hr hr1, Int.zero_add]
  have e2 : a % b = r := by rw [← h, Int.add_comm, Int.add_mul_emod_self_right, Int.emod_eq_of_lt hr hr1]
  rw [e1, e2]
 | succ d ih =>
  intro k q r hd hk hq hq1 hr hr1 h; obtain ⟨k, rfl⟩ : ∃ m, k = m + 1 := ⟨k - 1, by omega⟩
  have hi : ((d + 1 : Nat) : Int) - 1 = d := by omega
  rw [hi]; have hi2 : (d : Int) % 18446744073709551616 = d := by omega
  have hs := div_step a d h0; obtain ⟨t, ht⟩ : ∃ t, t = a / 2 ^ d % 2 := ⟨_, rfl⟩
  have ht2 : 0 ≤ t ∧ t < 2 := by omega
  have hq2 : q < 9223372036854775808 := by
   have : (2 : Int) ^ (64 - (d + 1)) ≤ 2 ^ 63 := two_le (by omega)
   have e : (2 : Int) ^ 63 = 9223372036854775808 := by decide
   omega
  have hq3 : q * 2 + 1 < 2 ^ (64 - d) := by
   rw [show 64 - d = (64 - (d + 1)) + 1 by omega, pow_step]; omega
  have e : shr .u64 a d = a / 2 ^ d := by
   unfold shr; simp only [Int.toNat_natCast, IntKind.bits]; rw [Nat.min_eq_left (by omega)]
  have hx0 : 0 ≤ a / 2 ^ d := Int.ediv_nonneg h0 (Int.le_of_lt (Int.pow_pos (by decide)))
  have hx1 : a / 2 ^ d < 18446744073709551616 := by have := Int.ediv_le_self (2 ^ d) h0; omega
  have e1 : Go.bits .or .u64 (r * 2 % 18446744073709551616) t = r * 2 % 18446744073709551616 + t := join1 _ _ (by omega) (by omega) (by omega) ht2.1 ht2.2
  have e2 : Go.bits .or .u64 (q * 2 % 18446744073709551616) 1 = q * 2 + 1 := by rw [join1 _ _ (by omega) (by omega) (by omega) (by omega) (by omega)]; omega
  have e3 : q * 2 % 18446744073709551616 = q * 2 := by omega
  have e4 : wrap64 ((d : Int) - 1) = (d : Int) - 1 := w64_id (by omega) (by omega)
  have hn : (q * 2) * b + (r * 2 + t) = a / 2 ^ d := by rw [hs, ← h, ht, Int.add_mul, Int.mul_assoc, Int.mul_assoc, Int.mul_comm 2 b]; omega
  simp only [outriderref01_Long.l0]
  rw [if_pos (by omega)]
  simp only [uw, hi2, e]
  rw [mask1 _ hx0 hx1, ← ht, e1, e2, e3, e4, if_pos (by omega)]
  by_cases ho : r / 9223372036854775808 = 1
  ·rw [if_pos ho]
   have e5 : (r * 2 % 18446744073709551616 + t - b) % 18446744073709551616 = r * 2 + t - b := by omega
   rw [e5]; exact ih k _ _ (by omega) (by omega) (by omega) (by omega) (by omega) (by omega) (by rw [Int.add_mul]; omega)
  ·rw [if_neg ho]
   have e6 : r * 2 % 18446744073709551616 = r * 2 := by omega
   rw [e6]; by_cases hc : r * 2 + t ≥ b
   ·rw [if_pos hc]
    have e5 : (r * 2 + t - b) % 18446744073709551616 = r * 2 + t - b := by omega
    rw [e5]; exact ih k _ _ (by omega) (by omega) (by omega) (by omega) (by omega) (by omega) (by rw [Int.add_mul]; omega)
   ·rw [if_neg hc]
    exact ih k _ _ (by omega) (by omega) (by omega) (by omega) (by omega) (by omega) hn
theorem long_eq (a b : Int) (h0 : 0 ≤ a) (h1 : a < 18446744073709551616) (hb : 0 < b) (hb1 : b < 18446744073709551616) (k : Nat) (hk : 64 < k) : outriderref01_Long.f k a b = some (a / b, a % b) := by
 have e : a / 2 ^ 64 = 0 := Int.ediv_eq_zero_of_lt h0 (by simpa using h1)
 have h := long_loop a b h0 h1 hb hb1 64 k 0 0 (by omega) hk (by omega) (by decide) (by omega) hb (by rw [e]; omega)
 exact h
theorem half_lt {A B m : Int} (hm : 0 < m) (h : A / m < B / m) : A < B := by
 rcases Int.lt_or_le A B with h1 | h1
 ·exact h1
 ·have := Int.ediv_le_ediv hm h1; omega
theorem below_loop (a b : Int) (hs : decide (a < 0) = decide (b < 0)) (ha : -9223372036854775808 ≤ a) (ha1 : a ≤ 9223372036854775807) (hb : -9223372036854775808 ≤ b) (hb1 : b ≤ 9223372036854775807) (d : Nat) : ∀ (k : Nat), d ≤ 64 → d < k → (a % 18446744073709551616) / 2 ^ d = (b % 18446744073709551616) / 2 ^ d →
  outriderref01_below.l0 k a b ((d : Int) - 1) = some (decide (a < b)) := by
 have hA : (a < b) ↔ (a % 18446744073709551616 < b % 18446744073709551616) := by
  rw [decide_eq_decide] at hs; omega
 induction d with
 | zero =>
  intro k _ hk h; obtain ⟨k, rfl⟩ : ∃ m, k = m + 1 := ⟨k - 1, by omega⟩
  simp only [outriderref01_below.l0]
  rw [if_neg (by omega)]
  simp only [Int.pow_zero, Int.ediv_one] at h
  rw [decide_eq_false (by rw [hA]; omega)]
 | succ d ih =>
  intro k hd hk h; obtain ⟨k, rfl⟩ : ∃ m, k = m + 1 := ⟨k - 1, by omega⟩
  have e4 : wrap64 ((d : Int) - 1) = (d : Int) - 1 := w64_id (by omega) (by omega)
  have h1 := div_step (a % 18446744073709551616) d (by omega)
  have h2 := div_step (b % 18446744073709551616) d (by omega)
  have hp : (0 : Int) < 2 ^ d := Int.pow_pos (by decide)
  simp only [outriderref01_below.l0, show ((d + 1 : Nat) : Int) - 1 = d by omega, e4]
  rw [if_pos (by omega), bit_eq _ _ (by omega), bit_eq _ _ (by omega)]
  simp only [Option.bind_some]
  by_cases he : (bt2 a d != bt2 b d) = true
  ·rw [if_pos he]
   congr 1
   unfold bt2 at he ⊢; rw [h] at h1; by_cases hb2 : b % 18446744073709551616 / 2 ^ d % 2 = 1
   ·have ha2 : a % 18446744073709551616 / 2 ^ d % 2 = 0 := by
     have : ¬ a % 18446744073709551616 / 2 ^ d % 2 = 1 := fun e => by simp [e, hb2] at he
     omega
    rw [show (b % 18446744073709551616 / 2 ^ d % 2 == 1) = true from beq_iff_eq.mpr hb2, decide_eq_true]
    rw [hA]; exact half_lt hp (by omega)
   ·have ha2 : a % 18446744073709551616 / 2 ^ d % 2 = 1 := by
     rcases Int.emod_two_eq (a % 18446744073709551616 / 2 ^ d) with e | e
     ·have e2 : b % 18446744073709551616 / 2 ^ d % 2 = 0 := by omega
      simp [e, e2] at he
     ·exact e
    rw [show (b % 18446744073709551616 / 2 ^ d % 2 == 1) = false from beq_eq_false_iff_ne.mpr hb2, decide_eq_false]
    rw [hA]; have : b % 18446744073709551616 < a % 18446744073709551616 := half_lt hp (by omega)
    omega
  ·rw [if_neg he]
   refine ih k (by omega) (by omega) ?_
   have he2 : bt2 a d = bt2 b d := by simpa using he
   unfold bt2 at he2; have he3 : a % 18446744073709551616 / 2 ^ d % 2 = b % 18446744073709551616 / 2 ^ d % 2 := by
    rcases Int.emod_two_eq (a % 18446744073709551616 / 2 ^ d) with e | e <;> rcases Int.emod_two_eq (b % 18446744073709551616 / 2 ^ d) with e2 | e2 <;> rw [e, e2] at he2 ⊢ <;> exact absurd he2 (by decide)
   omega
theorem below_eq (a b : Int) (ha : -9223372036854775808 ≤ a) (ha1 : a ≤ 9223372036854775807) (hb : -9223372036854775808 ≤ b) (hb1 : b ≤ 9223372036854775807) (k : Nat) (hk : 64 < k) : outriderref01_below.f k a b = some (decide (a < b)) := by
 unfold outriderref01_below.f
 by_cases hs : decide (a < 0) = decide (b < 0)
 ·rw [if_neg (by simp [hs])]
  exact below_loop a b hs ha ha1 hb hb1 64 k (by omega) hk (by
   rw [show (2 : Int) ^ 64 = 18446744073709551616 by decide]; omega)
 ·rw [if_pos (by simpa using hs)]
  congr 1
  rw [decide_eq_decide] at hs ⊢; omega
def fop (op : Int) (x y : Bool) : Bool := if op = 8 then x != y else if op = 7 then x || y else x && y
theorem shl1 (i : Nat) (hi : i < 64) : shl .u64 1 (i : Int) = 2 ^ i := by
 unfold shl; simp only [Int.toNat_natCast, IntKind.bits, Int.one_mul]
 rw [Nat.min_eq_left (by omega)]
 refine wraps_u64 _ (Int.le_of_lt (Int.pow_pos (by decide))) ?_
 exact_mod_cast Nat.pow_lt_pow_right (show 1 < 2 by decide) hi
theorem or_comm64 (x y : Int) : Go.bits .or .u64 x y = Go.bits .or .u64 y x := by unfold Go.bits; simp only [BitVec.or_comm]
theorem or_pow (x : Int) (i : Nat) (hi : i < 64) (h0 : 0 ≤ x) (h1 : x < 2 ^ i) : Go.bits .or .u64 x (2 ^ i) = x + 2 ^ i := by
 have hp : (0 : Int) < 2 ^ i := Int.pow_pos (by decide)
 have h3 : (2 : Int) ^ i < 2 ^ 64 := by exact_mod_cast Nat.pow_lt_pow_right (show 1 < 2 by decide) hi
 rw [or_comm64, bits_join .u64 64 (by decide) wraps_u64 i (2 ^ i) x (by omega) Int.emod_self h3 h0 h1 (by omega)]; omega
theorem logic_round (op a b x : Int) (i : Nat) (hi : i < 64) (h0 : 0 ≤ x) (h1 : x < 2 ^ i) (k : Nat) :
  outriderref01_logic.l0 (k + 3) op a b x i = outriderref01_logic.l0 k op a b (if fop op (bt2 a i) (bt2 b i) then x + 2 ^ i else x) ((i + 1 : Nat) : Int) := by
 have e1 : wrap64 ((i : Int) + 1) = ((i + 1 : Nat) : Int) := by rw [w64_id (by omega) (by omega)]; omega
 have hi2 : (i : Int) % 18446744073709551616 = i := by omega
 simp only [outriderref01_logic.l0, outriderref01_logic.j1, outriderref01_logic.j2]
 rw [if_pos (by omega), bit_eq _ _ hi, bit_eq _ _ hi]
 simp only [Option.bind_some, uw, hi2, shl1 i hi, or_pow x i hi h0 h1, e1, show (0 : Int) ≤ (i : Int) by omega, if_true]
 unfold fop; by_cases h8 : op = 8
 ·subst h8
  cases bt2 a i <;> cases bt2 b i <;> simp
 ·by_cases h7 : op = 7
  ·subst h7
   cases bt2 a i <;> cases bt2 b i <;> simp
  ·cases bt2 a i <;> cases bt2 b i <;> simp [h8, h7]
theorem logic_loop (op a b Z : Int) (hZ0 : 0 ≤ Z) (hZ : ∀ i : Nat, i < 64 → (Z / 2 ^ i % 2 = 1 ↔ fop op (bt2 a i) (bt2 b i) = true)) (d : Nat) : ∀ (k i : Nat), i + d = 64 → 3 * d < k →
  outriderref01_logic.l0 k op a b (Z % 2 ^ i) i = some (wrap64 (Z % 2 ^ 64)) := by
 induction d with
 | zero =>
  intro k i hi hk; obtain ⟨k, rfl⟩ : ∃ m, k = m + 1 := ⟨k - 1, by omega⟩
  obtain rfl : i = 64 := by omega
  simp only [outriderref01_logic.l0]
  rw [if_neg (by omega)]
 | succ d ih =>
  intro k i hi hk; obtain ⟨k, rfl⟩ : ∃ m, k = m + 3 := ⟨k - 3, by omega⟩
  have hp : (0 : Int) < 2 ^ i := Int.pow_pos (by decide)
  rw [logic_round op a b _ i (by omega) (Int.emod_nonneg _ (by omega)) (Int.emod_lt_of_pos _ hp)]
  rw [← ih k (i + 1) (by omega) (by omega)]
  congr 1
  rw [mod_step Z i hZ0]; have h := hZ i (by omega)
  by_cases hb : fop op (bt2 a i) (bt2 b i) = true
  ·rw [if_pos hb, h.mpr hb, Int.mul_one]
  ·rw [if_neg hb]
   have : Z / 2 ^ i % 2 = 0 := by
    have : ¬ Z / 2 ^ i % 2 = 1 := fun e => hb (h.mp e)
    omega
   rw [this, Int.mul_zero, Int.add_zero]
theorem getBit (a : Int) (i : Nat) (_hi : i < 64) : (BitVec.ofInt 64 a).getLsbD i = bt2 a i := by
 obtain ⟨n, hn⟩ := Int.eq_ofNat_of_zero_le (show 0 ≤ a % 18446744073709551616 by omega)
 have e : (BitVec.ofInt 64 a).toNat = n := by
  rw [BitVec.toNat_ofInt]; have : a % ((2 ^ 64 : Nat) : Int) = n := by simpa using hn
  rw [this]; rfl
 rw [BitVec.getLsbD, e, Nat.testBit_eq_decide_div_mod_eq]; unfold bt2; rw [hn]; have h2 : ((n / 2 ^ i % 2 : Nat) : Int) = (n : Int) / 2 ^ i % 2 := by simp
 rw [← h2, Bool.eq_iff_iff, decide_eq_true_iff, beq_iff_eq]; omega
theorem bitOf (X : BitVec 64) (i : Nat) : ((X.toNat : Int) / 2 ^ i % 2 = 1 ↔ X.getLsbD i = true) := by
 rw [BitVec.getLsbD, Nat.testBit_eq_decide_div_mod_eq, decide_eq_true_iff]; have h2 : ((X.toNat / 2 ^ i % 2 : Nat) : Int) = (X.toNat : Int) / 2 ^ i % 2 := by simp
 rw [← h2]; omega
theorem bits_or64 (a b : Int) : Go.bits .or .i64 a b = wrap64 ((BitVec.ofInt 64 a ||| BitVec.ofInt 64 b).toNat : Int) := by rw [← i64w]; rfl
theorem bits_xor64 (a b : Int) : Go.bits .xor .i64 a b = wrap64 ((BitVec.ofInt 64 a ^^^ BitVec.ofInt 64 b).toNat : Int) := by rw [← i64w]; rfl
theorem logic_fin (op a b : Int) (X : BitVec 64) (hX : ∀ i : Nat, i < 64 → X.getLsbD i = fop op (bt2 a i) (bt2 b i)) (k : Nat) (hk : 192 < k) : outriderref01_logic.f k op a b = some (wrap64 (X.toNat : Int)) := by
 have h := logic_loop op a b (X.toNat : Int) (by omega) (fun i hi => by rw [bitOf, hX i hi]) 64 k 0 (by omega) (by omega)
 have e : (X.toNat : Int) % 2 ^ 64 = X.toNat := Int.emod_eq_of_lt (by omega) (by exact_mod_cast X.isLt)
 rw [e] at h; simp only [Int.pow_zero, Int.emod_one] at h
 exact h
theorem and_eq (a b : Int) (k : Nat) (hk : 192 < k) : outriderref01_logic.f k 6 a b = some (Go.bits .and .i64 a b) := by
 rw [logic_fin 6 a b (BitVec.ofInt 64 a &&& BitVec.ofInt 64 b) (fun i hi => by rw [BitVec.getLsbD_and, getBit a i hi, getBit b i hi]; rfl) k hk, bits_and64]
theorem or_eq (a b : Int) (k : Nat) (hk : 192 < k) : outriderref01_logic.f k 7 a b = some (Go.bits .or .i64 a b) := by
 rw [logic_fin 7 a b (BitVec.ofInt 64 a ||| BitVec.ofInt 64 b) (fun i hi => by rw [BitVec.getLsbD_or, getBit a i hi, getBit b i hi]; rfl) k hk, bits_or64]
theorem xor_eq (a b : Int) (k : Nat) (hk : 192 < k) : outriderref01_logic.f k 8 a b = some (Go.bits .xor .i64 a b) := by
 rw [logic_fin 8 a b (BitVec.ofInt 64 a ^^^ BitVec.ofInt 64 b) (fun i hi => by rw [BitVec.getLsbD_xor, getBit a i hi, getBit b i hi]; simp [fop]) k hk, bits_xor64]
theorem shl_loop (n : Nat) : ∀ (k : Nat) (x : Int), n < 64 → n < k → outriderref01_moved.l0 k 9 (wrap64 x) n = some (wrap64 (x * 2 ^ n)) := by
 induction n with
 | zero =>
  intro k x _ hk; obtain ⟨k, rfl⟩ : ∃ m, k = m + 1 := ⟨k - 1, by omega⟩
  simp only [outriderref01_moved.l0]
  rw [if_neg (by omega)]; simp
 | succ n ih =>
  intro k x hn hk; obtain ⟨k, rfl⟩ : ∃ m, k = m + 1 := ⟨k - 1, by omega⟩
  simp only [outriderref01_moved.l0]
  rw [if_pos (by omega), if_pos trivial, add_eq]
  simp only [Option.bind_some, uw]
  have e : ((n + 1 : Nat) - 1 : Int) % 18446744073709551616 = n := by omega
  rw [e, show wrap64 (wrap64 x + wrap64 x) = wrap64 (x * 2) from w64_congr (by have := w64_mod x; omega), ih k (x * 2) (by omega) (by omega), pow_step, Int.mul_assoc, Int.mul_comm 2]
theorem shr_loop (op : Int) (ho : op ≠ 9) (n : Nat) : ∀ (k : Nat) (x : Int), n < 64 → n < k → -9223372036854775808 ≤ x → x ≤ 9223372036854775807 → outriderref01_moved.l0 k op x n = some (x / 2 ^ n) := by
 induction n with
 | zero =>
  intro k x _ hk _ _; obtain ⟨k, rfl⟩ : ∃ m, k = m + 1 := ⟨k - 1, by omega⟩
  simp only [outriderref01_moved.l0]
  rw [if_neg (by omega)]; simp
 | succ n ih =>
  intro k x hn hk h0 h1; obtain ⟨k, rfl⟩ : ∃ m, k = m + 1 := ⟨k - 1, by omega⟩
  have e : ((n + 1 : Nat) - 1 : Int) % 18446744073709551616 = n := by omega
  have e2 : x / 2 ^ (n + 1) = x / 2 / 2 ^ n := by rw [Int.ediv_ediv_of_nonneg (by decide), Int.pow_succ', ]
  simp only [outriderref01_moved.l0, uw, e]
  rw [if_pos (by omega), if_neg ho, e2]
  by_cases hx : x < 0
  ·rw [if_pos hx]
   have hj : Go.bits .or .u64 (x % 18446744073709551616 / 2) 9223372036854775808 = x % 18446744073709551616 / 2 + 9223372036854775808 := by
    have := or_pow (x % 18446744073709551616 / 2) 63 (by omega) (by omega) (by
     rw [show (2 : Int) ^ 63 = 9223372036854775808 by decide]; omega)
    rw [show (2 : Int) ^ 63 = 9223372036854775808 by decide] at this
    exact this
   rw [hj, show wrap64 (x % 18446744073709551616 / 2 + 9223372036854775808) = x / 2 by unfold wrap64; omega]
   exact ih k _ (by omega) (by omega) (by omega) (by omega)
  ·rw [if_neg hx, show wrap64 (x % 18446744073709551616 / 2) = x / 2 by unfold wrap64; omega]
   exact ih k _ (by omega) (by omega) (by omega) (by omega)
theorem cnt_eq (b : Int) : Int.tmod (IntKind.u64.wrap b) 64 = ((b % 64).toNat : Int) := by
 rw [uw, Int.tmod_eq_emod_of_nonneg (by omega)]; omega
theorem xor_com (a : Int) : Go.bits .xor .i64 (-1) a = wrap64 (-a - 1) := by
 rw [bits_xor64]; refine w64_congr ?_; have h : (BitVec.ofInt 64 (-1) ^^^ BitVec.ofInt 64 a) = ~~~ BitVec.ofInt 64 a := by
  rw [show BitVec.ofInt 64 (-1) = BitVec.allOnes 64 by decide, BitVec.allOnes_xor]
 rw [h, BitVec.toNat_not, BitVec.toNat_ofInt]; omega
theorem ref_one (op a : Int) : outriderref01_One.f op a = some (one op a) := by
 unfold outriderref01_One.f one
 simp only [neg_eq, com_eq, truth_eq, Option.bind_some, xor_com]
 (repeat' split) <;> simp_all
theorem tdiv_signed (a b : Int) : (if (decide (a < 0) != decide (b < 0)) = true then -((a.natAbs : Int) / b.natAbs) else (a.natAbs : Int) / b.natAbs) = Int.tdiv a b := by
 have h := Int.tdiv_eq_ediv_of_nonneg (a := (a.natAbs : Int)) (b := b.natAbs) (by omega)
 rw [← h]; by_cases ha : a < 0 <;> by_cases hb : b < 0
 ·simp only [ha, hb, decide_true, bne_self_eq_false, Bool.false_eq_true, if_false]
  rw [show (a.natAbs : Int) = -a by omega, show (b.natAbs : Int) = -b by omega, Int.neg_tdiv_neg]
 ·simp only [ha, hb, decide_true, decide_false]
  rw [show (a.natAbs : Int) = -a by omega, show (b.natAbs : Int) = b by omega, Int.neg_tdiv]; simp
 ·simp only [ha, hb, decide_true, decide_false]
  rw [show (a.natAbs : Int) = a by omega, show (b.natAbs : Int) = -b by omega, Int.tdiv_neg]; simp
 ·simp only [ha, hb, decide_false, bne_self_eq_false, Bool.false_eq_true, if_false]
  rw [show (a.natAbs : Int) = a by omega, show (b.natAbs : Int) = b by omega]
theorem tmod_signed (a b : Int) : (if decide (a < 0) = true then -((a.natAbs : Int) % b.natAbs) else (a.natAbs : Int) % b.natAbs) = Int.tmod a b := by
 have h := Int.tmod_eq_emod_of_nonneg (a := (a.natAbs : Int)) (b := b.natAbs) (by omega)
 rw [← h]; have hb : ∀ x : Int, Int.tmod x (b.natAbs : Int) = Int.tmod x b := fun x => by
  rcases Int.le_total 0 b with hb | hb
  ·rw [show (b.natAbs : Int) = b by omega]
  ·rw [show (b.natAbs : Int) = -b by omega, Int.tmod_neg]
 rw [hb]; by_cases ha : a < 0
 ·simp only [ha, decide_true, if_true]
  rw [show (a.natAbs : Int) = -a by omega, Int.neg_tmod]; omega
 ·simp only [ha, decide_false, Bool.false_eq_true, if_false]
  rw [show (a.natAbs : Int) = a by omega]
theorem tmod_le (a b : Int) (h : 0 ≤ a) : Int.tmod a b ≤ a := by
 obtain ⟨n, rfl⟩ := Int.eq_ofNat_of_zero_le h; have hb : ∀ x : Int, Int.tmod x (b.natAbs : Int) = Int.tmod x b := fun x => by
  rcases Int.le_total 0 b with hb | hb
  ·rw [show (b.natAbs : Int) = b by omega]
  ·rw [show (b.natAbs : Int) = -b by omega, Int.tmod_neg]
 rw [← hb, Int.tmod_eq_emod_of_nonneg (by omega)]
 exact_mod_cast Nat.mod_le n b.natAbs
theorem tmod_bd (a b : Int) (ha : -9223372036854775808 ≤ a) (ha1 : a ≤ 9223372036854775807) : -9223372036854775808 ≤ Int.tmod a b ∧ Int.tmod a b ≤ 9223372036854775807 := by
 rcases Int.le_total 0 a with h | h
 ·have h1 := Int.tmod_nonneg b h
  have h2 := tmod_le a b h; omega
 ·have e : Int.tmod a b = -Int.tmod (-a) b := by rw [Int.neg_tmod]; omega
  have h1 := Int.tmod_nonneg b (show 0 ≤ -a by omega)
  have h2 := tmod_le (-a) b (by omega)
  omega
theorem ref_two (op a b : Int) (ha : -9223372036854775808 ≤ a) (ha1 : a ≤ 9223372036854775807) (hb : -9223372036854775808 ≤ b) (hb1 : b ≤ 9223372036854775807) (k : Nat) : outriderref01_Two.f (k + 200) op a b = some (two op a b) := by
 unfold outriderref01_Two.f two
 by_cases h1 : op = 1
 ·simp [h1, add_eq]
 rw [if_neg h1, if_neg h1]; by_cases h2 : op = 2
 ·simp only [h2, if_true, neg_eq, add_eq, Option.bind_some]
  rw [show wrap64 (a + wrap64 (-b)) = wrap64 (a - b) from w64_congr (by have := w64_mod (-b); omega)]
 rw [if_neg h2, if_neg h2]; by_cases h3 : op = 3
 ·simp [h3, mul_eq a b ha ha1 _ (show 64 < k + 200 by omega)]
 rw [if_neg h3, if_neg h3]; by_cases h4 : op = 4
 ·subst h4
  simp only [if_true, outriderref01_Two.j0, beq_self_eq_true]
  by_cases hz : b = 0
  ·simp [hz]
  rw [if_neg hz, if_neg hz, size_eq a ha ha1, size_eq b hb hb1]; simp only [Option.bind_some]
  rw [long_eq _ _ (by omega) (by omega) (by omega) (by omega) _ (show 64 < k + 199 by omega)]
  simp only [Option.bind_some, signed_eq, tdiv_signed]
 rw [if_neg h4, if_neg h4]; by_cases h5 : op = 5
 ·subst h5
  simp only [if_true, outriderref01_Two.j0, beq_self_eq_true]
  by_cases hz : b = 0
  ·simp [hz]
  rw [if_neg hz, if_neg hz, size_eq a ha ha1, size_eq b hb hb1]; simp only [Option.bind_some]
  rw [long_eq _ _ (by omega) (by omega) (by omega) (by omega) _ (show 64 < k + 199 by omega)]
  simp only [Option.bind_some, signed_eq, tmod_signed]
  rw [if_neg (by decide), w64_id (tmod_bd a b ha ha1).1 (tmod_bd a b ha ha1).2]
 rw [if_neg h5]; have hj0 : ∀ c, outriderref01_Two.j0 (k + 200) op a b op (op == 5) = c ↔ (if op = 6 then outriderref01_Two.j1 (k + 199) op a b op (op == 6) else if op = 7 then outriderref01_Two.j1 (k + 199) op a b op (op == 7) else outriderref01_Two.j1 (k + 199) op a b op (op == 8)) = c := fun c => by
  simp only [outriderref01_Two.j0, show (op == 5) = false from beq_eq_false_iff_ne.mpr h5, Bool.false_eq_true, if_false]
 rw [hj0]; by_cases h6 : op = 6
 ·subst h6; simp [outriderref01_Two.j1, and_eq a b _ (show 192 < k + 198 by omega)]
 rw [if_neg h6, if_neg h6]; by_cases h7 : op = 7
 ·subst h7; simp [outriderref01_Two.j1, or_eq a b _ (show 192 < k + 198 by omega)]
 rw [if_neg h7, if_neg h7]; by_cases h8 : op = 8
 ·subst h8; simp [outriderref01_Two.j1, xor_eq a b _ (show 192 < k + 198 by omega)]
 rw [if_neg h8]; simp only [outriderref01_Two.j1, show (op == 8) = false from beq_eq_false_iff_ne.mpr h8, Bool.false_eq_true, if_false]
 have hc := cnt_eq b; by_cases h9 : op = 9
 ·subst h9
  simp only [if_true, outriderref01_Two.j2, beq_self_eq_true, outriderref01_moved.f, hc]
  have := shl_loop (b % 64).toNat (k + 197) a (by omega) (by omega)
  rw [w64_id ha ha1] at this; rw [this]; rfl
 rw [if_neg h9, if_neg h9]; by_cases h10 : op = 10
 ·subst h10
  simp only [if_true, outriderref01_Two.j2, beq_self_eq_true, outriderref01_moved.f, hc]
  rw [shr_loop 10 (by decide) (b % 64).toNat (k + 197) a (by omega) (by omega) ha ha1]; rfl
 rw [if_neg h10]; simp only [outriderref01_Two.j2, show (op == 10) = false from beq_eq_false_iff_ne.mpr h10, Bool.false_eq_true, if_false, below_eq a b ha ha1 hb hb1 _ (show 64 < k + 197 by omega), below_eq b a hb hb1 ha ha1 _ (show 64 < k + 197 by omega), Option.bind_some, truth_eq]
 by_cases h11 : op = 11
 ·subst h11
  by_cases e1 : a < b
  ·simp [e1, show ¬ a = b by omega]
  ·by_cases e2 : b < a
   ·simp [e1, e2, show ¬ a = b by omega]
   ·simp [show a = b by omega]
 rw [if_neg h11, if_neg h11]; by_cases h12 : op = 12
 ·subst h12
  by_cases e1 : a < b
  ·simp [e1, show ¬ a = b by omega]
  ·by_cases e2 : b < a
   ·simp [e1, e2, show ¬ a = b by omega]
   ·simp [show a = b by omega]
 rw [if_neg h12, if_neg h12]; by_cases h13 : op = 13
 ·subst h13; simp
 rw [if_neg h13, if_neg h13]; by_cases h14 : op = 14
 ·subst h14; simp
 rw [if_neg h14, if_neg h14]; by_cases h15 : op = 15
 ·subst h15; simp
 rw [if_neg h15, if_neg h15]; by_cases h16 : op = 16
 ·subst h16; simp
 rw [if_neg h16, if_neg h16]; by_cases h17 : op = 17
 ·subst h17; by_cases e : b < a <;> simp [e]
 rw [if_neg h17, if_neg h17]; by_cases h18 : op = 18
 ·subst h18; by_cases e : a < b <;> simp [e]
 rw [if_neg h18, if_neg h18]
theorem refTwo_calls (op a b : Int) (ha : -9223372036854775808 ≤ a) (ha1 : a ≤ 9223372036854775807) (hb : -9223372036854775808 ≤ b) (hb1 : b ≤ 9223372036854775807) (w : World) :
  Calls Try.prog 99 #[.int .i64 op, .int .i64 a, .int .i64 b] w fun e w' => e = .returned (.tuple #[.int .i64 (two op a b).1, .bool (two op a b).2]) ∧ Below w.heap.size w w' :=
 (outriderref01_Two.calls 200 op a b _ _ w (ref_two op a b ha ha1 hb hb1 0)).mono fun e w' h => ⟨h.1, h.2.below⟩
theorem refOne_calls (op a : Int) (w : World) :
  Calls Try.prog 98 #[.int .i64 op, .int .i64 a] w fun e w' => e = .returned (.tuple #[.int .i64 (one op a).1, .bool (one op a).2]) ∧ Below w.heap.size w w' :=
 (outriderref01_One.calls op a _ _ w (ref_one op a)).mono fun e w' h => ⟨h.1, h.2.below⟩
end Go.Proofs.Ytjlnpppjkdcpkaa.NumA
