/- Plain lemmas on the printed functions of layer 1: order, logic and shifts of the document bit by bit; what the program's and the document's operations of two and of one number are: the same function 'two', 'one'. No program in sight. -/
import Derived.Test.YtnpkaoogifjofaaNumA
import Derived.Test.YtnpkaoogifjofaaPNumx1
import Derived.Test.YtnpkaoogifjofaaPNumx2
import Derived.Test.YtnpkaoogifjofaaPNumx5
import Derived.Test.YtnpkaoogifjofaaPNumx6
import Derived.Test.YtnpkaoogifjofaaPNumx7
import Derived.Test.YtnpkaoogifjofaaPNumx8
import Derived.Test.YtnpkaoogifjofaaPNumx9
import Derived.Test.YtnpkaoogifjofaaPNumx12
namespace Go.Proofs.Ytnpkaoogifjofaa.NumA
open Go.RowKit Go.Proofs.Ytnpkaoogifjofaa.PNum Go.Proofs.YtnpkaoogifjofaaW.PrintWords Go.Proofs.YtnpkaoogifjofaaW.PrintLast Go.Proofs.YtnpkaoogifjofaaW.PrintMore

/-! order -/
theorem half_lt {A B m : Int} (hm : 0 < m) (h : A / m < B / m) : A < B := by
  rcases Int.lt_or_le A B with h1 | h1
  · exact h1
  · have := Int.ediv_le_ediv hm h1; omega
theorem below_loop (a b : Int) (hs : decide (a < 0) = decide (b < 0)) (ha : -9223372036854775808 ≤ a) (ha1 : a ≤ 9223372036854775807) (hb : -9223372036854775808 ≤ b) (hb1 : b ≤ 9223372036854775807) (d : Nat) : ∀ (k : Nat), d ≤ 64 → d < k → (a % 18446744073709551616) / 2 ^ d = (b % 18446744073709551616) / 2 ^ d →
    outriderref01_below.l0 k a b ((d : Int) - 1) = some (decide (a < b)) := by
  have hA : (a < b) ↔ (a % 18446744073709551616 < b % 18446744073709551616) := by
    rw [decide_eq_decide] at hs; omega
  induction d with
  | zero =>
    intro k _ hk h
    obtain ⟨k, rfl⟩ : ∃ m, k = m + 1 := ⟨k - 1, by omega⟩
    simp only [outriderref01_below.l0]
    rw [if_neg (by omega)]
    simp only [Int.pow_zero, Int.ediv_one] at h
    rw [decide_eq_false (by rw [hA]; omega)]
  | succ d ih =>
    intro k hd hk h
    obtain ⟨k, rfl⟩ : ∃ m, k = m + 1 := ⟨k - 1, by omega⟩
    have e4 : wrap64 ((d : Int) - 1) = (d : Int) - 1 := w64_id (by omega) (by omega)
    have h1 := div_step (a % 18446744073709551616) d (by omega)
    have h2 := div_step (b % 18446744073709551616) d (by omega)
    have hp : (0 : Int) < 2 ^ d := Int.pow_pos (by decide)
    simp only [outriderref01_below.l0, show ((d + 1 : Nat) : Int) - 1 = d by omega, e4]
    rw [if_pos (by omega), bit_eq _ _ (by omega), bit_eq _ _ (by omega)]
    simp only [Option.bind_some]
    by_cases he : (bt2 a d != bt2 b d) = true
    · rw [if_pos he]
      congr 1
      unfold bt2 at he ⊢
      rw [h] at h1
      by_cases hb2 : b % 18446744073709551616 / 2 ^ d % 2 = 1
      · have ha2 : a % 18446744073709551616 / 2 ^ d % 2 = 0 := by
          have : ¬ a % 18446744073709551616 / 2 ^ d % 2 = 1 := fun e => by simp [e, hb2] at he
          omega
        rw [show (b % 18446744073709551616 / 2 ^ d % 2 == 1) = true from beq_iff_eq.mpr hb2, decide_eq_true]
        rw [hA]; exact half_lt hp (by omega)
      · have ha2 : a % 18446744073709551616 / 2 ^ d % 2 = 1 := by
          rcases Int.emod_two_eq (a % 18446744073709551616 / 2 ^ d) with e | e
          · have e2 : b % 18446744073709551616 / 2 ^ d % 2 = 0 := by omega
            simp [e, e2] at he
          · exact e
        rw [show (b % 18446744073709551616 / 2 ^ d % 2 == 1) = false from beq_eq_false_iff_ne.mpr hb2, decide_eq_false]
        rw [hA]
        have : b % 18446744073709551616 < a % 18446744073709551616 := half_lt hp (by omega)
        omega
    · rw [if_neg he]
      refine ih k (by omega) (by omega) ?_
      have he2 : bt2 a d = bt2 b d := by simpa using he
      unfold bt2 at he2
      have he3 : a % 18446744073709551616 / 2 ^ d % 2 = b % 18446744073709551616 / 2 ^ d % 2 := by
        rcases Int.emod_two_eq (a % 18446744073709551616 / 2 ^ d) with e | e <;> rcases Int.emod_two_eq (b % 18446744073709551616 / 2 ^ d) with e2 | e2 <;> rw [e, e2] at he2 ⊢ <;> exact absurd he2 (by decide)
      omega
theorem below_eq (a b : Int) (ha : -9223372036854775808 ≤ a) (ha1 : a ≤ 9223372036854775807) (hb : -9223372036854775808 ≤ b) (hb1 : b ≤ 9223372036854775807) (k : Nat) (hk : 64 < k) : outriderref01_below.f k a b = some (decide (a < b)) := by
  unfold outriderref01_below.f
  by_cases hs : decide (a < 0) = decide (b < 0)
  · rw [if_neg (by simp [hs])]
    exact below_loop a b hs ha ha1 hb hb1 64 k (by omega) hk (by
      rw [show (2 : Int) ^ 64 = 18446744073709551616 by decide]; omega)
  · rw [if_pos (by simpa using hs)]
    congr 1
    rw [decide_eq_decide] at hs ⊢
    omega

/-! logic -/
def fop (op : Int) (x y : Bool) : Bool := if op = 8 then x != y else if op = 7 then x || y else x && y
theorem shl1 (i : Nat) (hi : i < 64) : shl .u64 1 (i : Int) = 2 ^ i := by
  unfold shl
  simp only [Int.toNat_natCast, IntKind.bits, Int.one_mul]
  rw [Nat.min_eq_left (by omega)]
  refine wraps_u64 _ (Int.le_of_lt (Int.pow_pos (by decide))) ?_
  exact_mod_cast Nat.pow_lt_pow_right (show 1 < 2 by decide) hi
theorem or_comm64 (x y : Int) : Go.bits .or .u64 x y = Go.bits .or .u64 y x := by unfold Go.bits; simp only [BitVec.or_comm]
theorem or_pow (x : Int) (i : Nat) (hi : i < 64) (h0 : 0 ≤ x) (h1 : x < 2 ^ i) : Go.bits .or .u64 x (2 ^ i) = x + 2 ^ i := by
  have hp : (0 : Int) < 2 ^ i := Int.pow_pos (by decide)
  have h3 : (2 : Int) ^ i < 2 ^ 64 := by exact_mod_cast Nat.pow_lt_pow_right (show 1 < 2 by decide) hi
  rw [or_comm64, bits_join .u64 64 (by decide) wraps_u64 i (2 ^ i) x (by omega) Int.emod_self h3 h0 h1 (by omega)]; omega
theorem logic_round (op a b x : Int) (i : Nat) (hi : i < 64) (h0 : 0 ≤ x) (h1 : x < 2 ^ i) (k : Nat) :
    outriderref01_logic.l0 (k + 3) op a b x i = outriderref01_logic.l0 k op a b (if fop op (bt2 a i) (bt2 b i) then x + 2 ^ i else x) ((i + 1 : Nat) : Int) := by
  have e1 : wrap64 ((i : Int) + 1) = ((i + 1 : Nat) : Int) := by rw [w64_id (by omega) (by omega)]; omega
  have hi2 : (i : Int) % 18446744073709551616 = i := by omega
  simp only [outriderref01_logic.l0, outriderref01_logic.j1, outriderref01_logic.j2]
  rw [if_pos (by omega), bit_eq _ _ hi, bit_eq _ _ hi]
  simp only [Option.bind_some, uw, hi2, shl1 i hi, or_pow x i hi h0 h1, e1, show (0 : Int) ≤ (i : Int) by omega, if_true]
  unfold fop
  by_cases h8 : op = 8
  · subst h8
    cases bt2 a i <;> cases bt2 b i <;> simp
  · by_cases h7 : op = 7
    · subst h7
      cases bt2 a i <;> cases bt2 b i <;> simp
    · cases bt2 a i <;> cases bt2 b i <;> simp [h8, h7]
theorem logic_loop (op a b Z : Int) (hZ0 : 0 ≤ Z) (hZ : ∀ i : Nat, i < 64 → (Z / 2 ^ i % 2 = 1 ↔ fop op (bt2 a i) (bt2 b i) = true)) (d : Nat) : ∀ (k i : Nat), i + d = 64 → 3 * d < k →
    outriderref01_logic.l0 k op a b (Z % 2 ^ i) i = some (wrap64 (Z % 2 ^ 64)) := by
  induction d with
  | zero =>
    intro k i hi hk
    obtain ⟨k, rfl⟩ : ∃ m, k = m + 1 := ⟨k - 1, by omega⟩
    obtain rfl : i = 64 := by omega
    simp only [outriderref01_logic.l0]
    rw [if_neg (by omega)]
  | succ d ih =>
    intro k i hi hk
    obtain ⟨k, rfl⟩ : ∃ m, k = m + 3 := ⟨k - 3, by omega⟩
    have hp : (0 : Int) < 2 ^ i := Int.pow_pos (by decide)
    rw [logic_round op a b _ i (by omega) (Int.emod_nonneg _ (by omega)) (Int.emod_lt_of_pos _ hp)]
    rw [← ih k (i + 1) (by omega) (by omega)]
    congr 1
    rw [mod_step Z i hZ0]
    have h := hZ i (by omega)
    by_cases hb : fop op (bt2 a i) (bt2 b i) = true
    · rw [if_pos hb, h.mpr hb, Int.mul_one]
    · rw [if_neg hb]
      have : Z / 2 ^ i % 2 = 0 := by
        have : ¬ Z / 2 ^ i % 2 = 1 := fun e => hb (h.mp e)
        omega
      rw [this, Int.mul_zero, Int.add_zero]
theorem getBit (a : Int) (i : Nat) (_hi : i < 64) : (BitVec.ofInt 64 a).getLsbD i = bt2 a i := by
  obtain ⟨n, hn⟩ := Int.eq_ofNat_of_zero_le (show 0 ≤ a % 18446744073709551616 by omega)
  have e : (BitVec.ofInt 64 a).toNat = n := by
    rw [BitVec.toNat_ofInt]
    have : a % ((2 ^ 64 : Nat) : Int) = n := by simpa using hn
    rw [this]; rfl
  rw [BitVec.getLsbD, e, Nat.testBit_eq_decide_div_mod_eq]
  unfold bt2
  rw [hn]
  have h2 : ((n / 2 ^ i % 2 : Nat) : Int) = (n : Int) / 2 ^ i % 2 := by simp
  rw [← h2, Bool.eq_iff_iff, decide_eq_true_iff, beq_iff_eq]
  omega
theorem bitOf (X : BitVec 64) (i : Nat) : ((X.toNat : Int) / 2 ^ i % 2 = 1 ↔ X.getLsbD i = true) := by
  rw [BitVec.getLsbD, Nat.testBit_eq_decide_div_mod_eq, decide_eq_true_iff]
  have h2 : ((X.toNat / 2 ^ i % 2 : Nat) : Int) = (X.toNat : Int) / 2 ^ i % 2 := by simp
  rw [← h2]; omega
theorem i64w (n : Int) : IntKind.i64.wrap n = wrap64 n := by unfold wrap64; exact IntKind.wrap_i64 n
theorem bits_and64 (a b : Int) : Go.bits .and .i64 a b = wrap64 ((BitVec.ofInt 64 a &&& BitVec.ofInt 64 b).toNat : Int) := by rw [← i64w]; rfl
theorem bits_or64 (a b : Int) : Go.bits .or .i64 a b = wrap64 ((BitVec.ofInt 64 a ||| BitVec.ofInt 64 b).toNat : Int) := by rw [← i64w]; rfl
theorem bits_xor64 (a b : Int) : Go.bits .xor .i64 a b = wrap64 ((BitVec.ofInt 64 a ^^^ BitVec.ofInt 64 b).toNat : Int) := by rw [← i64w]; rfl
theorem logic_fin (op a b : Int) (X : BitVec 64) (hX : ∀ i : Nat, i < 64 → X.getLsbD i = fop op (bt2 a i) (bt2 b i)) (k : Nat) (hk : 192 < k) : outriderref01_logic.f k op a b = some (wrap64 (X.toNat : Int)) := by
  have h := logic_loop op a b (X.toNat : Int) (by omega) (fun i hi => by rw [bitOf, hX i hi]) 64 k 0 (by omega) (by omega)
  have e : (X.toNat : Int) % 2 ^ 64 = X.toNat := Int.emod_eq_of_lt (by omega) (by exact_mod_cast X.isLt)
  rw [e] at h
  simp only [Int.pow_zero, Int.emod_one] at h
  exact h
theorem and_eq (a b : Int) (k : Nat) (hk : 192 < k) : outriderref01_logic.f k 6 a b = some (Go.bits .and .i64 a b) := by
  rw [logic_fin 6 a b (BitVec.ofInt 64 a &&& BitVec.ofInt 64 b) (fun i hi => by rw [BitVec.getLsbD_and, getBit a i hi, getBit b i hi]; rfl) k hk, bits_and64]
theorem or_eq (a b : Int) (k : Nat) (hk : 192 < k) : outriderref01_logic.f k 7 a b = some (Go.bits .or .i64 a b) := by
  rw [logic_fin 7 a b (BitVec.ofInt 64 a ||| BitVec.ofInt 64 b) (fun i hi => by rw [BitVec.getLsbD_or, getBit a i hi, getBit b i hi]; rfl) k hk, bits_or64]
theorem xor_eq (a b : Int) (k : Nat) (hk : 192 < k) : outriderref01_logic.f k 8 a b = some (Go.bits .xor .i64 a b) := by
  rw [logic_fin 8 a b (BitVec.ofInt 64 a ^^^ BitVec.ofInt 64 b) (fun i hi => by rw [BitVec.getLsbD_xor, getBit a i hi, getBit b i hi]; simp [fop]) k hk, bits_xor64]

/-! shifts -/
theorem shl_loop (n : Nat) : ∀ (k : Nat) (x : Int), n < 64 → n < k → outriderref01_moved.l0 k 9 (wrap64 x) n = some (wrap64 (x * 2 ^ n)) := by
  induction n with
  | zero =>
    intro k x _ hk
    obtain ⟨k, rfl⟩ : ∃ m, k = m + 1 := ⟨k - 1, by omega⟩
    simp only [outriderref01_moved.l0]
    rw [if_neg (by omega)]; simp
  | succ n ih =>
    intro k x hn hk
    obtain ⟨k, rfl⟩ : ∃ m, k = m + 1 := ⟨k - 1, by omega⟩
    simp only [outriderref01_moved.l0]
    rw [if_pos (by omega), if_pos trivial, add_eq]
    simp only [Option.bind_some, uw]
    have e : ((n + 1 : Nat) - 1 : Int) % 18446744073709551616 = n := by omega
    rw [e, show wrap64 (wrap64 x + wrap64 x) = wrap64 (x * 2) from w64_congr (by have := w64_mod x; omega), ih k (x * 2) (by omega) (by omega), pow_step, Int.mul_assoc, Int.mul_comm 2]
theorem shr_loop (op : Int) (ho : op ≠ 9) (n : Nat) : ∀ (k : Nat) (x : Int), n < 64 → n < k → -9223372036854775808 ≤ x → x ≤ 9223372036854775807 → outriderref01_moved.l0 k op x n = some (x / 2 ^ n) := by
  induction n with
  | zero =>
    intro k x _ hk _ _
    obtain ⟨k, rfl⟩ : ∃ m, k = m + 1 := ⟨k - 1, by omega⟩
    simp only [outriderref01_moved.l0]
    rw [if_neg (by omega)]; simp
  | succ n ih =>
    intro k x hn hk h0 h1
    obtain ⟨k, rfl⟩ : ∃ m, k = m + 1 := ⟨k - 1, by omega⟩
    have e : ((n + 1 : Nat) - 1 : Int) % 18446744073709551616 = n := by omega
    have e2 : x / 2 ^ (n + 1) = x / 2 / 2 ^ n := by rw [Int.ediv_ediv_of_nonneg (by decide), Int.pow_succ', ]
    simp only [outriderref01_moved.l0, uw, e]
    rw [if_pos (by omega), if_neg ho, e2]
    by_cases hx : x < 0
    · rw [if_pos hx]
      have hj : Go.bits .or .u64 (x % 18446744073709551616 / 2) 9223372036854775808 = x % 18446744073709551616 / 2 + 9223372036854775808 := by
        have := or_pow (x % 18446744073709551616 / 2) 63 (by omega) (by omega) (by
          rw [show (2 : Int) ^ 63 = 9223372036854775808 by decide]; omega)
        rw [show (2 : Int) ^ 63 = 9223372036854775808 by decide] at this
        exact this
      rw [hj, show wrap64 (x % 18446744073709551616 / 2 + 9223372036854775808) = x / 2 by unfold wrap64; omega]
      exact ih k _ (by omega) (by omega) (by omega) (by omega)
    · rw [if_neg hx, show wrap64 (x % 18446744073709551616 / 2) = x / 2 by unfold wrap64; omega]
      exact ih k _ (by omega) (by omega) (by omega) (by omega)
theorem and63 (b : Int) : Go.bits .and .i64 b 63 = b % 64 := by
  rw [bits_and64]
  have h : (BitVec.ofInt 64 b &&& BitVec.ofInt 64 63).toNat = (b % 64).toNat := by
    rw [BitVec.toNat_and, show (BitVec.ofInt 64 63).toNat = 2 ^ 6 - 1 by decide, Nat.and_two_pow_sub_one_eq_mod, BitVec.toNat_ofInt]
    omega
  rw [h, Int.toNat_of_nonneg (by omega), w64_id (by omega) (by omega)]
theorem cnt_eq (b : Int) : Int.tmod (IntKind.u64.wrap b) 64 = ((b % 64).toNat : Int) := by
  rw [uw, Int.tmod_eq_emod_of_nonneg (by omega)]; omega
/-- what an operation of two numbers gives -/
def two (op a b : Int) : Int × Bool :=
  if op = 1 then (wrap64 (a + b), true) else if op = 2 then (wrap64 (a - b), true) else if op = 3 then (wrap64 (a * b), true)
  else if op = 4 then (if b = 0 then (0, false) else (wrap64 (Int.tdiv a b), true)) else if op = 5 then (if b = 0 then (0, false) else (Int.tmod a b, true))
  else if op = 6 then (Go.bits .and .i64 a b, true) else if op = 7 then (Go.bits .or .i64 a b, true) else if op = 8 then (Go.bits .xor .i64 a b, true)
  else if op = 9 then (wrap64 (a * 2 ^ (b % 64).toNat), true) else if op = 10 then (a / 2 ^ (b % 64).toNat, true)
  else if op = 11 then (if a = b then 1 else 0, true) else if op = 12 then (if a = b then 0 else 1, true) else if op = 13 then (if a < b then 1 else 0, true)
  else if op = 14 then (if a ≤ b then 1 else 0, true) else if op = 15 then (if b < a then 1 else 0, true) else if op = 16 then (if b ≤ a then 1 else 0, true)
  else if op = 17 then (if b < a then b else a, true) else if op = 18 then (if a < b then b else a, true) else (0, false)
/-- of one number -/
def one (op a : Int) : Int × Bool :=
  if op = 19 then (wrap64 (-a), true) else if op = 20 then (Go.bits .xor .i64 (-1) a, true) else if op = 21 then (if a = 0 then 1 else 0, true) else (0, false)
theorem num_one (op a : Int) : num_One.f op a = some (one op a) := by
  unfold num_One.f one; (repeat' split) <;> rfl
theorem xor_com (a : Int) : Go.bits .xor .i64 (-1) a = wrap64 (-a - 1) := by
  rw [bits_xor64]
  refine w64_congr ?_
  have h : (BitVec.ofInt 64 (-1) ^^^ BitVec.ofInt 64 a) = ~~~ BitVec.ofInt 64 a := by
    rw [show BitVec.ofInt 64 (-1) = BitVec.allOnes 64 by decide, BitVec.allOnes_xor]
  rw [h, BitVec.toNat_not, BitVec.toNat_ofInt]
  omega
theorem ref_one (op a : Int) : outriderref01_One.f op a = some (one op a) := by
  unfold outriderref01_One.f one
  simp only [neg_eq, com_eq, truth_eq, Option.bind_some, xor_com]
  (repeat' split) <;> simp_all
theorem num_held (op a b : Int) (h0 : 11 ≤ op) (h1 : op ≤ 16) : num_held.f op a b = some (two op a b).1 := by
  unfold num_held.f two
  rw [if_neg (show ¬ op = 1 by omega), if_neg (show ¬ op = 2 by omega), if_neg (show ¬ op = 3 by omega), if_neg (show ¬ op = 4 by omega), if_neg (show ¬ op = 5 by omega), if_neg (show ¬ op = 6 by omega), if_neg (show ¬ op = 7 by omega), if_neg (show ¬ op = 8 by omega), if_neg (show ¬ op = 9 by omega), if_neg (show ¬ op = 10 by omega)]
  (repeat' split) <;> first | rfl | omega
theorem num_two (op a b : Int) (k : Nat) : num_Two.f (k + 2) op a b = some (two op a b) := by
  unfold num_Two.f
  by_cases hc : 11 ≤ op ∧ op ≤ 16
  · rw [if_pos hc.1, show decide (op ≤ 16) = true from decide_eq_true hc.2]
    simp only [num_Two.j0, if_true, num_held op a b hc.1 hc.2, Option.bind_some]
    congr 1
    have h6 : op = 11 ∨ op = 12 ∨ op = 13 ∨ op = 14 ∨ op = 15 ∨ op = 16 := by omega
    rcases h6 with rfl | rfl | rfl | rfl | rfl | rfl <;> simp [two]
  · have hf : (if op ≥ 11 then num_Two.j0 (k + 2) op a b (decide (op ≤ 16)) else num_Two.j0 (k + 2) op a b false) = num_Two.j0 (k + 2) op a b false := by
      split
      · rw [decide_eq_false (by omega)]
      · rfl
    rw [hf]
    have e63 : IntKind.u64.wrap (b % 64) = b % 64 := wraps_u64 _ (by omega) (Int.lt_of_lt_of_le (Int.emod_lt_of_pos b (by decide)) (by decide))
    have eshl : shl .i64 a (b % 64) = wrap64 (a * 2 ^ (b % 64).toNat) := by
      unfold shl; rw [i64w]; simp only [IntKind.bits]; rw [Nat.min_eq_left (by omega)]
    have eshr : shr .i64 a (b % 64) = a / 2 ^ (b % 64).toNat := by
      unfold shr; simp only [IntKind.bits]; rw [Nat.min_eq_left (by omega)]
    simp only [num_Two.j0, num_Two.j1, num_parts.f, and63, e63, eshl, eshr, mn, mx, show (0 : Int) ≤ b % 64 by omega, if_true]
    unfold two
    by_cases h1 : op = 1
    · simp [h1]
    by_cases h2 : op = 2
    · simp [h2]
    by_cases h3 : op = 3
    · simp [h3]
    by_cases h4 : op = 4
    · subst h4; by_cases hb : b = 0 <;> simp [hb]
    by_cases h5 : op = 5
    · subst h5; by_cases hb : b = 0 <;> simp [hb]
    by_cases h6 : op = 6
    · simp [h6]
    by_cases h7 : op = 7
    · simp [h7]
    by_cases h8 : op = 8
    · simp [h8]
    by_cases h9 : op = 9
    · simp [h9]
    by_cases h10 : op = 10
    · simp [h10]
    have h11 : ¬ op = 11 := by omega
    have h12 : ¬ op = 12 := by omega
    have h13 : ¬ op = 13 := by omega
    have h14 : ¬ op = 14 := by omega
    have h15 : ¬ op = 15 := by omega
    have h16 : ¬ op = 16 := by omega
    by_cases h17 : op = 17
    · simp [h17]
    by_cases h18 : op = 18
    · simp [h18]
    simp [h1, h2, h3, h4, h5, h6, h7, h8, h9, h10, h11, h12, h13, h14, h15, h16, h17, h18]
theorem tdiv_signed (a b : Int) : (if (decide (a < 0) != decide (b < 0)) = true then -((a.natAbs : Int) / b.natAbs) else (a.natAbs : Int) / b.natAbs) = Int.tdiv a b := by
  have h := Int.tdiv_eq_ediv_of_nonneg (a := (a.natAbs : Int)) (b := b.natAbs) (by omega)
  rw [← h]
  by_cases ha : a < 0 <;> by_cases hb : b < 0
  · simp only [ha, hb, decide_true, bne_self_eq_false, Bool.false_eq_true, if_false]
    rw [show (a.natAbs : Int) = -a by omega, show (b.natAbs : Int) = -b by omega, Int.neg_tdiv_neg]
  · simp only [ha, hb, decide_true, decide_false]
    rw [show (a.natAbs : Int) = -a by omega, show (b.natAbs : Int) = b by omega, Int.neg_tdiv]; simp
  · simp only [ha, hb, decide_true, decide_false]
    rw [show (a.natAbs : Int) = a by omega, show (b.natAbs : Int) = -b by omega, Int.tdiv_neg]; simp
  · simp only [ha, hb, decide_false, bne_self_eq_false, Bool.false_eq_true, if_false]
    rw [show (a.natAbs : Int) = a by omega, show (b.natAbs : Int) = b by omega]
theorem tmod_signed (a b : Int) : (if decide (a < 0) = true then -((a.natAbs : Int) % b.natAbs) else (a.natAbs : Int) % b.natAbs) = Int.tmod a b := by
  have h := Int.tmod_eq_emod_of_nonneg (a := (a.natAbs : Int)) (b := b.natAbs) (by omega)
  rw [← h]
  have hb : ∀ x : Int, Int.tmod x (b.natAbs : Int) = Int.tmod x b := fun x => by
    rcases Int.le_total 0 b with hb | hb
    · rw [show (b.natAbs : Int) = b by omega]
    · rw [show (b.natAbs : Int) = -b by omega, Int.tmod_neg]
  rw [hb]
  by_cases ha : a < 0
  · simp only [ha, decide_true, if_true]
    rw [show (a.natAbs : Int) = -a by omega, Int.neg_tmod]; omega
  · simp only [ha, decide_false, Bool.false_eq_true, if_false]
    rw [show (a.natAbs : Int) = a by omega]
theorem tmod_le (a b : Int) (h : 0 ≤ a) : Int.tmod a b ≤ a := by
  obtain ⟨n, rfl⟩ := Int.eq_ofNat_of_zero_le h
  have hb : ∀ x : Int, Int.tmod x (b.natAbs : Int) = Int.tmod x b := fun x => by
    rcases Int.le_total 0 b with hb | hb
    · rw [show (b.natAbs : Int) = b by omega]
    · rw [show (b.natAbs : Int) = -b by omega, Int.tmod_neg]
  rw [← hb, Int.tmod_eq_emod_of_nonneg (by omega)]
  exact_mod_cast Nat.mod_le n b.natAbs
theorem tmod_bd (a b : Int) (ha : -9223372036854775808 ≤ a) (ha1 : a ≤ 9223372036854775807) : -9223372036854775808 ≤ Int.tmod a b ∧ Int.tmod a b ≤ 9223372036854775807 := by
  rcases Int.le_total 0 a with h | h
  · have h1 := Int.tmod_nonneg b h
    have h2 := tmod_le a b h
    omega
  · have e : Int.tmod a b = -Int.tmod (-a) b := by rw [Int.neg_tmod]; omega
    have h1 := Int.tmod_nonneg b (show 0 ≤ -a by omega)
    have h2 := tmod_le (-a) b (by omega)
    omega
theorem ref_two (op a b : Int) (ha : -9223372036854775808 ≤ a) (ha1 : a ≤ 9223372036854775807) (hb : -9223372036854775808 ≤ b) (hb1 : b ≤ 9223372036854775807) (k : Nat) : outriderref01_Two.f (k + 200) op a b = some (two op a b) := by
  unfold outriderref01_Two.f two
  by_cases h1 : op = 1
  · simp [h1, add_eq]
  rw [if_neg h1, if_neg h1]
  by_cases h2 : op = 2
  · simp only [h2, if_true, neg_eq, add_eq, Option.bind_some]
    rw [show wrap64 (a + wrap64 (-b)) = wrap64 (a - b) from w64_congr (by have := w64_mod (-b); omega)]
  rw [if_neg h2, if_neg h2]
  by_cases h3 : op = 3
  · simp [h3, mul_eq a b ha ha1 _ (show 64 < k + 200 by omega)]
  rw [if_neg h3, if_neg h3]
  by_cases h4 : op = 4
  · subst h4
    simp only [if_true, outriderref01_Two.j0, beq_self_eq_true]
    by_cases hz : b = 0
    · simp [hz]
    rw [if_neg hz, if_neg hz, size_eq a ha ha1, size_eq b hb hb1]
    simp only [Option.bind_some]
    rw [long_eq _ _ (by omega) (by omega) (by omega) (by omega) _ (show 64 < k + 199 by omega)]
    simp only [Option.bind_some, signed_eq, tdiv_signed]
  rw [if_neg h4, if_neg h4]
  by_cases h5 : op = 5
  · subst h5
    simp only [if_true, outriderref01_Two.j0, beq_self_eq_true]
    by_cases hz : b = 0
    · simp [hz]
    rw [if_neg hz, if_neg hz, size_eq a ha ha1, size_eq b hb hb1]
    simp only [Option.bind_some]
    rw [long_eq _ _ (by omega) (by omega) (by omega) (by omega) _ (show 64 < k + 199 by omega)]
    simp only [Option.bind_some, signed_eq, tmod_signed]
    rw [if_neg (by decide), w64_id (tmod_bd a b ha ha1).1 (tmod_bd a b ha ha1).2]
  rw [if_neg h5]
  have hj0 : ∀ c, outriderref01_Two.j0 (k + 200) op a b op (op == 5) = c ↔ (if op = 6 then outriderref01_Two.j1 (k + 199) op a b op (op == 6) else if op = 7 then outriderref01_Two.j1 (k + 199) op a b op (op == 7) else outriderref01_Two.j1 (k + 199) op a b op (op == 8)) = c := fun c => by
    simp only [outriderref01_Two.j0, show (op == 5) = false from beq_eq_false_iff_ne.mpr h5, Bool.false_eq_true, if_false]
  rw [hj0]
  by_cases h6 : op = 6
  · subst h6; simp [outriderref01_Two.j1, and_eq a b _ (show 192 < k + 198 by omega)]
  rw [if_neg h6, if_neg h6]
  by_cases h7 : op = 7
  · subst h7; simp [outriderref01_Two.j1, or_eq a b _ (show 192 < k + 198 by omega)]
  rw [if_neg h7, if_neg h7]
  by_cases h8 : op = 8
  · subst h8; simp [outriderref01_Two.j1, xor_eq a b _ (show 192 < k + 198 by omega)]
  rw [if_neg h8]
  simp only [outriderref01_Two.j1, show (op == 8) = false from beq_eq_false_iff_ne.mpr h8, Bool.false_eq_true, if_false]
  have hc := cnt_eq b
  by_cases h9 : op = 9
  · subst h9
    simp only [if_true, outriderref01_Two.j2, beq_self_eq_true, outriderref01_moved.f, hc]
    have := shl_loop (b % 64).toNat (k + 197) a (by omega) (by omega)
    rw [w64_id ha ha1] at this
    rw [this]; rfl
  rw [if_neg h9, if_neg h9]
  by_cases h10 : op = 10
  · subst h10
    simp only [if_true, outriderref01_Two.j2, beq_self_eq_true, outriderref01_moved.f, hc]
    rw [shr_loop 10 (by decide) (b % 64).toNat (k + 197) a (by omega) (by omega) ha ha1]; rfl
  rw [if_neg h10]
  simp only [outriderref01_Two.j2, show (op == 10) = false from beq_eq_false_iff_ne.mpr h10, Bool.false_eq_true, if_false, below_eq a b ha ha1 hb hb1 _ (show 64 < k + 197 by omega), below_eq b a hb hb1 ha ha1 _ (show 64 < k + 197 by omega), Option.bind_some, truth_eq]
  by_cases h11 : op = 11
  · subst h11
    by_cases e1 : a < b
    · simp [e1, show ¬ a = b by omega]
    · by_cases e2 : b < a
      · simp [e1, e2, show ¬ a = b by omega]
      · simp [show a = b by omega]
  rw [if_neg h11, if_neg h11]
  by_cases h12 : op = 12
  · subst h12
    by_cases e1 : a < b
    · simp [e1, show ¬ a = b by omega]
    · by_cases e2 : b < a
      · simp [e1, e2, show ¬ a = b by omega]
      · simp [show a = b by omega]
  rw [if_neg h12, if_neg h12]
  by_cases h13 : op = 13
  · subst h13; simp
  rw [if_neg h13, if_neg h13]
  by_cases h14 : op = 14
  · subst h14; simp
  rw [if_neg h14, if_neg h14]
  by_cases h15 : op = 15
  · subst h15; simp
  rw [if_neg h15, if_neg h15]
  by_cases h16 : op = 16
  · subst h16; simp
  rw [if_neg h16, if_neg h16]
  by_cases h17 : op = 17
  · subst h17; by_cases e : b < a <;> simp [e]
  rw [if_neg h17, if_neg h17]
  by_cases h18 : op = 18
  · subst h18; by_cases e : a < b <;> simp [e]
  rw [if_neg h18, if_neg h18]
end Go.Proofs.Ytnpkaoogifjofaa.NumA
