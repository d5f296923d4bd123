/- Plain lemmas: the greatest common divisor by both ways (Euclid's, and by twos and differences) is Nat.gcd. No program in sight. -/
import Derived.Test.YtnpkaoogifjofaaNumC
import Derived.Test.YtnpkaoogifjofaaPNumx11
import Derived.Test.YtnpkaoogifjofaaPNumx17
import Derived.Test.YtnpkaoogifjofaaPNumx18
namespace Go.Proofs.Ytnpkaoogifjofaa.NumA
open Go.RowKit Go.Proofs.Ytnpkaoogifjofaa.PNum Go.Proofs.YtnpkaoogifjofaaW.PrintWords Go.Proofs.YtnpkaoogifjofaaW.PrintLast Go.Proofs.YtnpkaoogifjofaaW.PrintMore
theorem alive_ge (k : Nat) (h : 20 ≤ k) : outriderlaw01_alive.f k = some true := by
  obtain ⟨j, rfl⟩ : ∃ j, k = j + 20 := ⟨k - 20, by omega⟩
  exact alive_eq j
theorem nsize_eq (a : Int) (h0 : -9223372036854775808 ≤ a) (h1 : a ≤ 9223372036854775807) : num_size.f a = some (a.natAbs : Int) := by
  unfold num_size.f
  split
  · rw [uw, uw]; congr 1; omega
  · rw [uw]; congr 1; omega
theorem gcd_loop (y : Nat) : ∀ (k x : Nat), y < k → num_Gcd.l0 k x y = some (Nat.gcd x y : Int) := by
  induction y using Nat.strongRecOn with
  | _ y ih =>
    intro k x hk
    obtain ⟨k, rfl⟩ : ∃ m, k = m + 1 := ⟨k - 1, by omega⟩
    simp only [num_Gcd.l0]
    by_cases hy : y = 0
    · subst hy; simp
    · rw [if_neg (by omega), Int.tmod_eq_emod_of_nonneg (by omega)]
      have hm := Nat.mod_lt x (show 0 < y by omega)
      have h := ih (x % y) hm k y (by omega)
      rw [show (x : Int) % y = ((x % y : Nat) : Int) by simp, h, Nat.gcd_comm x y, Nat.gcd_rec y x, Nat.gcd_comm]
theorem num_gcd (a b : Int) (h0 : -9223372036854775808 ≤ a) (h1 : a ≤ 9223372036854775807) (g0 : -9223372036854775808 ≤ b) (g1 : b ≤ 9223372036854775807) (k : Nat) (hk : b.natAbs < k) : num_Gcd.f k a b = some (Nat.gcd a.natAbs b.natAbs : Int) := by
  unfold num_Gcd.f
  rw [nsize_eq a h0 h1, nsize_eq b g0 g1]
  exact gcd_loop b.natAbs k a.natAbs hk
theorem odd_cop {y : Nat} (h : y % 2 = 1) : Nat.Coprime 2 y := by
  unfold Nat.Coprime; rw [Nat.gcd_rec, h]; rfl
theorem gcd_half {x y : Nat} (hx : x % 2 = 0) (hy : y % 2 = 1) : Nat.gcd (x / 2) y = Nat.gcd x y := by
  have := Nat.Coprime.gcd_mul_left_cancel (x / 2) (odd_cop hy)
  rw [show 2 * (x / 2) = x by omega] at this
  exact this.symm
theorem bin_loop (t : Int) (ht : 0 ≤ t) (n : Nat) : ∀ (k x y : Nat), x + y = n → n < k → 0 < x → 0 < y → x < 18446744073709551616 → y < 18446744073709551616 → (x % 2 = 1 ∨ y % 2 = 1) → outriderref01_Gcd.l1 k x y t = some (shl .u64 (Nat.gcd x y : Int) t) := by
  induction n using Nat.strongRecOn with
  | _ n ih =>
    intro k x y hn hk hx hy hx1 hy1 ho
    obtain ⟨k, rfl⟩ : ∃ m, k = m + 1 := ⟨k - 1, by omega⟩
    simp only [outriderref01_Gcd.l1]
    by_cases he : x = y
    · subst he; rw [if_pos rfl, if_pos ht, Nat.gcd_self]
    · rw [if_neg (by omega), Int.tmod_eq_emod_of_nonneg (by omega), Int.tmod_eq_emod_of_nonneg (by omega), Int.tdiv_eq_ediv_of_nonneg (by omega), Int.tdiv_eq_ediv_of_nonneg (by omega)]
      by_cases h1 : x % 2 = 0
      · rw [if_pos (by omega), uw, show (x : Int) / 2 % 18446744073709551616 = ((x / 2 : Nat) : Int) by omega, ih (x / 2 + y) (by omega) k (x / 2) y rfl (by omega) (by omega) hy (by omega) hy1 (by omega), gcd_half h1 (by omega)]
      · rw [if_neg (by omega)]
        by_cases h2 : y % 2 = 0
        · rw [if_pos (by omega), uw, show (y : Int) / 2 % 18446744073709551616 = ((y / 2 : Nat) : Int) by omega, ih (x + y / 2) (by omega) k x (y / 2) rfl (by omega) hx (by omega) hx1 (by omega) (by omega), Nat.gcd_comm, gcd_half h2 (by omega), Nat.gcd_comm]
        · rw [if_neg (by omega)]
          by_cases h3 : x > y
          · rw [if_pos (by omega), uw, uw, Int.tdiv_eq_ediv_of_nonneg (by omega), show ((x : Int) - y) % 18446744073709551616 / 2 % 18446744073709551616 = (((x - y) / 2 : Nat) : Int) by omega, ih ((x - y) / 2 + y) (by omega) k ((x - y) / 2) y rfl (by omega) (by omega) hy (by omega) hy1 (by omega), gcd_half (by omega) (by omega), Nat.gcd_sub_self_left (by omega)]
          · rw [if_neg (by omega), uw, uw, Int.tdiv_eq_ediv_of_nonneg (by omega), show ((y : Int) - x) % 18446744073709551616 / 2 % 18446744073709551616 = (((y - x) / 2 : Nat) : Int) by omega, ih (x + (y - x) / 2) (by omega) k x ((y - x) / 2) rfl (by omega) hx (by omega) hx1 (by omega) (by omega), Nat.gcd_comm, gcd_half (by omega) (by omega), Nat.gcd_sub_self_left (by omega), Nat.gcd_comm]
theorem shl_gcd (g t : Nat) (h : g * 2 ^ t < 2 ^ 64) (ht : t ≤ 64) : shl .u64 (g : Int) t = ((g * 2 ^ t : Nat) : Int) := by
  unfold shl
  simp only [Int.toNat_natCast, IntKind.bits]
  rw [Nat.min_eq_left ht]
  refine (wraps_u64 _ (by exact_mod_cast Nat.zero_le _) (by exact_mod_cast h)).trans ?_
  simp
theorem twos_loop (n : Nat) : ∀ (k x y t : Nat), x = n → 2 * (x + y) + 4 < k → 0 < x → 0 < y → x * 2 ^ t ≤ 9223372036854775808 → y < 18446744073709551616 → outriderref01_Gcd.l0 k x y t = some ((Nat.gcd x y * 2 ^ t : Nat) : Int) := by
  induction n using Nat.strongRecOn with
  | _ n ih =>
    intro k x y t hn hk hx hy hxt hy1
    have hp : 1 ≤ 2 ^ t := Nat.one_le_two_pow
    have hx1 : x ≤ 9223372036854775808 := Nat.le_trans (Nat.le_mul_of_pos_right x hp) hxt
    have ht : t < 64 := by
      rcases Nat.lt_or_ge t 64 with h | h
      · exact h
      · have h2 : 2 ^ 64 ≤ 2 ^ t := Nat.pow_le_pow_right (by decide) h
        have h3 := Nat.le_trans h2 (Nat.le_mul_of_pos_left (2 ^ t) hx)
        have h4 : (2 : Nat) ^ 64 = 18446744073709551616 := by decide
        omega
    have hend : ∀ k, x + y < k → (x % 2 = 1 ∨ y % 2 = 1) → outriderref01_Gcd.l1 k x y t = some ((Nat.gcd x y * 2 ^ t : Nat) : Int) := fun k hk ho => by
      rw [bin_loop t (by omega) _ k x y rfl hk hx hy (by omega) hy1 ho, shl_gcd _ _ ?_ (by omega)]
      have h1 : Nat.gcd x y ≤ x := Nat.gcd_le_left y hx
      have h2 := Nat.mul_le_mul_right (2 ^ t) h1
      have h4 : (2 : Nat) ^ 64 = 18446744073709551616 := by decide
      omega
    have hend2 : ∀ k, x + y + 1 < k → (x % 2 = 1 ∨ y % 2 = 1) → outriderref01_Gcd.j2 k x y t = some ((Nat.gcd x y * 2 ^ t : Nat) : Int) := fun k hk ho => by
      obtain ⟨k, rfl⟩ : ∃ m, k = m + 1 := ⟨k - 1, by omega⟩
      simp only [outriderref01_Gcd.j2]
      exact hend k (by omega) ho
    obtain ⟨k, rfl⟩ : ∃ m, k = m + 1 := ⟨k - 1, by omega⟩
    simp only [outriderref01_Gcd.l0]
    rw [Int.tmod_eq_emod_of_nonneg (by omega), Int.tmod_eq_emod_of_nonneg (by omega), Int.tdiv_eq_ediv_of_nonneg (by omega), Int.tdiv_eq_ediv_of_nonneg (by omega)]
    by_cases h1 : x % 2 = 0
    · rw [if_pos (by omega)]
      by_cases h2 : y % 2 = 0
      · rw [if_pos (by omega), uw, uw, uw, show (x : Int) / 2 % 18446744073709551616 = ((x / 2 : Nat) : Int) by omega, show (y : Int) / 2 % 18446744073709551616 = ((y / 2 : Nat) : Int) by omega, show ((t : Int) + 1) % 18446744073709551616 = ((t + 1 : Nat) : Int) by omega]
        rw [ih (x / 2) (by omega) k (x / 2) (y / 2) (t + 1) rfl (by omega) (by omega) (by omega) (by rw [Nat.pow_succ, Nat.mul_comm (2 ^ t), ← Nat.mul_assoc, show x / 2 * 2 = x by omega]; exact hxt) (by omega)]
        congr 2
        have := Nat.gcd_mul_left 2 (x / 2) (y / 2)
        rw [show 2 * (x / 2) = x by omega, show 2 * (y / 2) = y by omega] at this
        rw [this, Nat.pow_succ, Nat.mul_comm 2, Nat.mul_assoc, Nat.mul_comm 2]
      · rw [if_neg (by omega)]; exact hend2 k (by omega) (by omega)
    · rw [if_neg (by omega)]; exact hend2 k (by omega) (by omega)
theorem or_zero (x : Int) (h0 : 0 ≤ x) (h1 : x < 18446744073709551616) : Go.bits .or .u64 x 0 = x ∧ Go.bits .or .u64 0 x = x := by
  have h : Go.bits .or .u64 0 x = x := by
    have := bits_join .u64 64 (by decide) wraps_u64 64 0 x (by omega) (by decide) (by decide) h0 (by simpa using h1) (by simpa using h1)
    omega
  exact ⟨by rw [or_comm64]; exact h, h⟩
theorem ref_gcd (a b : Int) (h0 : -9223372036854775808 ≤ a) (h1 : a ≤ 9223372036854775807) (g0 : -9223372036854775808 ≤ b) (g1 : b ≤ 9223372036854775807) (k : Nat) (hk : 2 * (a.natAbs + b.natAbs) + 5 < k) : outriderref01_Gcd.f k a b = some (Nat.gcd a.natAbs b.natAbs : Int) := by
  unfold outriderref01_Gcd.f
  rw [size_eq a h0 h1, size_eq b g0 g1]
  simp only [Option.bind_some]
  obtain ⟨k, rfl⟩ : ∃ m, k = m + 1 := ⟨k - 1, by omega⟩
  simp only [outriderref01_Gcd.j0]
  by_cases ha : a.natAbs = 0
  · simp [ha, (or_zero (b.natAbs : Int) (by omega) (by omega)).2]
  · rw [if_neg (by omega)]
    by_cases hb : b.natAbs = 0
    · simp [hb, (or_zero (a.natAbs : Int) (by omega) (by omega)).1]
    · rw [if_neg (by simpa using hb)]
      have := twos_loop a.natAbs k a.natAbs b.natAbs 0 rfl (by omega) (by omega) (by omega) (by omega) (by omega)
      simpa using this
end Go.Proofs.Ytnpkaoogifjofaa.NumA
