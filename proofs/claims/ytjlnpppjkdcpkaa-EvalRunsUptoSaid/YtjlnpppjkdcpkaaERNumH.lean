/- What the program's operations of two and of one number give, walked by hand. No conditions. -/
import Derived.Test.YtjlnpppjkdcpkaaERLib
import Derived.Test.YtjlnpppjkdcpkaaProg
import Derived.WalkSpells
import Derived.Laws.Cover1
namespace Go.Proofs.Ytjlnpppjkdcpkaa.NumA
open Go.RowKit
set_option linter.unusedVariables false
set_option linter.unusedSimpArgs false
theorem uw (n : Int) : IntKind.u64.wrap n = n % 18446744073709551616 := by simp [IntKind.wrap, IntKind.bits, IntKind.signed]
theorem w64_id {x : Int} (h0 : -9223372036854775808 ≤ x) (h1 : x ≤ 9223372036854775807) : wrap64 x = x := by unfold wrap64; omega
theorem i64w (n : Int) : IntKind.i64.wrap n = wrap64 n := by unfold wrap64; exact IntKind.wrap_i64 n
theorem bits_and64 (a b : Int) : Go.bits .and .i64 a b = wrap64 ((BitVec.ofInt 64 a &&& BitVec.ofInt 64 b).toNat : Int) := by rw [← i64w]; rfl
theorem and63 (b : Int) : Go.bits .and .i64 b 63 = b % 64 := by
 rw [bits_and64]; have h : (BitVec.ofInt 64 b &&& BitVec.ofInt 64 63).toNat = (b % 64).toNat := by
  rw [BitVec.toNat_and, show (BitVec.ofInt 64 63).toNat = 2 ^ 6 - 1 by decide, Nat.and_two_pow_sub_one_eq_mod, BitVec.toNat_ofInt]
  omega
 rw [h, Int.toNat_of_nonneg (by omega), w64_id (by omega) (by omega)]
/-- what an operation of two numbers gives -/
def two (op a b : Int) : Int × Bool :=
 if op = 1 then (wrap64 (a + b), true) else if op = 2 then (wrap64 (a - b), true) else if op = 3 then (wrap64 (a * b), true)
 else if op = 4 then (if b = 0 then (0, false) else (wrap64 (Int.tdiv a b), true)) else if op = 5 then (if b = 0 then (0, false) else (Int.tmod a b, true))
 else if op = 6 then (Go.bits .and .i64 a b, true) else if op = 7 then (Go.bits .or .i64 a b, true) else if op = 8 then (Go.bits .xor .i64 a b, true)
 else if op = 9 then (wrap64 (a * 2 ^ (b % 64).toNat), true) else if op = 10 then (a / 2 ^ (b % 64).toNat, true)
 else if op = 11 then (if a = b then 1 else 0, true) else if op = 12 then (if a = b then 0 else 1, true) else if op = 13 then (if a < b then 1 else 0, true)
 else if op = 14 then (if a ≤ b then 1 else 0, true) else if op = 15 then (if b < a then 1 else 0, true) else if op = 16 then (if b ≤ a then 1 else 0, true)
 else if op = 17 then (if b < a then b else a, true) else if op = 18 then (if a < b then b else a, true) else (0, false)
/-- of one number -/
def one (op a : Int) : Int × Bool :=
 if op = 19 then (wrap64 (-a), true) else if op = 20 then (Go.bits .xor .i64 (-1) a, true) else if op = 21 then (if a = 0 then 1 else 0, true) else (0, false)
theorem held_11 (a b : Int) (w : World) : Calls Try.prog 117 #[.int .i64 11, .int .i64 a, .int .i64 b] w fun e w' => e = .returned (.int .i64 (two 11 a b).1) ∧ w' = w := by
 by_cases h : a = b
 ·have e : (a == b) = true := by simp [h]
  have HS := Lib.hid (show (two 11 a b).1 = 1 by simp [two, h])
  go_enter Try.func117, Try.ntmps117
  go_wp2; go_ret; rw [HS.out]; exact ⟨rfl, rfl⟩
 ·have e : (a == b) = false := by simp [h]
  have HS := Lib.hid (show (two 11 a b).1 = 0 by simp [two, h])
  go_enter Try.func117, Try.ntmps117
  go_wp2; go_ret; rw [HS.out]; exact ⟨rfl, rfl⟩
theorem held_12 (a b : Int) (w : World) : Calls Try.prog 117 #[.int .i64 12, .int .i64 a, .int .i64 b] w fun e w' => e = .returned (.int .i64 (two 12 a b).1) ∧ w' = w := by
 by_cases h : a = b
 ·have e : (a == b) = true := by simp [h]
  have HS := Lib.hid (show (two 12 a b).1 = 0 by simp [two, h])
  go_enter Try.func117, Try.ntmps117
  go_wp2; go_ret; rw [HS.out]; exact ⟨rfl, rfl⟩
 ·have e : (a == b) = false := by simp [h]
  have HS := Lib.hid (show (two 12 a b).1 = 1 by simp [two, h])
  go_enter Try.func117, Try.ntmps117
  go_wp2; go_ret; rw [HS.out]; exact ⟨rfl, rfl⟩
theorem held_13 (a b : Int) (w : World) : Calls Try.prog 117 #[.int .i64 13, .int .i64 a, .int .i64 b] w fun e w' => e = .returned (.int .i64 (two 13 a b).1) ∧ w' = w := by
 by_cases h : a < b
 ·skip
  have HS := Lib.hid (show (two 13 a b).1 = 1 by simp [two, h])
  go_enter Try.func117, Try.ntmps117
  go_wp2; go_ret; rw [HS.out]; exact ⟨rfl, rfl⟩
 ·skip
  have HS := Lib.hid (show (two 13 a b).1 = 0 by simp [two, h])
  go_enter Try.func117, Try.ntmps117
  go_wp2; go_ret; rw [HS.out]; exact ⟨rfl, rfl⟩
theorem held_14 (a b : Int) (w : World) : Calls Try.prog 117 #[.int .i64 14, .int .i64 a, .int .i64 b] w fun e w' => e = .returned (.int .i64 (two 14 a b).1) ∧ w' = w := by
 by_cases h : a ≤ b
 ·skip
  have HS := Lib.hid (show (two 14 a b).1 = 1 by simp [two, h])
  go_enter Try.func117, Try.ntmps117
  go_wp2; go_ret; rw [HS.out]; exact ⟨rfl, rfl⟩
 ·skip
  have HS := Lib.hid (show (two 14 a b).1 = 0 by simp [two, h])
  go_enter Try.func117, Try.ntmps117
  go_wp2; go_ret; rw [HS.out]; exact ⟨rfl, rfl⟩
theorem held_15 (a b : Int) (w : World) : Calls Try.prog 117 #[.int .i64 15, .int .i64 a, .int .i64 b] w fun e w' => e = .returned (.int .i64 (two 15 a b).1) ∧ w' = w := by
 by_cases h : b < a
 ·have e : a > b := h
  have HS := Lib.hid (show (two 15 a b).1 = 1 by simp [two, h])
  go_enter Try.func117, Try.ntmps117
  go_wp2; go_ret; rw [HS.out]; exact ⟨rfl, rfl⟩
 ·have e : ¬ (a > b) := h
  have HS := Lib.hid (show (two 15 a b).1 = 0 by simp [two, h])
  go_enter Try.func117, Try.ntmps117
  go_wp2; go_ret; rw [HS.out]; exact ⟨rfl, rfl⟩
theorem held_16 (a b : Int) (w : World) : Calls Try.prog 117 #[.int .i64 16, .int .i64 a, .int .i64 b] w fun e w' => e = .returned (.int .i64 (two 16 a b).1) ∧ w' = w := by
 by_cases h : b ≤ a
 ·have e : a ≥ b := h
  have HS := Lib.hid (show (two 16 a b).1 = 1 by simp [two, h])
  go_enter Try.func117, Try.ntmps117
  go_wp2; go_ret; rw [HS.out]; exact ⟨rfl, rfl⟩
 ·have e : ¬ (a ≥ b) := h
  have HS := Lib.hid (show (two 16 a b).1 = 0 by simp [two, h])
  go_enter Try.func117, Try.ntmps117
  go_wp2; go_ret; rw [HS.out]; exact ⟨rfl, rfl⟩
theorem parts_4 (a b : Int) (w : World) : Calls Try.prog 118 #[.int .i64 4, .int .i64 a, .int .i64 b] w fun e w' => e = .returned (.tuple #[.int .i64 (two 4 a b).1, .bool (two 4 a b).2]) ∧ w' = w := by
 by_cases h : b = 0
 ·subst h
  go_enter Try.func118, Try.ntmps118
  go_wp2; go_ret2
  exact ⟨rfl, rfl⟩
 ·have e : (b == 0) = false := by simp [h]
  have HS := Lib.hid (show two 4 a b = (wrap64 (Int.tdiv a b), true) by simp [two, h])
  go_enter Try.func118, Try.ntmps118
  go_wp2; go_ret2
  rw [HS.out]; exact ⟨rfl, rfl⟩
theorem parts_5 (a b : Int) (w : World) : Calls Try.prog 118 #[.int .i64 5, .int .i64 a, .int .i64 b] w fun e w' => e = .returned (.tuple #[.int .i64 (two 5 a b).1, .bool (two 5 a b).2]) ∧ w' = w := by
 by_cases h : b = 0
 ·subst h
  go_enter Try.func118, Try.ntmps118
  go_wp2; go_ret2
  exact ⟨rfl, rfl⟩
 ·have e : (b == 0) = false := by simp [h]
  have HS := Lib.hid (show two 5 a b = (Int.tmod a b, true) by simp [two, h])
  go_enter Try.func118, Try.ntmps118
  go_wp2; go_ret2
  rw [HS.out]; exact ⟨rfl, rfl⟩
theorem two_11 (a b : Int) (w : World) : Calls Try.prog 105 #[.int .i64 11, .int .i64 a, .int .i64 b] w fun e w' => e = .returned (.tuple #[.int .i64 (two 11 a b).1, .bool (two 11 a b).2]) ∧ w' = w := by
 go_enter Try.func105, Try.ntmps105
 go_wp2_with (go_at_call 117; refine (held_11 _ _ _).mono ?_; rintro y w1 ⟨rfl, rfl⟩)
 go_ret2
 exact ⟨rfl, rfl⟩
theorem two_12 (a b : Int) (w : World) : Calls Try.prog 105 #[.int .i64 12, .int .i64 a, .int .i64 b] w fun e w' => e = .returned (.tuple #[.int .i64 (two 12 a b).1, .bool (two 12 a b).2]) ∧ w' = w := by
 go_enter Try.func105, Try.ntmps105
 go_wp2_with (go_at_call 117; refine (held_12 _ _ _).mono ?_; rintro y w1 ⟨rfl, rfl⟩)
 go_ret2
 exact ⟨rfl, rfl⟩
theorem two_13 (a b : Int) (w : World) : Calls Try.prog 105 #[.int .i64 13, .int .i64 a, .int .i64 b] w fun e w' => e = .returned (.tuple #[.int .i64 (two 13 a b).1, .bool (two 13 a b).2]) ∧ w' = w := by
 go_enter Try.func105, Try.ntmps105
 go_wp2_with (go_at_call 117; refine (held_13 _ _ _).mono ?_; rintro y w1 ⟨rfl, rfl⟩)
 go_ret2
 exact ⟨rfl, rfl⟩
theorem two_14 (a b : Int) (w : World) : Calls Try.prog 105 #[.int .i64 14, .int .i64 a, .int .i64 b] w fun e w' => e = .returned (.tuple #[.int .i64 (two 14 a b).1, .bool (two 14 a b).2]) ∧ w' = w := by
 go_enter Try.func105, Try.ntmps105
 go_wp2_with (go_at_call 117; refine (held_14 _ _ _).mono ?_; rintro y w1 ⟨rfl, rfl⟩)
 go_ret2
 exact ⟨rfl, rfl⟩
theorem two_15 (a b : Int) (w : World) : Calls Try.prog 105 #[.int .i64 15, .int .i64 a, .int .i64 b] w fun e w' => e = .returned (.tuple #[.int .i64 (two 15 a b).1, .bool (two 15 a b).2]) ∧ w' = w := by
 go_enter Try.func105, Try.ntmps105
 go_wp2_with (go_at_call 117; refine (held_15 _ _ _).mono ?_; rintro y w1 ⟨rfl, rfl⟩)
 go_ret2
 exact ⟨rfl, rfl⟩
theorem two_16 (a b : Int) (w : World) : Calls Try.prog 105 #[.int .i64 16, .int .i64 a, .int .i64 b] w fun e w' => e = .returned (.tuple #[.int .i64 (two 16 a b).1, .bool (two 16 a b).2]) ∧ w' = w := by
 go_enter Try.func105, Try.ntmps105
 go_wp2_with (go_at_call 117; refine (held_16 _ _ _).mono ?_; rintro y w1 ⟨rfl, rfl⟩)
 go_ret2
 exact ⟨rfl, rfl⟩
theorem two_4 (a b : Int) (w : World) : Calls Try.prog 105 #[.int .i64 4, .int .i64 a, .int .i64 b] w fun e w' => e = .returned (.tuple #[.int .i64 (two 4 a b).1, .bool (two 4 a b).2]) ∧ w' = w := by
 go_enter Try.func105, Try.ntmps105
 go_wp2_with (go_at_call 118; refine (parts_4 _ _ _).mono ?_; rintro y w1 ⟨rfl, rfl⟩)
 go_ret2
 exact ⟨rfl, rfl⟩
theorem two_5 (a b : Int) (w : World) : Calls Try.prog 105 #[.int .i64 5, .int .i64 a, .int .i64 b] w fun e w' => e = .returned (.tuple #[.int .i64 (two 5 a b).1, .bool (two 5 a b).2]) ∧ w' = w := by
 go_enter Try.func105, Try.ntmps105
 go_wp2_with (go_at_call 118; refine (parts_5 _ _ _).mono ?_; rintro y w1 ⟨rfl, rfl⟩)
 go_ret2
 exact ⟨rfl, rfl⟩
theorem two_1 (a b : Int) (w : World) : Calls Try.prog 105 #[.int .i64 1, .int .i64 a, .int .i64 b] w fun e w' => e = .returned (.tuple #[.int .i64 (two 1 a b).1, .bool (two 1 a b).2]) ∧ w' = w := by
 go_enter Try.func105, Try.ntmps105
 go_wp2; go_ret2
 exact ⟨rfl, rfl⟩
theorem two_2 (a b : Int) (w : World) : Calls Try.prog 105 #[.int .i64 2, .int .i64 a, .int .i64 b] w fun e w' => e = .returned (.tuple #[.int .i64 (two 2 a b).1, .bool (two 2 a b).2]) ∧ w' = w := by
 go_enter Try.func105, Try.ntmps105
 go_wp2; go_ret2
 exact ⟨rfl, rfl⟩
theorem two_3 (a b : Int) (w : World) : Calls Try.prog 105 #[.int .i64 3, .int .i64 a, .int .i64 b] w fun e w' => e = .returned (.tuple #[.int .i64 (two 3 a b).1, .bool (two 3 a b).2]) ∧ w' = w := by
 go_enter Try.func105, Try.ntmps105
 go_wp2; go_ret2
 exact ⟨rfl, rfl⟩
theorem two_6 (a b : Int) (w : World) : Calls Try.prog 105 #[.int .i64 6, .int .i64 a, .int .i64 b] w fun e w' => e = .returned (.tuple #[.int .i64 (two 6 a b).1, .bool (two 6 a b).2]) ∧ w' = w := by
 go_enter Try.func105, Try.ntmps105
 go_wp2; go_ret2
 exact ⟨rfl, rfl⟩
theorem two_7 (a b : Int) (w : World) : Calls Try.prog 105 #[.int .i64 7, .int .i64 a, .int .i64 b] w fun e w' => e = .returned (.tuple #[.int .i64 (two 7 a b).1, .bool (two 7 a b).2]) ∧ w' = w := by
 go_enter Try.func105, Try.ntmps105
 go_wp2; go_ret2
 exact ⟨rfl, rfl⟩
theorem two_8 (a b : Int) (w : World) : Calls Try.prog 105 #[.int .i64 8, .int .i64 a, .int .i64 b] w fun e w' => e = .returned (.tuple #[.int .i64 (two 8 a b).1, .bool (two 8 a b).2]) ∧ w' = w := by
 go_enter Try.func105, Try.ntmps105
 go_wp2; go_ret2
 exact ⟨rfl, rfl⟩
theorem two_9 (a b : Int) (w : World) : Calls Try.prog 105 #[.int .i64 9, .int .i64 a, .int .i64 b] w fun e w' => e = .returned (.tuple #[.int .i64 (two 9 a b).1, .bool (two 9 a b).2]) ∧ w' = w := by
 have e1 := and63 b; have e2 : IntKind.u64.wrap (b % 64) = b % 64 := by rw [uw]; omega
 have e3 : min (b % 64).toNat 64 = (b % 64).toNat := by omega
 have e4 : (0 : Int) ≤ b % 64 := by omega
 go_enter Try.func105, Try.ntmps105
 go_wp2; go_ret2
 exact ⟨rfl, rfl⟩
theorem two_10 (a b : Int) (w : World) : Calls Try.prog 105 #[.int .i64 10, .int .i64 a, .int .i64 b] w fun e w' => e = .returned (.tuple #[.int .i64 (two 10 a b).1, .bool (two 10 a b).2]) ∧ w' = w := by
 have e1 := and63 b; have e2 : IntKind.u64.wrap (b % 64) = b % 64 := by rw [uw]; omega
 have e3 : min (b % 64).toNat 64 = (b % 64).toNat := by omega
 have e4 : (0 : Int) ≤ b % 64 := by omega
 go_enter Try.func105, Try.ntmps105
 go_wp2; go_ret2
 exact ⟨rfl, rfl⟩
theorem two_17 (a b : Int) (w : World) : Calls Try.prog 105 #[.int .i64 17, .int .i64 a, .int .i64 b] w fun e w' => e = .returned (.tuple #[.int .i64 (two 17 a b).1, .bool (two 17 a b).2]) ∧ w' = w := by
 by_cases h : b < a
 ·have HS := Lib.hid (show two 17 a b = (b, true) by simp [two, h])
  go_enter Try.func105, Try.ntmps105
  go_wp2; all_goals
   go_ret2
   rw [HS.out]; first | exact ⟨rfl, rfl⟩ | (exfalso; omega)
 ·have HS := Lib.hid (show two 17 a b = (a, true) by simp [two, h])
  go_enter Try.func105, Try.ntmps105
  go_wp2; all_goals
   go_ret2
   rw [HS.out]; first | exact ⟨rfl, rfl⟩ | (refine ⟨?_, rfl⟩; simp; omega)
theorem two_18 (a b : Int) (w : World) : Calls Try.prog 105 #[.int .i64 18, .int .i64 a, .int .i64 b] w fun e w' => e = .returned (.tuple #[.int .i64 (two 18 a b).1, .bool (two 18 a b).2]) ∧ w' = w := by
 by_cases h : a < b
 ·have HS := Lib.hid (show two 18 a b = (b, true) by simp [two, h])
  go_enter Try.func105, Try.ntmps105
  go_wp2; all_goals
   go_ret2
   rw [HS.out]; first | exact ⟨rfl, rfl⟩ | (exfalso; omega)
 ·have HS := Lib.hid (show two 18 a b = (a, true) by simp [two, h])
  go_enter Try.func105, Try.ntmps105
  go_wp2; all_goals
   go_ret2
   rw [HS.out]; first | exact ⟨rfl, rfl⟩ | (refine ⟨?_, rfl⟩; simp; omega)
theorem two_0 (op a b : Int) (h : op < 1 ∨ 18 < op) (w : World) : Calls Try.prog 105 #[.int .i64 op, .int .i64 a, .int .i64 b] w fun e w' => e = .returned (.tuple #[.int .i64 (two op a b).1, .bool (two op a b).2]) ∧ w' = w := by
 have e1 : (op == 1) = false := by simp; omega
 have e2 : (op == 2) = false := by simp; omega
 have e3 : (op == 3) = false := by simp; omega
 have e4 : (op == 4) = false := by simp; omega
 have e5 : (op == 5) = false := by simp; omega
 have e6 : (op == 6) = false := by simp; omega
 have e7 : (op == 7) = false := by simp; omega
 have e8 : (op == 8) = false := by simp; omega
 have e9 : (op == 9) = false := by simp; omega
 have e10 : (op == 10) = false := by simp; omega
 have e17 : (op == 17) = false := by simp; omega
 have e18 : (op == 18) = false := by simp; omega
 have HS := Lib.hid (show two op a b = (0, false) by unfold two; repeat rw [if_neg (by omega)])
 by_cases hg : 11 ≤ op
 ·have hq : ¬ (op ≤ 16) := by omega
  go_enter Try.func105, Try.ntmps105
  go_wp2; go_ret2
  rw [HS.out]; exact ⟨rfl, rfl⟩
 ·go_enter Try.func105, Try.ntmps105
  go_wp2; go_ret2
  rw [HS.out]; exact ⟨rfl, rfl⟩
theorem two_same (op a b : Int) (w : World) : Calls Try.prog 105 #[.int .i64 op, .int .i64 a, .int .i64 b] w fun e w' => e = .returned (.tuple #[.int .i64 (two op a b).1, .bool (two op a b).2]) ∧ w' = w := by
 by_cases h : op < 1 ∨ 18 < op
 ·exact two_0 op a b h w
 ·have : op = 1 ∨ op = 2 ∨ op = 3 ∨ op = 4 ∨ op = 5 ∨ op = 6 ∨ op = 7 ∨ op = 8 ∨ op = 9 ∨ op = 10 ∨ op = 11 ∨ op = 12 ∨ op = 13 ∨ op = 14 ∨ op = 15 ∨ op = 16 ∨ op = 17 ∨ op = 18 := by omega
  rcases this with rfl | rfl | rfl | rfl | rfl | rfl | rfl | rfl | rfl | rfl | rfl | rfl | rfl | rfl | rfl | rfl | rfl | rfl
  ·exact two_1 a b w
  ·exact two_2 a b w
  ·exact two_3 a b w
  ·exact two_4 a b w
  ·exact two_5 a b w
  ·exact two_6 a b w
  ·exact two_7 a b w
  ·exact two_8 a b w
  ·exact two_9 a b w
  ·exact two_10 a b w
  ·exact two_11 a b w
  ·exact two_12 a b w
  ·exact two_13 a b w
  ·exact two_14 a b w
  ·exact two_15 a b w
  ·exact two_16 a b w
  ·exact two_17 a b w
  ·exact two_18 a b w
theorem one_same (op a : Int) (w : World) : Calls Try.prog 104 #[.int .i64 op, .int .i64 a] w fun e w' => e = .returned (.tuple #[.int .i64 (one op a).1, .bool (one op a).2]) ∧ w' = w := by
 by_cases h1 : op = 19
 ·subst h1
  go_enter Try.func104, Try.ntmps104
  go_wp2; go_ret2
  exact ⟨rfl, rfl⟩
 ·have e1 : (op == 19) = false := by simp [h1]
  by_cases h2 : op = 20
  ·subst h2
   go_enter Try.func104, Try.ntmps104
   go_wp2; go_ret2
   exact ⟨rfl, rfl⟩
  ·have e2 : (op == 20) = false := by simp [h2]
   by_cases h3 : op = 21
   ·subst h3
    by_cases hz : a = 0
    ·subst hz
     go_enter Try.func104, Try.ntmps104
     go_wp2; go_ret2
     exact ⟨rfl, rfl⟩
    ·have HZ := Lib.hid (show one 21 a = (0, true) by simp [one, hz])
     have ez : (a == 0) = false := by simp [hz]
     go_enter Try.func104, Try.ntmps104
     go_wp2; go_ret2
     rw [HZ.out]; exact ⟨rfl, rfl⟩
   ·have e3 : (op == 21) = false := by simp [h3]
    have HZ := Lib.hid (show one op a = (0, false) by simp [one, h1, h2, h3])
    go_enter Try.func104, Try.ntmps104
    go_wp2; go_ret2
    rw [HZ.out]; exact ⟨rfl, rfl⟩
end Go.Proofs.Ytjlnpppjkdcpkaa.NumA
