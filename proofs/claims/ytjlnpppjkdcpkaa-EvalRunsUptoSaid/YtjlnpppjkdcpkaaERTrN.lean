/- Which texts are names: the program's test, walked. Conditions: the text is no longer than may be. -/
import Derived.Test.YtjlnpppjkdcpkaaERNameS
import Derived.Test.YtjlnpppjkdcpkaaERNameW
namespace Go.Proofs.Ytjlnpppjkdcpkaa.My
open Go.RowKit
def letterB (c : Int) : Bool := decide (97 ≤ c ∧ c ≤ 122) || decide (65 ≤ c ∧ c ≤ 90) || decide (c = 95)
def digitB (c : Int) : Bool := decide (48 ≤ c ∧ c ≤ 57)
theorem lexLetter_calls (c : Int) (w : World) : Calls Try.prog 100 #[.int .u8 c] w fun e w' => e = .returned (.bool (letterB c)) ∧ w' = w := by
 go_enter Try.func100, Try.ntmps100
 by_cases h1 : 97 ≤ c <;> by_cases h2 : c ≤ 122 <;> by_cases h3 : 65 ≤ c <;> by_cases h4 : c ≤ 90 <;> by_cases h5 : (c == 95) = true
 all_goals try (have := eq_of_beq h5; exfalso; omega)
 all_goals try (rw [Bool.not_eq_true] at h5)
 all_goals
  go_wp2; go_ret; first
   | (have h : letterB c = true := by simp only [letterB, Bool.or_eq_true, decide_eq_true_eq]; first | omega | (have := eq_of_beq h5; omega)
      exact ⟨congrArg (fun b => Ending.returned (.bool b)) h.symm, rfl⟩)
   | (have h : letterB c = false := by simp only [letterB, Bool.or_eq_false_iff, decide_eq_false_iff_not]; have := ne_of_beq_false h5; omega
      exact ⟨congrArg (fun b => Ending.returned (.bool b)) h.symm, rfl⟩)
theorem lexDigit_calls (c : Int) (w : World) : Calls Try.prog 102 #[.int .u8 c] w fun e w' => e = .returned (.bool (digitB c)) ∧ w' = w := by
 go_enter Try.func102, Try.ntmps102
 by_cases h1 : 48 ≤ c <;> by_cases h2 : c ≤ 57
 all_goals
  go_wp2; go_ret; first
   | (have h : digitB c = true := by simp only [digitB, decide_eq_true_eq]; omega
      exact ⟨congrArg (fun b => Ending.returned (.bool b)) h.symm, rfl⟩)
   | (have h : digitB c = false := by simp only [digitB, decide_eq_false_iff_not]; omega
      exact ⟨congrArg (fun b => Ending.returned (.bool b)) h.symm, rfl⟩)
theorem sbeq (a b : ByteArray) : (a.toList == b.toList) = true ↔ a = b := by
 rw [beq_iff_eq]; exact ⟨fun h => by rw [ByteArray.toList_eq, ByteArray.toList_eq] at h; cases a; cases b; simp at h; simp [h], fun h => by rw [h]⟩
theorem sbeqL (a : ByteArray) (l : List UInt8) : (a.toList == l) = true ↔ a = ⟨l.toArray⟩ := by
 have : (⟨l.toArray⟩ : ByteArray).toList = l := ByteArray.toList_mk l
 have h := sbeq a ⟨l.toArray⟩; rwa [this] at h
def kwl : List ByteArray := [⟨#[118, 97, 114]⟩, ⟨#[105, 102]⟩, ⟨#[101, 108, 115, 101]⟩, ⟨#[119, 104, 105, 108, 101]⟩, ⟨#[101, 109, 105, 116]⟩, ⟨#[105, 110, 116, 111]⟩, ⟨#[102, 97, 105, 108]⟩, ⟨#[115, 116, 111, 112]⟩, ⟨#[109]⟩, ⟨#[109, 105, 110]⟩, ⟨#[109, 97, 120]⟩]
def wordsB (s : ByteArray) : Bool := kwl.any (fun k => decide (s = k))
theorem lexWords_calls (s : ByteArray) (w : World) : Calls Try.prog 101 #[.string s] w fun e w' => e = .returned (.bool (wordsB s)) ∧ w' = w := by
 by_cases h0 : s = ⟨#[118, 97, 114]⟩
 ·have b0 : (s.toList == [118, 97, 114]) = true := (sbeqL s [118, 97, 114]).2 h0
  have hw : wordsB s = true := by rw [h0]; simp [wordsB, kwl]
  clear h0; go_enter Try.func101, Try.ntmps101
  go_wp2; go_ret; exact ⟨congrArg (fun b => Ending.returned (.bool b)) hw.symm, rfl⟩
 have b0 : (s.toList == [118, 97, 114]) = false := by
  rw [Bool.eq_false_iff]; intro hh; exact h0 ((sbeqL s [118, 97, 114]).1 hh)
 by_cases h1 : s = ⟨#[105, 102]⟩
 ·have b1 : (s.toList == [105, 102]) = true := (sbeqL s [105, 102]).2 h1
  have hw : wordsB s = true := by rw [h1]; simp [wordsB, kwl]
  clear h1; go_enter Try.func101, Try.ntmps101
  go_wp2; go_ret; exact ⟨congrArg (fun b => Ending.returned (.bool b)) hw.symm, rfl⟩
 have b1 : (s.toList == [105, 102]) = false := by
  rw [Bool.eq_false_iff]; intro hh; exact h1 ((sbeqL s [105, 102]).1 hh)
 by_cases h2 : s = ⟨#[101, 108, 115, 101]⟩
 ·have b2 : (s.toList == [101, 108, 115, 101]) = true := (sbeqL s [101, 108, 115, 101]).2 h2
  have hw : wordsB s = true := by rw [h2]; simp [wordsB, kwl]
  clear h2; go_enter Try.func101, Try.ntmps101
  go_wp2; go_ret; exact ⟨congrArg (fun b => Ending.returned (.bool b)) hw.symm, rfl⟩
 have b2 : (s.toList == [101, 108, 115, 101]) = false := by
  rw [Bool.eq_false_iff]; intro hh; exact h2 ((sbeqL s [101, 108, 115, 101]).1 hh)
 by_cases h3 : s = ⟨#[119, 104, 105, 108, 101]⟩
 ·have b3 : (s.toList == [119, 104, 105, 108, 101]) = true := (sbeqL s [119, 104, 105, 108, 101]).2 h3
  have hw : wordsB s = true := by rw [h3]; simp [wordsB, kwl]
  clear h3; go_enter Try.func101, Try.ntmps101
  go_wp2; go_ret; exact ⟨congrArg (fun b => Ending.returned (.bool b)) hw.symm, rfl⟩
 have b3 : (s.toList == [119, 104, 105, 108, 101]) = false := by
  rw [Bool.eq_false_iff]; intro hh; exact h3 ((sbeqL s [119, 104, 105, 108, 101]).1 hh)
 by_cases h4 : s = ⟨#[101, 109, 105, 116]⟩
 ·have b4 : (s.toList == [101, 109, 105, 116]) = true := (sbeqL s [101, 109, 105, 116]).2 h4
  have hw : wordsB s = true := by rw [h4]; simp [wordsB, kwl]
  clear h4; go_enter Try.func101, Try.ntmps101
  go_wp2; go_ret; exact ⟨congrArg (fun b => Ending.returned (.bool b)) hw.symm, rfl⟩
 have b4 : (s.toList == [101, 109, 105, 116]) = false := by
  rw [Bool.eq_false_iff]; intro hh; exact h4 ((sbeqL s [101, 109, 105, 116]).1 hh)
 by_cases h5 : s = ⟨#[105, 110, 116, 111]⟩
 ·have b5 : (s.toList == [105, 110, 116, 111]) = true := (sbeqL s [105, 110, 116, 111]).2 h5
  have hw : wordsB s = true := by rw [h5]; simp [wordsB, kwl]
  clear h5; go_enter Try.func101, Try.ntmps101
  go_wp2; go_ret; exact ⟨congrArg (fun b => Ending.returned (.bool b)) hw.symm, rfl⟩
 have b5 : (s.toList == [105, 110, 116, 111]) = false := by
  rw [Bool.eq_false_iff]; intro hh; exact h5 ((sbeqL s [105, 110, 116, 111]).1 hh)
 by_cases h6 : s = ⟨#[102, 97, 105, 108]⟩
 ·have b6 : (s.toList == [102, 97, 105, 108]) = true := (sbeqL s [102, 97, 105, 108]).2 h6
  have hw : wordsB s = true := by rw [h6]; simp [wordsB, kwl]
  clear h6; go_enter Try.func101, Try.ntmps101
  go_wp2; go_ret; exact ⟨congrArg (fun b => Ending.returned (.bool b)) hw.symm, rfl⟩
 have b6 : (s.toList == [102, 97, 105, 108]) = false := by
  rw [Bool.eq_false_iff]; intro hh; exact h6 ((sbeqL s [102, 97, 105, 108]).1 hh)
 by_cases h7 : s = ⟨#[115, 116, 111, 112]⟩
 ·have b7 : (s.toList == [115, 116, 111, 112]) = true := (sbeqL s [115, 116, 111, 112]).2 h7
  have hw : wordsB s = true := by rw [h7]; simp [wordsB, kwl]
  clear h7; go_enter Try.func101, Try.ntmps101
  go_wp2; go_ret; exact ⟨congrArg (fun b => Ending.returned (.bool b)) hw.symm, rfl⟩
 have b7 : (s.toList == [115, 116, 111, 112]) = false := by
  rw [Bool.eq_false_iff]; intro hh; exact h7 ((sbeqL s [115, 116, 111, 112]).1 hh)
 by_cases h8 : s = ⟨#[109]⟩
 ·have b8 : (s.toList == [109]) = true := (sbeqL s [109]).2 h8
  have hw : wordsB s = true := by rw [h8]; simp [wordsB, kwl]
  clear h8; go_enter Try.func101, Try.ntmps101
  go_wp2; go_ret; exact ⟨congrArg (fun b => Ending.returned (.bool b)) hw.symm, rfl⟩
 have b8 : (s.toList == [109]) = false := by
  rw [Bool.eq_false_iff]; intro hh; exact h8 ((sbeqL s [109]).1 hh)
 by_cases h9 : s = ⟨#[109, 105, 110]⟩
 ·have b9 : (s.toList == [109, 105, 110]) = true := (sbeqL s [109, 105, 110]).2 h9
  have hw : wordsB s = true := by rw [h9]; simp [wordsB, kwl]
  clear h9; go_enter Try.func101, Try.ntmps101
  go_wp2; go_ret; exact ⟨congrArg (fun b => Ending.returned (.bool b)) hw.symm, rfl⟩
 have b9 : (s.toList == [109, 105, 110]) = false := by
  rw [Bool.eq_false_iff]; intro hh; exact h9 ((sbeqL s [109, 105, 110]).1 hh)
 by_cases h10 : s = ⟨#[109, 97, 120]⟩
 ·have b10 : (s.toList == [109, 97, 120]) = true := (sbeqL s [109, 97, 120]).2 h10
  have hw : wordsB s = true := by rw [h10]; simp [wordsB, kwl]
  clear h10; go_enter Try.func101, Try.ntmps101
  go_wp2; go_ret; exact ⟨congrArg (fun b => Ending.returned (.bool b)) hw.symm, rfl⟩
 have b10 : (s.toList == [109, 97, 120]) = false := by
  rw [Bool.eq_false_iff]; intro hh; exact h10 ((sbeqL s [109, 97, 120]).1 hh)
 have hw : wordsB s = false := by simp [wordsB, kwl, h0, h1, h2, h3, h4, h5, h6, h7, h8, h9, h10]
 clear h0 h1 h2 h3 h4 h5 h6 h7 h8 h9 h10; go_enter Try.func101, Try.ntmps101
 go_wp2; go_ret; exact ⟨congrArg (fun b => Ending.returned (.bool b)) hw.symm, rfl⟩
/-- a byte of a text -/
def byteN (s : ByteArray) (k : Nat) : Int := if h : k < s.size then (s[k].toNat : Int) else 0
def allB (s : ByteArray) : Bool := (List.range s.size).all fun k => letterB (byteN s k) || digitB (byteN s k)
/-- is a text a name? -/
def nameB (s : ByteArray) : Bool := decide (0 < s.size ∧ s.size ≤ 12) && letterB (byteN s 0) && !wordsB s && allB s
theorem lexName_calls (s : ByteArray) (w : World) (hs : s.size ≤ maxLen) : Calls Try.prog 83 #[.string s] w fun e w' => e = .returned (.bool (nameB s)) ∧ w' = w := by
 unfold maxLen at hs; by_cases h0 : s.size = 0
 ·have hb : (s.toList == []) = true := (sbeqL s []).2 (by cases s; rename_i d; have : d.size = 0 := h0; simp only [ByteArray.mk.injEq]; exact Array.eq_empty_of_size_eq_zero this)
  have HR := Lib.hid (show nameB s = false by simp [nameB, h0])
  clear h0; go_enter Try.func83, Try.ntmps83
  go_wp2; go_ret; exact ⟨congrArg (fun b => Ending.returned (.bool b)) HR.out.symm, rfl⟩
 have hb : (s.toList == []) = false := by rw [Bool.eq_false_iff]; intro hh; have := (sbeqL s []).1 hh; exact h0 (by rw [this]; rfl)
 by_cases h12 : 12 < s.size
 ·have HR := Lib.hid (show nameB s = false by simp [nameB]; omega)
  go_enter Try.func83, Try.ntmps83
  go_wp2; go_ret; exact ⟨congrArg (fun b => Ending.returned (.bool b)) HR.out.symm, rfl⟩
 have hz : 0 < s.size := by omega
 have hb0 : byteN s 0 = (s[0].toNat : Int) := by simp [byteN, hz]
 by_cases hl : letterB (s[0].toNat : Int) = false
 ·have HL := Lib.hid hl
  have HR := Lib.hid (show nameB s = false by simp [nameB, hb0, HL.out])
  clear hl hb0; go_enter Try.func83, Try.ntmps83
  go_wp2_with (go_at_call 100; go_must (refine (lexLetter_calls _ _).mono ?_); rintro x w1 ⟨rfl, rfl⟩; rw [HL.out])
  go_ret; exact ⟨congrArg (fun b => Ending.returned (.bool b)) HR.out.symm, rfl⟩
 have HL := Lib.hid (show letterB (s[0].toNat : Int) = true by simpa using hl)
 clear hl; by_cases hw : wordsB s = true
 ·have HW := Lib.hid hw
  have HR := Lib.hid (show nameB s = false by simp [nameB, hw])
  clear hw hb0; go_enter Try.func83, Try.ntmps83
  go_wp2_with (first | (go_at_call 101; go_must (refine (lexWords_calls _ _).mono ?_); rintro x w2 ⟨rfl, rfl⟩; rw [HW.out]) | (go_at_call 100; go_must (refine (lexLetter_calls _ _).mono ?_); rintro x w1 ⟨rfl, rfl⟩; rw [HL.out]))
  go_ret; exact ⟨congrArg (fun b => Ending.returned (.bool b)) HR.out.symm, rfl⟩
 have HW := Lib.hid (show wordsB s = false by simpa using hw)
 have HN := Lib.hid (show nameB s = allB s by simp [nameB, hb0, HL.out, HW.out, hz]; omega)
 clear hw hb0; go_enter Try.func83, Try.ntmps83
 go_wp2_with (first | (go_at_call 101; go_must (refine (lexWords_calls _ _).mono ?_); rintro x w2 ⟨rfl, rfl⟩; rw [HW.out]) | (go_at_call 100; go_must (refine (lexLetter_calls _ _).mono ?_); rintro x w1 ⟨rfl, rfl⟩; rw [HL.out]))
 go_loop [23] (fun i => ∃ k : Nat, k ≤ s.size ∧ i = .int .i64 (k : Int) ∧ Hid (∀ j, j < k → (letterB (byteN s j) || digitB (byteN s j)) = true)) (fun i => s.size - (intOf i).toNat)
 case atStart => exact ⟨0, Nat.zero_le _, rfl, Lib.hid (fun j hj => absurd hj (Nat.not_lt_zero _))⟩
 case round =>
  obtain ⟨k, hk, rfl, HK⟩ := hrel; clear HL HW; by_cases hlt : k < s.size
  ·have hbk : byteN s k = (s[k].toNat : Int) := by simp [byteN, hlt]
   have hlt' : (k : Int) < (s.size : Int) := by omega
   have hk0 : (0 : Int) ≤ (k : Int) := by omega
   by_cases hl : letterB (s[k].toNat : Int) = true
   ·have HL := Lib.hid hl
    have HS := Lib.hid (show ∀ j, j < k + 1 → (letterB (byteN s j) || digitB (byteN s j)) = true from fun j hj => by
     by_cases hjk : j = k
     ·rw [hjk, hbk, hl]; rfl
     ·exact HK.out j (by omega))
    clear hl hbk; go_wp2_with (go_at_call 100; go_must (refine (lexLetter_calls _ _).mono ?_); rintro x w1 ⟨rfl, rfl⟩; rw [HL.out])
    go_round
    case rel => exact ⟨k + 1, by omega, by go_num, HS⟩
    case measure => simp [intOf]; omega
   ·have HL := Lib.hid (show letterB (s[k].toNat : Int) = false by simpa using hl)
    by_cases hd : digitB (s[k].toNat : Int) = true
    ·have HD := Lib.hid hd
     have HS := Lib.hid (show ∀ j, j < k + 1 → (letterB (byteN s j) || digitB (byteN s j)) = true from fun j hj => by
      by_cases hjk : j = k
      ·rw [hjk, hbk, hd]; simp
      ·exact HK.out j (by omega))
     clear hl hd hbk; go_wp2_with (first | (go_at_call 102; go_must (refine (lexDigit_calls _ _).mono ?_); rintro x w3 ⟨rfl, rfl⟩; rw [HD.out]) | (go_at_call 100; go_must (refine (lexLetter_calls _ _).mono ?_); rintro x w1 ⟨rfl, rfl⟩; rw [HL.out]))
     go_round
     case rel => exact ⟨k + 1, by omega, by go_num, HS⟩
     case measure => simp [intOf]; omega
    ·have HD := Lib.hid (show digitB (s[k].toNat : Int) = false by simpa using hd)
     have HR := Lib.hid (show nameB s = false by
      rw [HN.out, allB, List.all_eq_false]; exact ⟨k, List.mem_range.2 hlt, by simp [hbk, HL.out, HD.out]⟩)
     clear hl hd hbk; go_wp2_with (first | (go_at_call 102; go_must (refine (lexDigit_calls _ _).mono ?_); rintro x w3 ⟨rfl, rfl⟩; rw [HD.out]) | (go_at_call 100; go_must (refine (lexLetter_calls _ _).mono ?_); rintro x w1 ⟨rfl, rfl⟩; rw [HL.out]))
     go_ret; exact ⟨congrArg (fun b => Ending.returned (.bool b)) HR.out.symm, rfl⟩
  ·have HR := Lib.hid (show nameB s = true by
    rw [HN.out, allB, List.all_eq_true]; intro j hj; exact HK.out j (by have := List.mem_range.1 hj; omega))
   go_wp2; go_ret; exact ⟨congrArg (fun b => Ending.returned (.bool b)) HR.out.symm, rfl⟩
end Go.Proofs.Ytjlnpppjkdcpkaa.My
