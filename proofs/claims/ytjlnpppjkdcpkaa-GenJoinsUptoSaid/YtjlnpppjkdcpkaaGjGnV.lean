/- The document's Moved: instructions with their targets so much further. Conditions: the row lies in memory, no target wraps round. -/
import Derived.Test.YtjlnpppjkdcpkaaGjGnL
import Derived.Test.YtjlnpppjkdcpkaaGjGnA
namespace Go.Proofs.Ytjlnpppjkdcpkaa.My
open Go.RowKit Go.Proofs.Ytjlnpppjkdcpkaa.NumA
set_option linter.unusedVariables false
set_option linter.unusedSimpArgs false
/-- does a letter stand in a text? -/
def hasJ (s : ByteArray) (c : Nat) : Bool := s.data.toList.any fun b => b.toNat == c
theorem any_takeJ (l : List UInt8) (c k : Nat) (h : k < l.length) (h0 : (l.take k).any (fun b => b.toNat == c) = false) : (l[k].toNat = c → l.any (fun b => b.toNat == c) = true) ∧ (l[k].toNat ≠ c → (l.take (k + 1)).any (fun b => b.toNat == c) = false) := by
  constructor
  · intro e
    rw [List.any_eq_true]
    exact ⟨l[k], List.getElem_mem h, by simp [e]⟩
  · intro e
    rw [← List.take_append_getElem h, List.any_append, h0]
    simp [e]
theorem hasJ_calls (s : ByteArray) (c : Nat) (hs : s.size ≤ 100) (w : World) : Calls Try.prog 37 #[.string s, .int .u8 (c : Int)] w fun e w' => e = .returned (.bool (hasJ s c)) ∧ w' = w := by
  have hsz : s.data.toList.length = s.size := by rw [Array.length_toList]; rfl
  go_enter Try.func37, Try.ntmps37
  go_wp2
  go_loop [5] (fun i => ∃ k : Nat, k ≤ s.size ∧ i = .int .i64 k ∧ Hid ((s.data.toList.take k).any (fun b => b.toNat == c) = false)) (fun i => s.size - (intOf i).toNat)
  case atStart => exact ⟨0, Nat.zero_le _, rfl, Lib.hid rfl⟩
  case round =>
    obtain ⟨k, hk, rfl, HK⟩ := hrel
    by_cases hlt : k < s.size
    · have ha := any_takeJ s.data.toList c k (by omega) HK.out
      have he0 : s.data.toList[k] = s[k] := rfl
      rw [he0] at ha
      by_cases he : s[k].toNat = c
      · have he' : (((s[k].toNat : Nat) : Int) == (c : Int)) = true := by simp [he]
        have HS := Lib.hid (show hasJ s c = true from ha.1 he)
        clear ha he0 he
        go_wp2
        go_ret
        rw [HS.out]
        exact ⟨rfl, rfl⟩
      · have he' : (((s[k].toNat : Nat) : Int) == (c : Int)) = false := by simp; omega
        have HS := Lib.hid (ha.2 he)
        clear ha he0 he
        go_wp2
        go_round
        case rel => exact ⟨k + 1, by omega, by go_num, HS⟩
        case measure => simp [intOf]; omega
    · have HS := Lib.hid (show hasJ s c = false by have h := HK.out; rw [List.take_of_length_le (by omega)] at h; exact h)
      go_wp2
      go_ret
      rw [HS.out]
      exact ⟨rfl, rfl⟩
def partsOf (k : Int) : ByteArray := if k = 1 then ⟨#[]⟩ else if k = 2 then ⟨#[97, 107]⟩ else if k = 3 then ⟨#[97, 98]⟩ else if k = 4 then ⟨#[112, 97, 98]⟩ else if k = 5 then ⟨#[111, 97, 98, 99]⟩ else if k = 6 then ⟨#[97, 98, 107]⟩ else if k = 7 then ⟨#[97, 98, 107]⟩ else if k = 8 then ⟨#[97, 114]⟩ else if k = 9 then ⟨#[97]⟩ else if k = 10 then ⟨#[116]⟩ else if k = 11 then ⟨#[97, 116]⟩ else if k = 12 then ⟨#[97, 116]⟩ else if k = 13 then ⟨#[97]⟩ else ⟨#[63]⟩
theorem partsOf_no {k : Int} (hk : k < 1 ∨ 13 < k) : partsOf k = ⟨#[63]⟩ := by
  unfold partsOf
  rw [if_neg (by omega), if_neg (by omega), if_neg (by omega), if_neg (by omega), if_neg (by omega), if_neg (by omega), if_neg (by omega), if_neg (by omega), if_neg (by omega), if_neg (by omega), if_neg (by omega), if_neg (by omega), if_neg (by omega)]
theorem partsOf_size (k : Int) : (partsOf k).size ≤ 100 := by
  by_cases hk : k < 1 ∨ 13 < k
  · rw [partsOf_no hk]; decide
  · have hk' : k = 1 ∨ k = 2 ∨ k = 3 ∨ k = 4 ∨ k = 5 ∨ k = 6 ∨ k = 7 ∨ k = 8 ∨ k = 9 ∨ k = 10 ∨ k = 11 ∨ k = 12 ∨ k = 13 := by omega
    rcases hk' with rfl | rfl | rfl | rfl | rfl | rfl | rfl | rfl | rfl | rfl | rfl | rfl | rfl <;> decide
theorem partsOf_t (k : Int) : hasJ (partsOf k) 116 = decide (10 ≤ k ∧ k ≤ 12) := by
  by_cases hk : k < 1 ∨ 13 < k
  · have : partsOf k = ⟨#[63]⟩ := by
      unfold partsOf
      rw [if_neg (by omega), if_neg (by omega), if_neg (by omega), if_neg (by omega), if_neg (by omega), if_neg (by omega), if_neg (by omega), if_neg (by omega), if_neg (by omega), if_neg (by omega), if_neg (by omega), if_neg (by omega), if_neg (by omega)]
    rw [this, show hasJ ⟨#[63]⟩ 116 = false by decide]
    simp; omega
  · have hk' : k = 1 ∨ k = 2 ∨ k = 3 ∨ k = 4 ∨ k = 5 ∨ k = 6 ∨ k = 7 ∨ k = 8 ∨ k = 9 ∨ k = 10 ∨ k = 11 ∨ k = 12 ∨ k = 13 := by omega
    rcases hk' with rfl | rfl | rfl | rfl | rfl | rfl | rfl | rfl | rfl | rfl | rfl | rfl | rfl <;> decide
set_option maxRecDepth 100000 in
set_option maxHeartbeats 4000000 in
theorem partsJ_calls (k : Int) (w : World) : Calls Try.prog 38 #[.int .i64 k] w fun e w' => e = .returned (.string (partsOf k)) ∧ Below w.heap.size w w' := by
  by_cases hk : k < 1 ∨ 13 < k
  · have HP := Lib.hid (show partsOf k = ⟨#[63]⟩ by
      unfold partsOf
      rw [if_neg (by omega), if_neg (by omega), if_neg (by omega), if_neg (by omega), if_neg (by omega), if_neg (by omega), if_neg (by omega), if_neg (by omega), if_neg (by omega), if_neg (by omega), if_neg (by omega), if_neg (by omega), if_neg (by omega)])
    rcases hk with hk | hk
    · go_enter Try.func38, Try.ntmps38
      go_wp2
      all_goals
        go_ret
        rw [HP.out]
        refine ⟨rfl, ?_⟩
        repeat (first | exact Below.refl _ _ | apply Below.al | apply Below.drew)
    · have hk2 : ¬ (k < 1) := by omega
      have hk3 : k > 13 := hk
      go_enter Try.func38, Try.ntmps38
      go_wp2
      all_goals
        go_ret
        rw [HP.out]
        refine ⟨rfl, ?_⟩
        repeat (first | exact Below.refl _ _ | apply Below.al | apply Below.drew)
  · have hk' : k = 1 ∨ k = 2 ∨ k = 3 ∨ k = 4 ∨ k = 5 ∨ k = 6 ∨ k = 7 ∨ k = 8 ∨ k = 9 ∨ k = 10 ∨ k = 11 ∨ k = 12 ∨ k = 13 := by omega
    rcases hk' with rfl | rfl | rfl | rfl | rfl | rfl | rfl | rfl | rfl | rfl | rfl | rfl | rfl
    all_goals
      go_enter Try.func38, Try.ntmps38
      go_wp2
      all_goals
        go_ret
        refine ⟨rfl, ?_⟩
        repeat (first | exact Below.refl _ _ | apply Below.al | apply Below.drew)
end Go.Proofs.Ytjlnpppjkdcpkaa.My
