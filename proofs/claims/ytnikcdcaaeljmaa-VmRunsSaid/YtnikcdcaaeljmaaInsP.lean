/- An instruction's error, as the program and as the document tell it. No conditions. -/
import Derived.Test.YtnikcdcaaeljmaaInsS
namespace Go.Proofs.Ytnikcdcaaeljmaa.My
open Go.RowKit
theorem bad_calls (n : Int) (w : World) : Calls Try.prog 66 #[.int .i64 n] w fun e w' => e = .returned (.bool (!(regB n))) ∧ w' = w := by
  by_cases h0 : n < 0
  · have HS := Lib.hid (regB_no (.inl h0))
    go_enter Try.func66, Try.ntmps66
    go_wp2
    all_goals
      go_ret
      rw [HS.out]
      exact ⟨rfl, rfl⟩
  · by_cases h1 : 15 < n
    · have HS := Lib.hid (regB_no (.inr h1))
      have h1b : n > 15 := h1
      go_enter Try.func66, Try.ntmps66
      go_wp2
      all_goals
        go_ret
        rw [HS.out]
        exact ⟨rfl, rfl⟩
    · have HS := Lib.hid (regB_yes (n := n) (by omega) (by omega))
      have h1b : ¬ (n > 15) := h1
      go_enter Try.func66, Try.ntmps66
      go_wp2
      all_goals
        go_ret
        rw [HS.out]
        exact ⟨rfl, rfl⟩
/-- does a letter stand in a text? -/
def hasB (s : ByteArray) (c : Nat) : Bool := s.data.toList.any fun b => b.toNat == c
theorem any_take (l : List UInt8) (c k : Nat) (h : k < l.length) (h0 : (l.take k).any (fun b => b.toNat == c) = false) : (l[k].toNat = c → l.any (fun b => b.toNat == c) = true) ∧ (l[k].toNat ≠ c → (l.take (k + 1)).any (fun b => b.toNat == c) = false) := by
  constructor
  · intro e
    rw [List.any_eq_true]
    exact ⟨l[k], List.getElem_mem h, by simp [e]⟩
  · intro e
    rw [← List.take_append_getElem h, List.any_append, h0]
    simp [e]
theorem has_calls (s : ByteArray) (c : Nat) (hs : s.size ≤ 100) (w : World) : Calls Try.prog 65 #[.string s, .int .u8 (c : Int)] w fun e w' => e = .returned (.bool (hasB s c)) ∧ w' = w := by
  have hsz : s.data.toList.length = s.size := by rw [Array.length_toList]; rfl
  go_enter Try.func65, Try.ntmps65
  go_wp2
  go_loop [5] (fun i => ∃ k : Nat, k ≤ s.size ∧ i = .int .i64 k ∧ Hid ((s.data.toList.take k).any (fun b => b.toNat == c) = false)) (fun i => s.size - (intOf i).toNat)
  case atStart => exact ⟨0, Nat.zero_le _, rfl, Lib.hid rfl⟩
  case round =>
    obtain ⟨k, hk, rfl, HK⟩ := hrel
    by_cases hlt : k < s.size
    · have ha := any_take s.data.toList c k (by omega) HK.out
      have he0 : s.data.toList[k] = s[k] := rfl
      rw [he0] at ha
      by_cases he : s[k].toNat = c
      · have he' : (((s[k].toNat : Nat) : Int) == (c : Int)) = true := by simp [he]
        have HS := Lib.hid (show hasB s c = true from ha.1 he)
        clear ha he0 he
        go_wp2
        go_ret
        rw [HS.out]
        exact ⟨rfl, rfl⟩
      · have he' : (((s[k].toNat : Nat) : Int) == (c : Int)) = false := by simp; omega
        have HS := Lib.hid (ha.2 he)
        clear ha he0 he
        go_wp2
        go_round
        case rel => exact ⟨k + 1, by omega, by go_num, HS⟩
        case measure => simp [intOf]; omega
    · have HS := Lib.hid (show hasB s c = false by have h := HK.out; rw [List.take_of_length_le (by omega)] at h; exact h)
      go_wp2
      go_ret
      rw [HS.out]
      exact ⟨rfl, rfl⟩
set_option maxRecDepth 100000 in
theorem parts_1 (w : World) : Calls Try.prog 64 #[.int .i64 1] w fun e w' => e = .returned (.string ⟨#[]⟩) ∧ Below w.heap.size w w' := by
  go_enter Try.func64, Try.ntmps64
  go_wp2
  all_goals
    go_ret
    refine ⟨rfl, ?_⟩
    repeat (first | exact Below.refl _ _ | apply Below.al | apply Below.drew)
set_option maxRecDepth 100000 in
theorem parts_2 (w : World) : Calls Try.prog 64 #[.int .i64 2] w fun e w' => e = .returned (.string ⟨#[97, 107]⟩) ∧ Below w.heap.size w w' := by
  go_enter Try.func64, Try.ntmps64
  go_wp2
  all_goals
    go_ret
    refine ⟨rfl, ?_⟩
    repeat (first | exact Below.refl _ _ | apply Below.al | apply Below.drew)
set_option maxRecDepth 100000 in
theorem parts_3 (w : World) : Calls Try.prog 64 #[.int .i64 3] w fun e w' => e = .returned (.string ⟨#[97, 98]⟩) ∧ Below w.heap.size w w' := by
  go_enter Try.func64, Try.ntmps64
  go_wp2
  all_goals
    go_ret
    refine ⟨rfl, ?_⟩
    repeat (first | exact Below.refl _ _ | apply Below.al | apply Below.drew)
set_option maxRecDepth 100000 in
theorem parts_4 (w : World) : Calls Try.prog 64 #[.int .i64 4] w fun e w' => e = .returned (.string ⟨#[112, 97, 98]⟩) ∧ Below w.heap.size w w' := by
  go_enter Try.func64, Try.ntmps64
  go_wp2
  all_goals
    go_ret
    refine ⟨rfl, ?_⟩
    repeat (first | exact Below.refl _ _ | apply Below.al | apply Below.drew)
set_option maxRecDepth 100000 in
theorem parts_5 (w : World) : Calls Try.prog 64 #[.int .i64 5] w fun e w' => e = .returned (.string ⟨#[111, 97, 98, 99]⟩) ∧ Below w.heap.size w w' := by
  go_enter Try.func64, Try.ntmps64
  go_wp2
  all_goals
    go_ret
    refine ⟨rfl, ?_⟩
    repeat (first | exact Below.refl _ _ | apply Below.al | apply Below.drew)
set_option maxRecDepth 100000 in
theorem parts_6 (w : World) : Calls Try.prog 64 #[.int .i64 6] w fun e w' => e = .returned (.string ⟨#[97, 98, 107]⟩) ∧ Below w.heap.size w w' := by
  go_enter Try.func64, Try.ntmps64
  go_wp2
  all_goals
    go_ret
    refine ⟨rfl, ?_⟩
    repeat (first | exact Below.refl _ _ | apply Below.al | apply Below.drew)
set_option maxRecDepth 100000 in
theorem parts_7 (w : World) : Calls Try.prog 64 #[.int .i64 7] w fun e w' => e = .returned (.string ⟨#[97, 98, 107]⟩) ∧ Below w.heap.size w w' := by
  go_enter Try.func64, Try.ntmps64
  go_wp2
  all_goals
    go_ret
    refine ⟨rfl, ?_⟩
    repeat (first | exact Below.refl _ _ | apply Below.al | apply Below.drew)
set_option maxRecDepth 100000 in
theorem parts_8 (w : World) : Calls Try.prog 64 #[.int .i64 8] w fun e w' => e = .returned (.string ⟨#[97, 114]⟩) ∧ Below w.heap.size w w' := by
  go_enter Try.func64, Try.ntmps64
  go_wp2
  all_goals
    go_ret
    refine ⟨rfl, ?_⟩
    repeat (first | exact Below.refl _ _ | apply Below.al | apply Below.drew)
set_option maxRecDepth 100000 in
theorem parts_9 (w : World) : Calls Try.prog 64 #[.int .i64 9] w fun e w' => e = .returned (.string ⟨#[97]⟩) ∧ Below w.heap.size w w' := by
  go_enter Try.func64, Try.ntmps64
  go_wp2
  all_goals
    go_ret
    refine ⟨rfl, ?_⟩
    repeat (first | exact Below.refl _ _ | apply Below.al | apply Below.drew)
set_option maxRecDepth 100000 in
theorem parts_10 (w : World) : Calls Try.prog 64 #[.int .i64 10] w fun e w' => e = .returned (.string ⟨#[116]⟩) ∧ Below w.heap.size w w' := by
  go_enter Try.func64, Try.ntmps64
  go_wp2
  all_goals
    go_ret
    refine ⟨rfl, ?_⟩
    repeat (first | exact Below.refl _ _ | apply Below.al | apply Below.drew)
set_option maxRecDepth 100000 in
theorem parts_11 (w : World) : Calls Try.prog 64 #[.int .i64 11] w fun e w' => e = .returned (.string ⟨#[97, 116]⟩) ∧ Below w.heap.size w w' := by
  go_enter Try.func64, Try.ntmps64
  go_wp2
  all_goals
    go_ret
    refine ⟨rfl, ?_⟩
    repeat (first | exact Below.refl _ _ | apply Below.al | apply Below.drew)
set_option maxRecDepth 100000 in
theorem parts_12 (w : World) : Calls Try.prog 64 #[.int .i64 12] w fun e w' => e = .returned (.string ⟨#[97, 116]⟩) ∧ Below w.heap.size w w' := by
  go_enter Try.func64, Try.ntmps64
  go_wp2
  all_goals
    go_ret
    refine ⟨rfl, ?_⟩
    repeat (first | exact Below.refl _ _ | apply Below.al | apply Below.drew)
set_option maxRecDepth 100000 in
theorem parts_13 (w : World) : Calls Try.prog 64 #[.int .i64 13] w fun e w' => e = .returned (.string ⟨#[97]⟩) ∧ Below w.heap.size w w' := by
  go_enter Try.func64, Try.ntmps64
  go_wp2
  all_goals
    go_ret
    refine ⟨rfl, ?_⟩
    repeat (first | exact Below.refl _ _ | apply Below.al | apply Below.drew)
set_option maxRecDepth 100000 in
theorem parts_0 (k : Int) (hk : k < 1 ∨ 13 < k) (w : World) : Calls Try.prog 64 #[.int .i64 k] w fun e w' => e = .returned (.string ⟨#[63]⟩) ∧ Below w.heap.size w w' := by
  rcases hk with hk | hk
  · go_enter Try.func64, Try.ntmps64
    go_wp2
    all_goals
      go_ret
      refine ⟨rfl, ?_⟩
      repeat (first | exact Below.refl _ _ | apply Below.al | apply Below.drew)
  · have hk2 : ¬ (k < 1) := by omega
    have hk3 : k > 13 := hk
    go_enter Try.func64, Try.ntmps64
    go_wp2
    all_goals
      go_ret
      refine ⟨rfl, ?_⟩
      repeat (first | exact Below.refl _ _ | apply Below.al | apply Below.drew)
end Go.Proofs.Ytnikcdcaaeljmaa.My
