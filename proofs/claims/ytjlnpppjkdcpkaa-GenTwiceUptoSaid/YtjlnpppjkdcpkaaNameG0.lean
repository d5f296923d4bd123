/- Layer 7: the guard Name of a text: it ends with a truth value and changes nothing that was there. -/
import Derived.Test.YtjlnpppjkdcpkaaNameR2
namespace Go.Proofs.Ytjlnpppjkdcpkaa.My
open Go.RowKit Go.Maps
/-- a truth value, and the world as it was -/
def SameB (w : World) (e : Ending) (w' : World) : Prop := ∃ b, e = .returned (.bool b) ∧ w' = w
/-- a truth value, and what was there is kept -/
def AnyB (w : World) (e : Ending) (w' : World) : Prop := ∃ b, e = .returned (.bool b) ∧ Below w.heap.size w w'
theorem letter_any (c : Int) (w : World) : Calls Try.prog 91 #[.int .u8 c] w (SameB w) := by
  go_enter Try.func91, Try.ntmps91
  go_wp2
  all_goals
    go_ret
    exact ⟨_, rfl, rfl⟩
theorem digit_any (c : Int) (w : World) : Calls Try.prog 92 #[.int .u8 c] w (SameB w) := by
  go_enter Try.func92, Try.ntmps92
  go_wp2
  all_goals
    go_ret
    exact ⟨_, rfl, rfl⟩
theorem row3_any (s : ByteArray) (w : World) (hs : s.size ≤ maxLen) : Calls Try.prog 75 #[.string s] w (SameB w) := by
  unfold maxLen at hs
  go_enter Try.func75, Try.ntmps75
  go_wp2
  go_loop [3] (fun i => ∃ k : Nat, k ≤ s.size ∧ i = .int .i64 k) (fun i => s.size - (intOf i).toNat)
  case atStart => exact ⟨0, Nat.zero_le _, rfl⟩
  case round =>
    obtain ⟨k, hk, rfl⟩ := hrel
    by_cases hlt : k < s.size
    · go_wp2_with (first | (go_at_call 92; go_must (refine (digit_any _ _).mono ?_); rintro x w1 ⟨b2, rfl, rfl⟩) | (go_at_call 91; go_must (refine (letter_any _ _).mono ?_); rintro x w1 ⟨b1, rfl, rfl⟩))
      all_goals first
        | (go_ret; exact ⟨_, rfl, rfl⟩)
        | (go_round
           case rel => exact ⟨k + 1, by omega, by go_num⟩
           case measure => simp [intOf]; omega)
        | exact ⟨⟨k + 1, by omega, by go_num⟩, by simp [intOf]; omega⟩
    · go_wp2
      all_goals
        go_ret
        exact ⟨_, rfl, rfl⟩
def words : List ByteArray := [⟨#[109]⟩, ⟨#[105, 102]⟩, ⟨#[118, 97, 114]⟩, ⟨#[109, 105, 110]⟩, ⟨#[109, 97, 120]⟩, ⟨#[101, 108, 115, 101]⟩, ⟨#[101, 109, 105, 116]⟩, ⟨#[105, 110, 116, 111]⟩, ⟨#[102, 97, 105, 108]⟩, ⟨#[115, 116, 111, 112]⟩, ⟨#[119, 104, 105, 108, 101]⟩]
theorem words_any (s : ByteArray) (w : World) : Calls Try.prog 76 #[.string s] w (AnyB w) := by
  go_enter Try.func76, Try.ntmps76
  go_wp2
  have hR : Row (w.alloc (.cells (words.map Value.string).toArray 9)) 9 1 (.slice (some ⟨w.heap.size, 0, none⟩) 11 11) 11 (words.map Value.string) := by
    have h := Row.laid (w := w) (e := 9) (size := 1) (cs := (words.map Value.string).toArray) (n := 11) rfl rfl (by decide)
    simpa using h
  have HR := Lib.hid hR
  clear hR
  go_loop [4] (fun i => ∃ k : Nat, k ≤ 11 ∧ i = .int .i64 k) (fun i => 11 - (intOf i).toNat)
  case atStart => exact ⟨0, Nat.zero_le _, rfl⟩
  case round =>
    obtain ⟨k, hk, rfl⟩ := hrel
    by_cases hlt : k < 11
    · have hkw : k < words.length := hlt
      obtain ⟨g, c', hv, hcell, _⟩ := HR.out.cell (j := k) (u := .string words[k]) (by rw [List.getElem?_map, List.getElem?_eq_getElem (show k < words.length from hlt)]; rfl)
      have hg : g = w.heap.size := by simp at hv; exact hv.1.symm
      subst hg
      have hc : (w.alloc (.cells #[.string ⟨#[109]⟩, .string ⟨#[105, 102]⟩, .string ⟨#[118, 97, 114]⟩, .string ⟨#[109, 105, 110]⟩, .string ⟨#[109, 97, 120]⟩, .string ⟨#[101, 108, 115, 101]⟩, .string ⟨#[101, 109, 105, 116]⟩, .string ⟨#[105, 110, 116, 111]⟩, .string ⟨#[102, 97, 105, 108]⟩, .string ⟨#[115, 116, 111, 112]⟩, .string ⟨#[119, 104, 105, 108, 101]⟩] 9)).cell? ⟨w.heap.size, k, none⟩ = some (.string words[k]) := hcell
      clear hcell hv
      by_cases he : words[k] = s
      · have b4 := (beq_str words[k] s).2 he
        clear he
        go_wp2
        go_ret
        exact ⟨_, rfl, (Below.refl _ _).alloc (Nat.le_refl _) _⟩
      · have b4 := beq_strf he
        clear he
        go_wp2
        go_round
        case rel => exact ⟨k + 1, by omega, by go_num⟩
        case measure => simp [intOf]; omega
    · go_wp2
      all_goals
        go_ret
        exact ⟨_, rfl, (Below.refl _ _).alloc (Nat.le_refl _) _⟩
theorem name3_any (s : ByteArray) (w : World) (hs : s.size ≤ maxLen) : Calls Try.prog 52 #[.string s] w (AnyB w) := by
  have hs' := hs
  unfold maxLen at hs'
  go_enter Try.func52, Try.ntmps52
  go_wp2_with (first | (go_at_call 76; go_must (refine (words_any _ _).mono ?_); rintro x w2 ⟨b2, rfl, hb2⟩) | (go_at_call 75; go_must (refine (row3_any _ _ hs).mono ?_); rintro x w1 ⟨b1, rfl, rfl⟩))
  all_goals
    go_ret
    first | exact ⟨_, rfl, hb2⟩ | exact ⟨_, rfl, Below.refl _ _⟩
end Go.Proofs.Ytjlnpppjkdcpkaa.My
