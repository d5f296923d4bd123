/- The document's names are the program's. No conditions. -/
import Derived.Test.YtjlnpppjkdcpkaaGmNameR2
import Derived.Test.YtjlnpppjkdcpkaaGmTrN
import Derived.Test.YtjlnpppjkdcpkaaGmNameH
namespace Go.Proofs.Ytjlnpppjkdcpkaa.My
open Go.RowKit Go.Maps
/-- two results and the code, the rest kept -/
def TellsR (w : World) (r : List Int) (m e : Int) (x : Ending) (w' : World) : Prop := ∃ v, x = .returned (.tuple #[v, .int .i64 m, .int .i64 e]) ∧ Row w' 3 1 v r.length (r.map (.int .i64)) ∧ Below w.heap.size w w'
set_option maxRecDepth 100000 in
theorem rslots_calls (W : World) (l : List Stmt) (A : Option Addr) (c : Nat) (cells : Int) (hrd : Stmt.rds W l A 0) (hl : Stmt.nodesL l ≤ 1000000000) (w : World) (hB : Below W.heap.size W w) :
    Calls Try.prog 34 #[.slice A l.length c, .int .i64 cells] w (TellsR w (slotsP l cells).1 (mostP l cells).1 (slotsP l cells).2) := by
  have hI := nblock_of W _ (none_calls W _) l A c (Nat.le_refl _) hrd ⟨[], [], 0, cells⟩ (.slice none 0 0) (.slice none 0 0) w (by simpa using hl) hB ⟨Row.nil _ _ _, Row.nil _ _ _, by simp, fun g hg => by simp [Value.ownBlock] at hg⟩
  obtain ⟨q, hq⟩ : ∃ q, stmtsS ⟨[], [], 0, cells⟩ l = q := ⟨_, rfl⟩
  have H1 := Lib.hid (show slotsP l cells = if q.1 = 0 then (q.2.out, 0) else ([], q.1) by unfold slotsP; rw [hq])
  have H2 := Lib.hid (show mostP l cells = if q.1 = 0 then (q.2.most, 0) else (0, q.1) by unfold mostP; rw [hq])
  rw [hq] at hI
  have HI := Lib.hid hI
  clear hI hq
  by_cases hz : q.1 = 0
  · have hz' : (q.1 == 0) = true := by simp [hz]
    go_enter Try.func34, Try.ntmps34
    go_wp2_with (go_at_call 50; go_must (refine HI.out.mono ?_); rintro x w2 ⟨v2, vt2, m2, rfl, hw2, hb2⟩)
    obtain ⟨p1, p2, rfl, p4⟩ := hw2 hz
    go_ret3
    rw [H1.out, H2.out, if_pos hz, if_pos hz]
    exact ⟨_, rfl, p1, hb2.toBelow (Nat.le_refl _) (fun _ h => by simp [Value.ownBlock] at h)⟩
  · have hz' : (q.1 == 0) = false := by simp [hz]
    go_enter Try.func34, Try.ntmps34
    go_wp2_with (go_at_call 50; go_must (refine HI.out.mono ?_); rintro x w2 ⟨v2, vt2, m2, rfl, hw2, hb2⟩)
    go_ret3
    rw [H1.out, H2.out, if_neg hz, if_neg hz]
    exact ⟨_, rfl, Row.nil _ _ _, hb2.toBelow (Nat.le_refl _) (fun _ h => by simp [Value.ownBlock] at h)⟩
end Go.Proofs.Ytjlnpppjkdcpkaa.My
namespace Go.Proofs.Ytjlnpppjkdcpkaa.My
open Go.RowKit
set_option linter.unusedVariables false
set_option linter.unusedSimpArgs false
theorem docLetter_calls (c : Int) (w : World) : Calls Try.prog 91 #[.int .u8 c] w fun e w' => e = .returned (.bool (letterB c)) ∧ w' = w := by
  go_enter Try.func91, Try.ntmps91
  by_cases h1 : 97 ≤ c <;> by_cases h2 : c ≤ 122 <;> by_cases h3 : 65 ≤ c <;> by_cases h4 : c ≤ 90 <;> by_cases h5 : (c == 95) = true
  all_goals try (have := eq_of_beq h5; exfalso; omega)
  all_goals try (rw [Bool.not_eq_true] at h5)
  all_goals
    go_wp2
    go_ret
    first
      | (have h : letterB c = true := by simp only [letterB, Bool.or_eq_true, decide_eq_true_eq]; first | omega | (have := eq_of_beq h5; omega)
         exact ⟨congrArg (fun b => Ending.returned (.bool b)) h.symm, rfl⟩)
      | (have h : letterB c = false := by simp only [letterB, Bool.or_eq_false_iff, decide_eq_false_iff_not]; have := ne_of_beq_false h5; omega
         exact ⟨congrArg (fun b => Ending.returned (.bool b)) h.symm, rfl⟩)
theorem docDigit_calls (c : Int) (w : World) : Calls Try.prog 92 #[.int .u8 c] w fun e w' => e = .returned (.bool (digitB c)) ∧ w' = w := by
  go_enter Try.func92, Try.ntmps92
  by_cases h1 : 48 ≤ c <;> by_cases h2 : c ≤ 57
  all_goals
    go_wp2
    go_ret
    first
      | (have h : digitB c = true := by simp only [digitB, decide_eq_true_eq]; omega
         exact ⟨congrArg (fun b => Ending.returned (.bool b)) h.symm, rfl⟩)
      | (have h : digitB c = false := by simp only [digitB, decide_eq_false_iff_not]; omega
         exact ⟨congrArg (fun b => Ending.returned (.bool b)) h.symm, rfl⟩)
def rowB (s : ByteArray) : Bool := decide (0 < s.size) && (List.range s.size).all fun k => letterB (byteN s k) || (digitB (byteN s k) && decide (k ≠ 0))
theorem rowB_eq (s : ByteArray) (h0 : 0 < s.size) : rowB s = (letterB (byteN s 0) && allB s) := by
  rw [Bool.eq_iff_iff]
  simp only [rowB, allB, Bool.and_eq_true, decide_eq_true_eq, List.all_eq_true, List.mem_range, Bool.or_eq_true]
  constructor
  · rintro ⟨_, h⟩
    refine ⟨?_, fun k hk => ?_⟩
    · rcases h 0 h0 with h1 | ⟨_, h1⟩
      · exact h1
      · exact absurd rfl h1
    · rcases h k hk with h1 | ⟨h1, _⟩
      · exact .inl h1
      · exact .inr h1
  · rintro ⟨h1, h⟩
    refine ⟨h0, fun k hk => ?_⟩
    by_cases hk0 : k = 0
    · subst hk0; exact .inl h1
    · rcases h k hk with h2 | h2
      · exact .inl h2
      · exact .inr ⟨h2, hk0⟩
theorem docRow_calls (s : ByteArray) (w : World) (hs : s.size ≤ maxLen) : Calls Try.prog 75 #[.string s] w fun e w' => e = .returned (.bool (rowB s)) ∧ w' = w := by
  unfold maxLen at hs
  go_enter Try.func75, Try.ntmps75
  go_wp2
  go_loop [3] (fun i => ∃ k : Nat, k ≤ s.size ∧ i = .int .i64 k ∧ Hid (∀ j, j < k → (letterB (byteN s j) || (digitB (byteN s j) && decide (j ≠ 0))) = true)) (fun i => s.size - (intOf i).toNat)
  case atStart => exact ⟨0, Nat.zero_le _, rfl, Lib.hid (fun j hj => absurd hj (Nat.not_lt_zero _))⟩
  case round =>
    obtain ⟨k, hk, rfl, HK⟩ := hrel
    by_cases hlt : k < s.size
    · have hbk : byteN s k = (s[k].toNat : Int) := by simp [byteN, hlt]
      have hlt' : (k : Int) < (s.size : Int) := by omega
      have hk0 : (0 : Int) ≤ (k : Int) := by omega
      have hbad : letterB (byteN s k) = false → (digitB (byteN s k) = false ∨ k = 0) → rowB s = false := fun h1 h2 => by
        rw [rowB, Bool.and_eq_false_iff]
        right
        rw [List.all_eq_false]
        refine ⟨k, List.mem_range.2 hlt, ?_⟩
        rcases h2 with h2 | h2
        · simp [h1, h2]
        · subst h2; simp [h1]
      by_cases hl : letterB (s[k].toNat : Int) = true
      · have HL := Lib.hid hl
        have HS := Lib.hid (show ∀ j, j < k + 1 → (letterB (byteN s j) || (digitB (byteN s j) && decide (j ≠ 0))) = true from fun j hj => by
          by_cases hjk : j = k
          · rw [hjk, hbk, hl]; rfl
          · exact HK.out j (by omega))
        clear hl hbk hbad
        go_wp2_with (go_at_call 91; go_must (refine (docLetter_calls _ _).mono ?_); rintro x w1 ⟨rfl, rfl⟩; rw [HL.out])
        go_round
        case rel => exact ⟨k + 1, by omega, by go_num, HS⟩
        case measure => simp [intOf]; omega
      · have HL := Lib.hid (show letterB (s[k].toNat : Int) = false by simpa using hl)
        by_cases hd : digitB (s[k].toNat : Int) = true
        · have HD := Lib.hid hd
          by_cases hz : k = 0
          · have HR := Lib.hid (hbad (by rw [hbk]; exact HL.out) (.inr hz))
            have hz' : ((k : Int) == 0) = true := by simp [hz]
            clear hl hd hbk hbad hz
            go_wp2_with (first | (go_at_call 92; go_must (refine (docDigit_calls _ _).mono ?_); rintro x w3 ⟨rfl, rfl⟩; rw [HD.out]) | (go_at_call 91; go_must (refine (docLetter_calls _ _).mono ?_); rintro x w1 ⟨rfl, rfl⟩; rw [HL.out]))
            go_ret
            exact ⟨congrArg (fun b => Ending.returned (.bool b)) HR.out.symm, rfl⟩
          · have HS := Lib.hid (show ∀ j, j < k + 1 → (letterB (byteN s j) || (digitB (byteN s j) && decide (j ≠ 0))) = true from fun j hj => by
              by_cases hjk : j = k
              · rw [hjk, hbk, hd]; simp [hz]
              · exact HK.out j (by omega))
            have hz' : ((k : Int) == 0) = false := by simp [hz]
            clear hl hd hbk hbad hz
            go_wp2_with (first | (go_at_call 92; go_must (refine (docDigit_calls _ _).mono ?_); rintro x w3 ⟨rfl, rfl⟩; rw [HD.out]) | (go_at_call 91; go_must (refine (docLetter_calls _ _).mono ?_); rintro x w1 ⟨rfl, rfl⟩; rw [HL.out]))
            go_round
            case rel => exact ⟨k + 1, by omega, by go_num, HS⟩
            case measure => simp [intOf]; omega
        · have HD := Lib.hid (show digitB (s[k].toNat : Int) = false by simpa using hd)
          have HR := Lib.hid (hbad (by rw [hbk]; exact HL.out) (.inl (by rw [hbk]; exact HD.out)))
          clear hl hd hbk hbad
          go_wp2_with (first | (go_at_call 92; go_must (refine (docDigit_calls _ _).mono ?_); rintro x w3 ⟨rfl, rfl⟩; rw [HD.out]) | (go_at_call 91; go_must (refine (docLetter_calls _ _).mono ?_); rintro x w1 ⟨rfl, rfl⟩; rw [HL.out]))
          go_ret
          exact ⟨congrArg (fun b => Ending.returned (.bool b)) HR.out.symm, rfl⟩
    · have hke : k = s.size := by omega
      subst hke
      by_cases h0 : 0 < s.size
      · have HR := Lib.hid (show rowB s = true by
          rw [rowB, Bool.and_eq_true, List.all_eq_true]
          exact ⟨by simpa using h0, fun j hj => HK.out j (List.mem_range.1 hj)⟩)
        have h0' : (0 : Int) < (s.size : Int) := by omega
        go_wp2
        go_ret
        exact ⟨congrArg (fun b => Ending.returned (.bool b)) HR.out.symm, rfl⟩
      · have HR := Lib.hid (show rowB s = false by simp [rowB, h0])
        have h0' : ¬ (0 : Int) < (s.size : Int) := by omega
        go_wp2
        go_ret
        exact ⟨congrArg (fun b => Ending.returned (.bool b)) HR.out.symm, rfl⟩
theorem docWords_calls (s : ByteArray) (w : World) : Calls Try.prog 76 #[.string s] w fun e w' => e = .returned (.bool (wordsB s)) ∧ Below w.heap.size w w' := by
  have hww : wordsB s = words.any (fun k => decide (s = k)) := by
    rw [Bool.eq_iff_iff]
    simp only [wordsB, kwl, words, List.any_cons, List.any_nil, Bool.or_false, Bool.or_eq_true, decide_eq_true_eq]
    constructor <;> (intro h; rcases h with h | h | h | h | h | h | h | h | h | h | h <;> simp [h])
  have HWW := Lib.hid hww
  clear hww
  go_enter Try.func76, Try.ntmps76
  go_wp2
  have hR : Row (w.alloc (.cells (words.map Value.string).toArray 9)) 9 1 (.slice (some ⟨w.heap.size, 0, none⟩) 11 11) 11 (words.map Value.string) := by
    have h := Row.laid (w := w) (e := 9) (size := 1) (cs := (words.map Value.string).toArray) (n := 11) rfl rfl (by decide)
    simpa using h
  have HR := Lib.hid hR
  clear hR
  go_loop [4] (fun i => ∃ k : Nat, k ≤ 11 ∧ i = .int .i64 k ∧ Hid (∀ j (hj : j < words.length), j < k → words[j] ≠ s)) (fun i => 11 - (intOf i).toNat)
  case atStart => exact ⟨0, Nat.zero_le _, rfl, Lib.hid (fun j hj h => absurd h (Nat.not_lt_zero _))⟩
  case round =>
    obtain ⟨k, hk, rfl, HN⟩ := hrel
    by_cases hlt : k < 11
    · have hkw : k < words.length := hlt
      obtain ⟨g, c', hv, hcell, _⟩ := HR.out.cell (j := k) (u := .string words[k]) (by rw [List.getElem?_map, List.getElem?_eq_getElem (show k < words.length from hlt)]; rfl)
      have hg : g = w.heap.size := by simp at hv; exact hv.1.symm
      subst hg
      have hc : (w.alloc (.cells #[.string ⟨#[109]⟩, .string ⟨#[105, 102]⟩, .string ⟨#[118, 97, 114]⟩, .string ⟨#[109, 105, 110]⟩, .string ⟨#[109, 97, 120]⟩, .string ⟨#[101, 108, 115, 101]⟩, .string ⟨#[101, 109, 105, 116]⟩, .string ⟨#[105, 110, 116, 111]⟩, .string ⟨#[102, 97, 105, 108]⟩, .string ⟨#[115, 116, 111, 112]⟩, .string ⟨#[119, 104, 105, 108, 101]⟩] 9)).cell? ⟨w.heap.size, k, none⟩ = some (.string words[k]) := hcell
      clear hcell hv
      by_cases he : words[k] = s
      · have b4 := (beq_str words[k] s).2 he
        have HR := Lib.hid (show wordsB s = true by rw [HWW.out, List.any_eq_true]; exact ⟨words[k], List.getElem_mem _, by simp [he]⟩)
        clear he
        go_wp2
        go_ret
        exact ⟨congrArg (fun b => Ending.returned (.bool b)) HR.out.symm, (Below.refl _ _).alloc (Nat.le_refl _) _⟩
      · have b4 := beq_strf he
        have HS := Lib.hid (show ∀ j (hj : j < words.length), j < k + 1 → words[j] ≠ s from fun j hj h => by
          by_cases hjk : j = k
          · subst hjk; exact he
          · exact HN.out j hj (by omega))
        clear he
        go_wp2
        go_round
        case rel => exact ⟨k + 1, by omega, by go_num, HS⟩
        case measure => simp [intOf]; omega
    · have HR := Lib.hid (show wordsB s = false by
        rw [HWW.out, List.any_eq_false]
        intro x hx
        obtain ⟨j, hj, rfl⟩ := List.mem_iff_getElem.1 hx
        have h1 := HN.out j hj (by have : words.length = 11 := rfl; omega)
        simpa using Ne.symm h1)
      go_wp2
      all_goals
        go_ret
        exact ⟨congrArg (fun b => Ending.returned (.bool b)) HR.out.symm, (Below.refl _ _).alloc (Nat.le_refl _) _⟩
theorem nameB_eq (s : ByteArray) : nameB s = (decide (s.size ≤ 12) && rowB s && !wordsB s) := by
  by_cases h0 : 0 < s.size
  · rw [rowB_eq s h0, Bool.eq_iff_iff]
    simp only [nameB, Bool.and_eq_true, decide_eq_true_eq]
    constructor
    · rintro ⟨⟨⟨h1, h2⟩, h3⟩, h4⟩; exact ⟨⟨h1.2, h2, h4⟩, h3⟩
    · rintro ⟨⟨h1, h2, h4⟩, h3⟩; exact ⟨⟨⟨⟨h0, h1⟩, h2⟩, h3⟩, h4⟩
  · have : nameB s = false := by simp [nameB, h0]
    rw [this, rowB]; simp [h0]
theorem docName_calls (s : ByteArray) (w : World) (hs : s.size ≤ maxLen) : Calls Try.prog 52 #[.string s] w fun e w' => e = .returned (.bool (nameB s)) ∧ Below w.heap.size w w' := by
  have hs' := hs
  unfold maxLen at hs'
  have HE := Lib.hid (nameB_eq s)
  by_cases h12 : s.size ≤ 12
  · have h12' : (s.size : Int) ≤ 12 := by omega
    have HE2 := Lib.hid (show nameB s = (rowB s && !wordsB s) by rw [HE.out]; simp [h12])
    clear h12
    by_cases hr : rowB s = true
    · have HR := Lib.hid hr
      have HQ := Lib.hid (show nameB s = !wordsB s by rw [HE2.out, hr]; rfl)
      clear hr
      go_enter Try.func52, Try.ntmps52
      go_wp2_with (first | (go_at_call 76; go_must (refine (docWords_calls _ _).mono ?_); rintro x w2 ⟨rfl, hb2⟩; rw [← HQ'.out]) | (go_at_call 76; go_must (refine (docWords_calls _ _).mono ?_); rintro x w2 ⟨rfl, hb2⟩) | (go_at_call 75; go_must (refine (docRow_calls _ _ hs).mono ?_); rintro x w1 ⟨rfl, rfl⟩; rw [HR.out]))
      go_ret
      exact ⟨congrArg (fun b => Ending.returned (.bool b)) HQ.out.symm, hb2⟩
    · have HR := Lib.hid (show rowB s = false by simpa using hr)
      have HQ := Lib.hid (show nameB s = false by rw [HE2.out, HR.out]; rfl)
      clear hr
      go_enter Try.func52, Try.ntmps52
      go_wp2_with (go_at_call 75; go_must (refine (docRow_calls _ _ hs).mono ?_); rintro x w1 ⟨rfl, rfl⟩; rw [HR.out])
      go_ret
      exact ⟨congrArg (fun b => Ending.returned (.bool b)) HQ.out.symm, Below.refl _ _⟩
  · have h12' : ¬ (s.size : Int) ≤ 12 := by omega
    have HQ := Lib.hid (show nameB s = false by rw [HE.out]; simp [h12])
    clear h12
    go_enter Try.func52, Try.ntmps52
    go_wp2_with fail
    all_goals
      go_ret
      exact ⟨congrArg (fun b => Ending.returned (.bool b)) HQ.out.symm, Below.refl _ _⟩
end Go.Proofs.Ytjlnpppjkdcpkaa.My
