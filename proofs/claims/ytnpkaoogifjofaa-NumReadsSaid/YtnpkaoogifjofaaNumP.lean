/- Plain lemmas: what the program's and the document's reading of a text gives: both the same function of the text's bytes; a numeral is read as its number, and what is read is its number's numeral. No program in sight. -/
import Derived.Test.YtnpkaoogifjofaaNumE
import Derived.Lib.IndexBytes
import Derived.Lib.ItoaLen
import Derived.Test.YtnpkaoogifjofaaPNumx9
import Derived.Test.YtnpkaoogifjofaaPNumx10
namespace Go.Proofs.Ytnpkaoogifjofaa.NumA
open Go.RowKit Go.Proofs.Ytnpkaoogifjofaa.PNum Go.Proofs.YtnpkaoogifjofaaW.PrintWords Go.Proofs.YtnpkaoogifjofaaW.PrintLast Go.Proofs.YtnpkaoogifjofaaW.PrintMore
/-- a digit -/
def dgt (c : UInt8) : Bool := 48 ≤ c.toNat && c.toNat ≤ 57
/-- what digits behind a number say -/
def valF (a : Nat) (l : List UInt8) : Nat := l.foldl (fun n c => n * 10 + (c.toNat - 48)) a
def numTail (neg : Bool) (l : List UInt8) : Int × Int :=
  if l = [] ∨ (l.head? = some 48 ∧ (1 < l.length ∨ neg = true)) then (0, 10)
  else if l.all dgt = false then (0, 10)
  else if valF 0 l > (if neg = true then 9223372036854775808 else 9223372036854775807) then (0, 11)
  else (if neg = true then -(valF 0 l : Int) else (valF 0 l : Int), 0)
def numParse (l : List UInt8) : Int × Int := if l.head? = some 45 then numTail true l.tail else numTail false l
theorem bt_list (s : ByteArray) (i : Nat) (h : i < s.data.toList.length) : bt s i = ((s.data.toList[i]).toNat : Int) := by
  have hs : i < s.size := by rw [Lib.size_eq]; exact h
  have h1 := bt_at s i (by simpa using hs)
  rw [← h1]
  simp
  rfl
theorem eq48 {c : UInt8} : ((c.toNat : Int) = 48) ↔ c = 48 := by
  constructor
  · intro h
    have : c.toNat = (48 : UInt8).toNat := by rw [show (48 : UInt8).toNat = 48 from rfl]; omega
    exact UInt8.toNat_inj.mp this
  · rintro rfl; rfl
theorem eq45 {c : UInt8} : ((c.toNat : Int) = 45) ↔ c = 45 := by
  constructor
  · intro h
    have : c.toNat = (45 : UInt8).toNat := by rw [show (45 : UInt8).toNat = 45 from rfl]; omega
    exact UInt8.toNat_inj.mp this
  · rintro rfl; rfl
theorem valF_ge (l : List UInt8) : ∀ a, a ≤ valF a l := by
  induction l with
  | nil => intro a; exact Nat.le_refl _
  | cons c l ih => intro a; exact Nat.le_trans (by omega) (ih (a * 10 + (c.toNat - 48)))
theorem dgt_bd {c : UInt8} (h : dgt c = true) : 48 ≤ c.toNat ∧ c.toNat ≤ 57 := by simpa [dgt] using h
theorem sum_loop (s : ByteArray) (hs : s.size ≤ 140737488351232) (d : Nat) : ∀ (k i u : Nat), i + d = s.data.toList.length → u < 18446744073709551616 → ((s.data.toList.drop i).all dgt = true) → num_sum.l0 (d + 1 + k) s u (s.size : Int) i = some (if valF u (s.data.toList.drop i) < 18446744073709551616 then ((valF u (s.data.toList.drop i) : Int), true) else (0, false)) := by
  have hz := Lib.size_eq s
  induction d with
  | zero =>
    intro k i u hi hu _
    rw [show 0 + 1 + k = k + 1 by omega]
    simp only [num_sum.l0]
    rw [if_neg (by omega), List.drop_eq_nil_of_le (by omega)]
    simp [valF, hu]
  | succ d ih =>
    intro k i u hi hu ha
    have hlt : i < s.data.toList.length := by omega
    rw [List.drop_eq_getElem_cons hlt, List.all_cons, Bool.and_eq_true] at ha
    obtain ⟨hc, ha⟩ := ha
    have hb := dgt_bd hc
    rw [show d + 1 + 1 + k = (d + 1 + k) + 1 by omega]
    simp only [num_sum.l0]
    rw [if_pos (by omega), if_pos (by omega), if_pos (by omega), bt_list s i hlt, List.drop_eq_getElem_cons hlt]
    have hv : valF u (s.data.toList[i] :: s.data.toList.drop (i + 1)) = valF (u * 10 + (s.data.toList[i].toNat - 48)) (s.data.toList.drop (i + 1)) := rfl
    rw [hv]
    obtain ⟨c, hcc⟩ : ∃ c, c = s.data.toList[i].toNat := ⟨_, rfl⟩
    rw [← hcc] at hb ⊢
    have hge := valF_ge (s.data.toList.drop (i + 1)) (u * 10 + (c - 48))
    by_cases ho : u * 10 + (c - 48) < 18446744073709551616
    · rw [if_neg (by omega), uw, uw, w64_id (by omega) (by omega)]
      have e : ((u : Int) * 10 % 18446744073709551616 + ((c : Int) - 48) % 256) % 18446744073709551616 = ((u * 10 + (c - 48) : Nat) : Int) := by omega
      rw [e]
      exact ih k (i + 1) _ (by omega) ho ha
    · rw [if_pos (by omega), if_neg (by omega)]
theorem drop1_list (s : ByteArray) : (s.extract 1 s.size).data.toList = s.data.toList.drop 1 := Lib.extract_to_end s 1
theorem parse_loop (s : ByteArray) (neg : Bool) (hs : s.size ≤ 140737488351232) (d : Nat) : ∀ (k i : Nat), i + d = s.data.toList.length → num_Parse.l0 (d + 1 + k) s neg (s.size : Int) i = if (s.data.toList.drop i).all dgt = true then num_Parse.l0 (k + 1) s neg (s.size : Int) (s.size : Int) else some (0, 10) := by
  have hz := Lib.size_eq s
  induction d with
  | zero =>
    intro k i hi
    rw [List.drop_eq_nil_of_le (by omega), show (i : Int) = (s.size : Int) by omega, show 0 + 1 + k = k + 1 by omega]; simp
  | succ d ih =>
    intro k i hi
    have hlt : i < s.data.toList.length := by omega
    rw [List.drop_eq_getElem_cons hlt, List.all_cons, show d + 1 + 1 + k = (d + 1 + k) + 1 by omega]
    have hu : ∀ k, num_Parse.l0 (k + 1) s neg (s.size : Int) i = if bt s i < 48 then some (0, 10) else if bt s i > 57 then some (0, 10) else num_Parse.l0 k s neg (s.size : Int) ((i + 1 : Nat) : Int) := fun k => by
      simp only [num_Parse.l0]
      rw [if_pos (by omega), if_pos (by omega), if_pos (by omega), w64_id (by omega) (by omega)]; rfl
    rw [hu, bt_list s i hlt]
    by_cases hc : dgt s.data.toList[i] = true
    · have hb := dgt_bd hc
      rw [if_neg (by omega), if_neg (by omega), ih k (i + 1) (by omega), hc, Bool.true_and]
    · have hb : s.data.toList[i].toNat < 48 ∨ s.data.toList[i].toNat > 57 := by
        simp only [dgt, Bool.and_eq_true, decide_eq_true_eq] at hc; omega
      have hr : (dgt s.data.toList[i] && (s.data.toList.drop (i + 1)).all dgt) = false := by simp only [Bool.eq_false_iff.mpr hc, Bool.false_and]
      rw [hr]
      rcases hb with hb | hb
      · rw [if_pos (by omega), if_neg (by decide)]
      · rw [if_neg (by omega), if_pos (by omega), if_neg (by decide)]
theorem parse_end (s : ByteArray) (neg : Bool) (hs : s.size ≤ 140737488351232) (ha : s.data.toList.all dgt = true) (k : Nat) : num_Parse.l0 (s.size + 3 + k) s neg (s.size : Int) (s.size : Int) = some (if valF 0 s.data.toList > (if neg = true then 9223372036854775808 else 9223372036854775807) then (0, 11) else (if neg = true then -(valF 0 s.data.toList : Int) else (valF 0 s.data.toList : Int), 0)) := by
  have hz := Lib.size_eq s
  have h := sum_loop s hs s.data.toList.length (k + 1) 0 0 (by omega) (by omega) ha
  rw [show s.size + 3 + k = (s.data.toList.length + 1 + (k + 1)) + 1 by omega]
  simp only [num_Parse.l0, num_sum.f]
  rw [if_neg (by omega)]
  have h' : num_sum.l0 (s.data.toList.length + 1 + (k + 1)) s 0 (s.size : Int) 0 = some (if valF 0 s.data.toList < 18446744073709551616 then ((valF 0 s.data.toList : Int), true) else (0, false)) := h
  rw [h']
  obtain ⟨v, hv⟩ : ∃ v, v = valF 0 s.data.toList := ⟨_, rfl⟩
  rw [← hv, show s.data.toList.length + 1 + (k + 1) = (s.data.toList.length + 1 + k) + 1 by omega]
  simp only [Option.bind_some, num_Parse.j4]
  by_cases h1 : v < 18446744073709551616
  · rw [if_pos h1]
    cases neg
    · by_cases h2 : v > 9223372036854775807
      · simp [h2, show (v : Int) > 9223372036854775807 by omega]
      · simp [h2, show ¬ (v : Int) > 9223372036854775807 by omega]
        first | exact w64_id (by omega) (by omega) | (rw [if_neg (by omega), if_neg (by omega), w64_id (by omega) (by omega)])
    · by_cases h2 : v > 9223372036854775808
      · simp [h2, show (v : Int) > 9223372036854775808 by omega]
      · have e : wrap64 (IntKind.u64.wrap (-(v : Int))) = -(v : Int) := by rw [uw]; unfold wrap64; omega
        simp [h2, show ¬ (v : Int) > 9223372036854775808 by omega, e]
  · rw [if_neg h1]
    have h3 : v > (if neg = true then 9223372036854775808 else 9223372036854775807) := by split <;> omega
    rw [if_pos h3]; simp
theorem tail_eq (s : ByteArray) (neg : Bool) (hs : s.size ≤ 140737488351232) (k : Nat) : num_Parse.j1 (2 * s.size + 20 + k) s neg = some (numTail neg s.data.toList) := by
  have hz := Lib.size_eq s
  rw [show 2 * s.size + 20 + k = (2 * s.size + 18 + k) + 1 + 1 by omega]
  simp only [num_Parse.j1, num_Parse.j2, Lib.toList_data]
  unfold numTail
  by_cases h0 : s.data.toList = []
  · rw [if_pos h0]; simp [h0]
  · rw [if_neg h0, if_pos (by have := List.length_pos_iff.mpr h0; omega)]
    have hl : 0 < s.data.toList.length := List.length_pos_iff.mpr h0
    have hb := bt_list s 0 hl
    have hh : s.data.toList.head? = some s.data.toList[0] := by rw [List.head?_eq_getElem?, List.getElem?_eq_getElem hl]
    have hb' : bt s 0 = ((s.data.toList[0]).toNat : Int) := hb
    have hrest : num_Parse.l0 (2 * s.size + 18 + k) s neg (s.size : Int) 0 = some (if s.data.toList.all dgt = false then (0, 10) else if valF 0 s.data.toList > (if neg = true then 9223372036854775808 else 9223372036854775807) then (0, 11) else (if neg = true then -(valF 0 s.data.toList : Int) else (valF 0 s.data.toList : Int), 0)) := by
      have hp := parse_loop s neg hs s.data.toList.length (s.size + 2 + (15 + k)) 0 (by omega)
      rw [show s.data.toList.length + 1 + (s.size + 2 + (15 + k)) = 2 * s.size + 18 + k by omega] at hp
      have hp' : num_Parse.l0 (2 * s.size + 18 + k) s neg (s.size : Int) 0 = _ := hp
      rw [hp']
      simp only [List.drop_zero]
      by_cases ha : s.data.toList.all dgt = true
      · rw [if_pos ha, show s.size + 2 + (15 + k) + 1 = s.size + 3 + (15 + k) by omega, parse_end s neg hs ha (15 + k)]
        have hf : ¬ (s.data.toList.all dgt = false) := by simp [ha]
        rw [if_neg hf]
      · rw [if_neg ha, if_pos (by simpa using ha)]
    rw [hrest, hb', hh]
    have h48 : (((s.data.toList[0]).toNat : Int) = 48) ↔ s.data.toList[0] = 48 := eq48
    obtain ⟨c, hc⟩ : ∃ c, c = s.data.toList[0] := ⟨_, rfl⟩
    rw [← hc] at h48 ⊢
    obtain ⟨L, hL⟩ : ∃ L, L = s.data.toList := ⟨_, rfl⟩
    rw [← hL] at h0 hz ⊢
    by_cases h1 : c = 48
    · rw [if_pos (h48.mpr h1)]
      by_cases h2 : 1 < L.length
      · have hT : L = [] ∨ (some c = some 48 ∧ (1 < L.length ∨ neg = true)) := .inr ⟨by rw [h1], .inl h2⟩
        rw [if_pos (by omega), if_pos trivial, if_pos hT]
      · rw [if_neg (by omega)]
        cases neg
        · have hT : ¬ (L = [] ∨ (some c = some 48 ∧ (1 < L.length ∨ false = true))) := by
            rintro (h | ⟨_, h | h⟩)
            · exact h0 h
            · exact h2 h
            · cases h
          rw [if_neg (by decide), if_neg hT]
        · have hT : L = [] ∨ (some c = some 48 ∧ (1 < L.length ∨ true = true)) := .inr ⟨by rw [h1], .inr rfl⟩
          rw [if_pos rfl, if_pos hT]
    · have hT : ¬ (L = [] ∨ (some c = some 48 ∧ (1 < L.length ∨ neg = true))) := by
        rintro (h | ⟨h, _⟩)
        · exact h0 h
        · exact h1 (Option.some.inj h)
      rw [if_neg (fun h => h1 (h48.mp h)), if_neg (by decide), if_neg hT]
theorem parse_eq (s : ByteArray) (hs : s.size ≤ 140737488351232) (k : Nat) : num_Parse.f (2 * s.size + 30 + k) s = some (numParse s.data.toList) := by
  have hz := Lib.size_eq s
  unfold num_Parse.f numParse
  rw [Lib.toList_data, show 2 * s.size + 30 + k = (2 * s.size + 20 + (9 + k)) + 1 by omega]
  simp only [num_Parse.j0]
  by_cases h0 : s.data.toList = []
  · rw [if_pos h0, if_neg (by decide), tail_eq s false hs (9 + k), h0]; simp
  · rw [if_neg h0, if_pos (by have := List.length_pos_iff.mpr h0; omega)]
    have hl : 0 < s.data.toList.length := List.length_pos_iff.mpr h0
    have hh : s.data.toList.head? = some s.data.toList[0] := by rw [List.head?_eq_getElem?, List.getElem?_eq_getElem hl]
    have hb' : bt s 0 = ((s.data.toList[0]).toNat : Int) := bt_list s 0 hl
    have h45 : (((s.data.toList[0]).toNat : Int) = 45) ↔ s.data.toList[0] = 45 := eq45
    rw [hb', hh]
    by_cases h1 : s.data.toList[0] = 45
    · have he := drop1_list s
      have hz2 := Lib.size_eq (s.extract 1 s.size)
      rw [he, List.length_drop] at hz2
      rw [if_pos (by rw [beq_iff_eq]; exact h45.mpr h1), if_pos (by omega), if_pos (by rw [h1]), show 2 * s.size + 20 + (9 + k) = 2 * (s.extract 1 s.size).size + 20 + (11 + k) by omega, tail_eq _ true (by omega) (11 + k), he, List.drop_one]
    · rw [if_neg (by rw [beq_iff_eq]; exact fun h => h1 (h45.mp h)), if_neg (fun h => h1 (Option.some.inj h)), tail_eq s false hs (9 + k)]
end Go.Proofs.Ytnpkaoogifjofaa.NumA
