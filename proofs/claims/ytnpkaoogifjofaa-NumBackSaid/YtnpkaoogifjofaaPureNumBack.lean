/- The pure statement of the law NumBack: over numbers and bytes alone, the printed function of the law answers true for every int64 and every text. No condition. -/
import Derived.Test.YtnpkaoogifjofaaNumP
import Derived.Lib.ItoaLen
import Derived.Test.YtnpkaoogifjofaaPNumx11
import Derived.Test.YtnpkaoogifjofaaPNumx15
namespace Go.Proofs.Ytnpkaoogifjofaa.Pure
open Go.RowKit Go.Proofs.Ytnpkaoogifjofaa.PNum Go.Proofs.Ytnpkaoogifjofaa.NumA Go.Proofs.YtnpkaoogifjofaaW.PrintWords Go.Proofs.YtnpkaoogifjofaaW.PrintLast Go.Proofs.YtnpkaoogifjofaaW.PrintMore
theorem valF_snoc (a : Nat) (l : List UInt8) (c : UInt8) : valF a (l ++ [c]) = valF a l * 10 + (c.toNat - 48) := by
  unfold valF; rw [List.foldl_append]; rfl
/-- a numeral: digits, no nought ahead -/
def Canon (l : List UInt8) : Prop := l ≠ [] ∧ l.all dgt = true ∧ (l.head? = some 48 → l.length = 1)
theorem ofNat_toNat {c : UInt8} : UInt8.ofNat c.toNat = c := by simp
theorem dec_val (n : Nat) : ∀ l : List UInt8, l.length = n → Canon l → Lib.decDigits (valF 0 l) = l ∧ (2 ≤ l.length → 10 ≤ valF 0 l) := by
  induction n with
  | zero => intro l hl h; exact absurd (List.eq_nil_of_length_eq_zero hl) h.1
  | succ n ih =>
    intro l hl h
    obtain ⟨h1, h2, h3⟩ := h
    obtain ⟨m, c, rfl⟩ : ∃ m c, l = m ++ [c] := ⟨l.dropLast, l.getLast h1, (List.dropLast_concat_getLast h1).symm⟩
    rw [List.all_append, Bool.and_eq_true] at h2
    obtain ⟨h2, hc⟩ := h2
    have hb := dgt_bd (c := c) (by simpa using hc)
    rw [valF_snoc]
    by_cases hm : m = []
    · subst hm
      refine ⟨?_, fun h => by simp at h⟩
      rw [show valF 0 [] = 0 from rfl, Lib.decDigits, dif_pos (by omega)]
      rw [show 48 + (0 * 10 + (c.toNat - 48)) = c.toNat by omega, ofNat_toNat]; rfl
    · have hml : 1 ≤ m.length := List.length_pos_iff.mpr hm
      have hh : (m ++ [c]).head? = m.head? := by
        cases m with
        | nil => exact absurd rfl hm
        | cons x xs => rfl
      have hm48 : m.head? ≠ some 48 := fun e => by have := h3 (by rw [hh]; exact e); rw [List.length_append] at this; simp at this; exact hm this
      have hcm : Canon m := ⟨hm, h2, fun e => absurd e hm48⟩
      obtain ⟨i1, i2⟩ := ih m (by rw [List.length_append] at hl; simpa using hl) hcm
      have hpos : 1 ≤ valF 0 m := by
        rcases Nat.lt_or_ge m.length 2 with hlt | hge
        · obtain ⟨d, rfl⟩ : ∃ d, m = [d] := by
            cases m with
            | nil => exact absurd rfl hm
            | cons x xs => cases xs with
              | nil => exact ⟨x, rfl⟩
              | cons y ys => simp at hlt; omega
          have hd := dgt_bd (c := d) (by simpa using h2)
          have : d.toNat ≠ 48 := fun e => hm48 (by
            have : d = 48 := UInt8.toNat_inj.mp e
            rw [this]; rfl)
          show 1 ≤ 0 * 10 + (d.toNat - 48)
          omega
        · have := i2 hge; omega
      refine ⟨?_, fun _ => by omega⟩
      rw [Lib.decDigits, dif_neg (by omega), show (valF 0 m * 10 + (c.toNat - 48)) / 10 = valF 0 m by omega, i1, show 48 + (valF 0 m * 10 + (c.toNat - 48)) % 10 = c.toNat by omega, ofNat_toNat]
theorem dig_nat (d : Nat) (h : d < 10) : (UInt8.ofNat (48 + d)).toNat = 48 + d := by
  rw [UInt8.toNat_ofNat', Nat.mod_eq_of_lt (by omega)]
theorem dig_dgt (d : Nat) (h : d < 10) : dgt (UInt8.ofNat (48 + d)) = true := by
  unfold dgt; rw [dig_nat d h]; simp; omega
theorem canon_dec (u : Nat) : Canon (Lib.decDigits u) ∧ valF 0 (Lib.decDigits u) = u := by
  induction u using Nat.strongRecOn with
  | _ u ih =>
    rw [Lib.decDigits]
    by_cases h : u < 10
    · rw [dif_pos h]
      exact ⟨⟨by simp, by rw [List.all_cons, dig_dgt u h]; rfl, fun _ => rfl⟩, by show 0 * 10 + ((UInt8.ofNat (48 + u)).toNat - 48) = u; rw [dig_nat u h]; omega⟩
    · rw [dif_neg h]
      obtain ⟨⟨h1, h2, h3⟩, hv⟩ := ih (u / 10) (by omega)
      refine ⟨⟨by simp, by rw [List.all_append, h2, List.all_cons, dig_dgt (u % 10) (by omega)]; rfl, fun e => ?_⟩, by rw [valF_snoc, hv, dig_nat (u % 10) (by omega)]; omega⟩
      exfalso
      have hh : (Lib.decDigits (u / 10) ++ [UInt8.ofNat (48 + u % 10)]).head? = (Lib.decDigits (u / 10)).head? := by
        cases hd : Lib.decDigits (u / 10) with
        | nil => exact absurd hd h1
        | cons x xs => rfl
      rw [hh] at e
      have hl := h3 e
      have hx : Lib.decDigits (u / 10) = [48] := by
        cases hd : Lib.decDigits (u / 10) with
        | nil => exact absurd hd h1
        | cons x xs =>
          rw [hd] at e hl
          simp at hl e
          rw [e, hl]
      rw [hx] at hv
      have : valF 0 [48] = 0 := rfl
      omega
theorem tail_canon (neg : Bool) (l : List UInt8) (h : Canon l) (hn : neg = true → l.head? ≠ some 48) (hv : valF 0 l ≤ (if neg = true then 9223372036854775808 else 9223372036854775807)) : numTail neg l = (if neg = true then -(valF 0 l : Int) else (valF 0 l : Int), 0) := by
  unfold numTail
  rw [if_neg, if_neg (by rw [h.2.1]; decide), if_neg (by omega)]
  rintro (h1 | ⟨h1, h2 | h2⟩)
  · exact h.1 h1
  · have := h.2.2 h1; omega
  · exact hn h2 h1
theorem head_dgt {l : List UInt8} (h : Canon l) : l.head? ≠ some 45 := by
  intro e
  cases l with
  | nil => cases e
  | cons x xs =>
    simp at e; subst e
    have := h.2.1
    simp [dgt] at this
theorem parse_itoa (n : Int) (h0 : -9223372036854775808 ≤ n) (h1 : n ≤ 9223372036854775807) : numParse (Lib.itoa n) = (n, 0) := by
  unfold Lib.itoa numParse
  by_cases hn : n < 0
  · rw [if_pos hn, List.head?_cons, if_pos rfl, List.tail_cons]
    obtain ⟨hc, hv⟩ := canon_dec n.natAbs
    rw [tail_canon true _ hc ?_ (by rw [hv, if_pos rfl]; omega), hv, if_pos rfl]
    · congr 1; omega
    · intro _ e
      have hl := hc.2.2 e
      have hx : Lib.decDigits n.natAbs = [48] := by
        cases hd : Lib.decDigits n.natAbs with
        | nil => exact absurd hd hc.1
        | cons x xs => rw [hd] at e hl; simp at hl e; rw [e, hl]
      rw [hx] at hv
      have : valF 0 [48] = 0 := rfl
      omega
  · rw [if_neg hn]
    obtain ⟨hc, hv⟩ := canon_dec n.toNat
    rw [if_neg (head_dgt hc), tail_canon false _ hc (fun h => by cases h) (by rw [hv, if_neg (by decide)]; omega), hv, if_neg (by decide)]
    congr 1; omega
theorem tail_back (neg : Bool) (l : List UInt8) (v : Int) (h : numTail neg l = (v, 0)) : Canon l ∧ (neg = true → l.head? ≠ some 48) ∧ v = (if neg = true then -(valF 0 l : Int) else (valF 0 l : Int)) ∧ valF 0 l ≤ (if neg = true then 9223372036854775808 else 9223372036854775807) := by
  unfold numTail at h
  by_cases c1 : l = [] ∨ (l.head? = some 48 ∧ (1 < l.length ∨ neg = true))
  · rw [if_pos c1] at h; cases h
  · rw [if_neg c1] at h
    by_cases c2 : l.all dgt = false
    · rw [if_pos c2] at h; cases h
    · rw [if_neg c2] at h
      by_cases c3 : valF 0 l > (if neg = true then 9223372036854775808 else 9223372036854775807)
      · rw [if_pos c3] at h; cases h
      · rw [if_neg c3] at h
        have hnil : l ≠ [] := fun e => c1 (.inl e)
        refine ⟨⟨hnil, by simpa using c2, fun e => ?_⟩, fun hn e => c1 (.inr ⟨e, .inr hn⟩), (Prod.mk.inj h).1.symm, by omega⟩
        have : ¬ 1 < l.length := fun h => c1 (.inr ⟨e, .inl h⟩)
        have := List.length_pos_iff.mpr hnil
        omega
theorem itoa_parse (l : List UInt8) (v : Int) (h : numParse l = (v, 0)) : Lib.itoa v = l ∧ -9223372036854775808 ≤ v ∧ v ≤ 9223372036854775807 := by
  unfold numParse at h
  by_cases c : l.head? = some 45
  · rw [if_pos c] at h
    obtain ⟨hc, hn, hv, hb⟩ := tail_back _ _ _ h
    obtain ⟨t, rfl⟩ : ∃ t, l = 45 :: t := by
      cases l with
      | nil => cases c
      | cons x xs => simp at c; exact ⟨xs, by rw [c]⟩
    rw [List.tail_cons] at hc hn hv hb
    rw [if_pos rfl] at hv hb
    obtain ⟨hd, _⟩ := dec_val t.length t rfl hc
    have hpos : 1 ≤ valF 0 t := by
      rcases Nat.eq_zero_or_pos (valF 0 t) with e | e
      · rw [e] at hd
        have : Lib.decDigits 0 = [48] := by rw [Lib.decDigits, dif_pos (by omega)]; rfl
        rw [this] at hd
        exact absurd (by rw [← hd]; rfl) (hn rfl)
      · exact e
    unfold Lib.itoa
    rw [if_pos (by omega), show v.natAbs = valF 0 t by omega, hd]
    exact ⟨rfl, by omega, by omega⟩
  · rw [if_neg c] at h
    obtain ⟨hc, hn, hv, hb⟩ := tail_back _ _ _ h
    rw [if_neg (by decide)] at hv hb
    obtain ⟨hd, _⟩ := dec_val l.length l rfl hc
    unfold Lib.itoa
    rw [if_neg (by omega), show v.toNat = valF 0 l by omega, hd]
    exact ⟨rfl, by omega, by omega⟩
theorem text_eq (n : Int) (h0 : -9223372036854775808 ≤ n) (h1 : n ≤ 9223372036854775807) : num_Text.f n = some ⟨(Lib.itoa n).toArray⟩ := by
  unfold num_Text.f; rw [if_pos ⟨h0, h1⟩]
theorem itoa_len20 (n : Int) (h0 : -9223372036854775808 ≤ n) (h1 : n ≤ 9223372036854775807) : (Lib.itoa n).length ≤ 20 := by
  have h19 : ∀ u : Nat, u < 10 ^ 19 → (Lib.decDigits u).length ≤ 19 := fun u hu => by
    rw [Lib.decDigits_length]
    rcases Nat.lt_or_ge (Lib.nDigits u) 20 with h | h
    · omega
    · exfalso
      have hc := canon_dec u
      have := dec_val _ _ rfl hc.1
      have hlow : ∀ m : Nat, ∀ u : Nat, Lib.nDigits u = m + 1 → (m = 0 ∨ 10 ^ m ≤ u) := by
        intro m
        induction m with
        | zero => intro u _; exact .inl rfl
        | succ m ih =>
          intro u hu
          right
          by_cases hs : u < 10
          · rw [Lib.nDigits_small hs] at hu; omega
          · rw [Lib.nDigits_big hs] at hu
            rcases ih (u / 10) (by omega) with e | e
            · subst e; omega
            · rw [Nat.pow_succ]; omega
      rcases hlow (Lib.nDigits u - 1) u (by omega) with e | e
      · omega
      · have := Nat.pow_le_pow_right (show 0 < 10 by decide) (show 19 ≤ Lib.nDigits u - 1 by omega)
        omega
  have e19 : (10 : Nat) ^ 19 = 10000000000000000000 := by decide
  unfold Lib.itoa
  split
  · have := h19 n.natAbs (by omega); simp; omega
  · have := h19 n.toNat (by omega); omega
theorem NumBack : outriderlaw01_NumBack.Pure := by
  intro n s hn hs
  obtain ⟨h0, h1⟩ := bd64 hn
  obtain ⟨t, ht⟩ : ∃ t : ByteArray, t = ⟨(Lib.itoa n).toArray⟩ := ⟨_, rfl⟩
  have hl : (Lib.itoa n).length ≤ 20 := itoa_len20 n h0 h1
  have htl : t.data.toList = Lib.itoa n := by rw [ht]
  have hts : t.size ≤ 20 := by rw [Lib.size_eq, htl]; exact hl
  refine ⟨2 * s.size + 2 * t.size + 60, ?_⟩
  unfold outriderlaw01_NumBack.f
  by_cases hc : (s.size : Int) > 4096
  · rw [if_pos hc]
  · rw [if_neg hc, text_eq n h0 h1, ← ht]
    have hp := parse_eq t (by omega) (2 * s.size + 30)
    rw [show 2 * t.size + 30 + (2 * s.size + 30) = 2 * s.size + 2 * t.size + 60 by omega, htl, parse_itoa n h0 h1] at hp
    rw [Option.bind_some, hp, Option.bind_some, if_pos rfl, if_pos rfl, Option.bind_some, decide_eq_false (by omega)]
    rw [show 2 * s.size + 2 * t.size + 60 = (2 * s.size + 30 + (2 * t.size + 29)) + 1 by omega]
    simp only [outriderlaw01_NumBack.j0]
    rw [if_neg (by decide), parse_eq s hs (2 * t.size + 29), alive_ge _ (by omega)]
    simp only [Option.bind_some]
    by_cases he : (numParse s.data.toList).2 = 0
    · have hb := itoa_parse s.data.toList (numParse s.data.toList).1 (by rw [← he])
      rw [if_pos he, text_eq _ hb.2.1 hb.2.2, Option.bind_some, hb.1, Lib.mk_data, if_pos rfl]
    · rw [if_neg he]
end Go.Proofs.Ytnpkaoogifjofaa.Pure
