/- The pure statement of the law NumReads: over bytes alone, the printed function of the law answers true for every text. No condition. -/
import Derived.Test.YtnpkaoogifjofaaNumP
import Derived.Test.YtnpkaoogifjofaaPNumx13
import Derived.Test.YtnpkaoogifjofaaPNumx14
namespace Go.Proofs.Ytnpkaoogifjofaa.Pure
open Go.RowKit Go.Proofs.Ytnpkaoogifjofaa.PNum Go.Proofs.Ytnpkaoogifjofaa.NumA Go.Proofs.YtnpkaoogifjofaaW.PrintWords Go.Proofs.YtnpkaoogifjofaaW.PrintLast Go.Proofs.YtnpkaoogifjofaaW.PrintMore
theorem valF_lin (l : List UInt8) : ∀ a, valF a l = a * 10 ^ l.length + valF 0 l := by
  induction l with
  | nil => intro a; simp [valF]
  | cons c l ih =>
    intro a
    show valF (a * 10 + (c.toNat - 48)) l = a * 10 ^ (l.length + 1) + valF (0 * 10 + (c.toNat - 48)) l
    rw [ih (a * 10 + _), ih (0 * 10 + _), Nat.pow_succ, Nat.add_mul, Nat.mul_assoc, Nat.mul_comm 10 (10 ^ l.length), Nat.zero_mul, Nat.zero_add]; omega
theorem valF_lt (l : List UInt8) (h : l.all dgt = true) : valF 0 l < 10 ^ l.length := by
  induction l with
  | nil => simp [valF]
  | cons c l ih =>
    rw [List.all_cons, Bool.and_eq_true] at h
    have hb := dgt_bd h.1
    have hi := ih h.2
    show valF (0 * 10 + (c.toNat - 48)) l < 10 ^ (l.length + 1)
    rw [valF_lin, Nat.pow_succ, Nat.zero_mul, Nat.zero_add]
    have : (c.toNat - 48) * 10 ^ l.length ≤ 9 * 10 ^ l.length := Nat.mul_le_mul_right _ (by omega)
    omega
theorem cmp (l : List UInt8) : ∀ m : List UInt8, l.length = m.length → l.all dgt = true → m.all dgt = true → Op.bytesLess l m = decide (valF 0 l < valF 0 m) ∧ (l == m) = decide (valF 0 l = valF 0 m) := by
  induction l with
  | nil =>
    intro m hl _ _
    obtain rfl : m = [] := List.eq_nil_of_length_eq_zero hl.symm
    exact ⟨rfl, rfl⟩
  | cons c l ih =>
    intro m hl h1 h2
    cases m with
    | nil => cases hl
    | cons d m =>
      have hl2 : l.length = m.length := by simpa using hl
      rw [List.all_cons, Bool.and_eq_true] at h1 h2
      have hc := dgt_bd h1.1
      have hd := dgt_bd h2.1
      obtain ⟨i1, i2⟩ := ih m hl2 h1.2 h2.2
      have v1 : valF 0 (c :: l) = (c.toNat - 48) * 10 ^ m.length + valF 0 l := by
        show valF (0 * 10 + (c.toNat - 48)) l = _
        rw [valF_lin, Nat.zero_mul, Nat.zero_add, hl2]
      have v2 : valF 0 (d :: m) = (d.toNat - 48) * 10 ^ m.length + valF 0 m := by
        show valF (0 * 10 + (d.toNat - 48)) m = _
        rw [valF_lin, Nat.zero_mul, Nat.zero_add]
      have b1 := valF_lt l h1.2
      rw [hl2] at b1
      have b2 := valF_lt m h2.2
      rw [v1, v2]
      simp only [Op.bytesLess, List.cons_beq_cons, i1, i2]
      rcases Nat.lt_trichotomy c.toNat d.toNat with h | h | h
      · have e1 : (c < d) := UInt8.lt_iff_toNat_lt.mpr h
        have e2 : (c == d) = false := beq_eq_false_iff_ne.mpr (fun e => by rw [e] at h; omega)
        have h3 := Nat.mul_le_mul_right (10 ^ m.length) (show c.toNat - 48 + 1 ≤ d.toNat - 48 by omega)
        rw [Nat.add_mul, Nat.one_mul] at h3
        rw [decide_eq_true e1, e2]
        exact ⟨by simp; omega, by simp; omega⟩
      · have e0 : c = d := UInt8.toNat_inj.mp h
        subst e0
        have e1 : ¬ (c < c) := by rw [UInt8.lt_iff_toNat_lt]; omega
        rw [decide_eq_false e1]
        simp
      · have e1 : ¬ (c < d) := by rw [UInt8.lt_iff_toNat_lt]; omega
        have e2 : (c == d) = false := beq_eq_false_iff_ne.mpr (fun e => by rw [e] at h; omega)
        have h3 := Nat.mul_le_mul_right (10 ^ m.length) (show d.toNat - 48 + 1 ≤ c.toNat - 48 by omega)
        rw [Nat.add_mul, Nat.one_mul] at h3
        rw [decide_eq_false e1, e2]
        exact ⟨by simp; omega, by simp; omega⟩
theorem ref_loop (s t : ByteArray) (hs : t.size ≤ 140737488351232) (d : Nat) : ∀ (k i : Nat), i + d = t.data.toList.length → outriderref01_Parse.l0 (d + 1 + k) s t i = if (t.data.toList.drop i).all dgt = true then outriderref01_Parse.l0 (k + 1) s t (t.size : Int) else some (0, 10) := by
  have hz := Lib.size_eq t
  induction d with
  | zero =>
    intro k i hi
    rw [List.drop_eq_nil_of_le (by omega), show (i : Int) = (t.size : Int) by omega, show 0 + 1 + k = k + 1 by omega]; simp
  | succ d ih =>
    intro k i hi
    have hlt : i < t.data.toList.length := by omega
    rw [List.drop_eq_getElem_cons hlt, List.all_cons, show d + 1 + 1 + k = (d + 1 + k) + 1 by omega]
    have hu : ∀ k, outriderref01_Parse.l0 (k + 1) s t i = if bt t i < 48 then some (0, 10) else if bt t i > 57 then some (0, 10) else outriderref01_Parse.l0 k s t ((i + 1 : Nat) : Int) := fun k => by
      simp only [outriderref01_Parse.l0]
      rw [if_pos (by omega), if_pos (by omega), w64_id (by omega) (by omega)]; rfl
    rw [hu, bt_list t i hlt]
    by_cases hc : dgt t.data.toList[i] = true
    · have hb := dgt_bd hc
      rw [if_neg (by omega), if_neg (by omega), ih k (i + 1) (by omega), hc, Bool.true_and]
    · have hb : t.data.toList[i].toNat < 48 ∨ t.data.toList[i].toNat > 57 := by
        simp only [dgt, Bool.and_eq_true, decide_eq_true_eq] at hc; omega
      have hr : (dgt t.data.toList[i] && (t.data.toList.drop (i + 1)).all dgt) = false := by simp only [Bool.eq_false_iff.mpr hc, Bool.false_and]
      rw [hr]
      rcases hb with hb | hb
      · rw [if_pos (by omega), if_neg (by decide)]
      · rw [if_neg (by omega), if_pos (by omega), if_neg (by decide)]
theorem step10 (u c : Nat) (hc : 48 ≤ c ∧ c ≤ 57) : wrap64 (wrap64 (wrap64 (u : Int) * 10) + ((c : Int) - 48) % 256) = wrap64 ((u * 10 + (c - 48) : Nat) : Int) := by
  have e : ((c : Int) - 48) % 256 = c - 48 := by omega
  have e2 : ((u * 10 + (c - 48) : Nat) : Int) = u * 10 + (c - 48) := by omega
  rw [e, e2]
  refine w64_congr ?_
  rw [Int.add_emod, w64_mod, Int.mul_emod, w64_mod, ← Int.mul_emod, ← Int.add_emod]
theorem ref_sum (s t : ByteArray) (hs : t.size ≤ 140737488351232) (ha : t.data.toList.all dgt = true) (d : Nat) : ∀ (k i u : Nat), i + d = t.data.toList.length → outriderref01_Parse.l1 (d + 70 + k) s t (wrap64 u) i = some (if t.toList = s.toList then wrap64 (valF u (t.data.toList.drop i) : Int) else wrap64 (-wrap64 (valF u (t.data.toList.drop i) : Int)), 0) := by
  have hz := Lib.size_eq t
  induction d with
  | zero =>
    intro k i u hi
    rw [show 0 + 70 + k = (69 + k) + 1 by omega]
    simp only [outriderref01_Parse.l1]
    rw [if_neg (by omega), List.drop_eq_nil_of_le (by omega)]
    simp only [neg_eq, Option.bind_some]
    split <;> rfl
  | succ d ih =>
    intro k i u hi
    have hlt : i < t.data.toList.length := by omega
    have hc : dgt t.data.toList[i] = true := List.all_eq_true.mp ha _ (List.getElem_mem hlt)
    have hb := dgt_bd hc
    rw [show d + 1 + 70 + k = (d + 70 + k) + 1 by omega]
    simp only [outriderref01_Parse.l1]
    have hw := w64_bd (u : Int)
    rw [if_pos (by omega), mul_eq _ 10 hw.1 hw.2 _ (by omega), Option.bind_some, if_pos (by omega), add_eq, Option.bind_some, bt_list t i hlt, w64_id (x := (i : Int) + 1) (by omega) (by omega)]
    have hi2 : (i + 1) + d = t.data.toList.length := by omega
    rw [step10 u _ hb, show ((i : Int) + 1) = ((i + 1 : Nat) : Int) from rfl]
    have h := ih k (i + 1) (u * 10 + ((t.data.toList[i]).toNat - 48)) hi2
    rw [h, List.drop_eq_getElem_cons hlt]
    rfl
/-- the greatest number, and the one beyond it -/
def most (neg : Bool) : ByteArray := if neg = true then (⟨#[57, 50, 50, 51, 51, 55, 50, 48, 51, 54, 56, 53, 52, 55, 55, 53, 56, 48, 56]⟩ : ByteArray) else (⟨#[57, 50, 50, 51, 51, 55, 50, 48, 51, 54, 56, 53, 52, 55, 55, 53, 56, 48, 55]⟩ : ByteArray)
theorem most_facts (neg : Bool) : (most neg).size = 19 ∧ (most neg).data.toList.length = 19 ∧ (most neg).data.toList.all dgt = true ∧ valF 0 (most neg).data.toList = (if neg = true then 9223372036854775808 else 9223372036854775807) := by
  cases neg <;> exact ⟨rfl, rfl, by decide +kernel, by decide +kernel⟩
theorem not_big18 (neg : Bool) {v : Nat} (h : v < 1000000000000000000) : ¬ v > (if neg = true then 9223372036854775808 else 9223372036854775807) := by split <;> omega
theorem big19 (neg : Bool) {v : Nat} (h : 10000000000000000000 ≤ v) : v > (if neg = true then 9223372036854775808 else 9223372036854775807) := by split <;> omega
theorem p18 : (10 : Nat) ^ 18 = 1000000000000000000 := by decide
theorem p19 : (10 : Nat) ^ 19 = 10000000000000000000 := by decide
theorem big_iff (neg : Bool) (t : ByteArray) (ha : t.data.toList.all dgt = true) (h1 : t.data.toList.head? = some 48 → t.data.toList.length ≤ 1) (h0 : t.data.toList ≠ []) :
    (valF 0 t.data.toList > (if neg = true then 9223372036854775808 else 9223372036854775807)) ↔ (19 < t.size ∨ (t.size = 19 ∧ (!(Op.bytesLess t.toList (most neg).toList || t.toList == (most neg).toList)) = true)) := by
  obtain ⟨m1, m2, m3, m4⟩ := most_facts neg
  have hz := Lib.size_eq t
  have hlt := valF_lt _ ha
  rw [Lib.toList_data, Lib.toList_data]
  rcases Nat.lt_trichotomy t.size 19 with h | h | h
  · have hle : t.data.toList.length ≤ 18 := by omega
    have h18 : valF 0 t.data.toList < 1000000000000000000 := p18 ▸ Nat.lt_of_lt_of_le hlt (Nat.pow_le_pow_right (by decide) hle)
    constructor
    · intro hv; exact absurd hv (not_big18 neg h18)
    · rintro (hv | ⟨hv, _⟩)
      · exact absurd hv (by omega)
      · exact absurd hv (by omega)
  · obtain ⟨c1, c2⟩ := cmp t.data.toList (most neg).data.toList (by omega) ha m3
    rw [c1, c2, m4]
    constructor
    · intro hv; exact .inr ⟨h, by simp; omega⟩
    · rintro (hv | ⟨_, hv⟩)
      · omega
      · simp at hv; omega
  · have hge : 10 ^ (t.data.toList.length - 1) ≤ valF 0 t.data.toList := by
      obtain ⟨l, hl⟩ : ∃ l, l = t.data.toList := ⟨_, rfl⟩
      rw [← hl] at ha h1 h0 hz ⊢
      cases l with
      | nil => exact absurd rfl h0
      | cons c l =>
        rw [List.all_cons, Bool.and_eq_true] at ha
        have hb := dgt_bd ha.1
        have hne : c.toNat ≠ 48 := fun e => by
          have : c = 48 := UInt8.toNat_inj.mp e
          have := h1 (by rw [this]; rfl)
          simp at this hz; subst this; simp at hz; omega
        show 10 ^ (l.length + 1 - 1) ≤ valF (0 * 10 + (c.toNat - 48)) l
        rw [valF_lin, Nat.add_sub_cancel, Nat.zero_mul, Nat.zero_add]
        have := Nat.mul_le_mul_right (10 ^ l.length) (show 1 ≤ c.toNat - 48 by omega)
        omega
    have hge2 : 19 ≤ t.data.toList.length - 1 := by omega
    have h19 : 10000000000000000000 ≤ valF 0 t.data.toList := Nat.le_trans (p19 ▸ Nat.pow_le_pow_right (show 0 < 10 by decide) hge2) hge
    exact ⟨fun _ => .inl h, fun _ => big19 neg h19⟩
theorem ref_end (s t : ByteArray) (neg : Bool) (hs : t.size ≤ 140737488351232) (hst : (t.toList = s.toList) ↔ neg = false) (ha : t.data.toList.all dgt = true) (h1 : t.data.toList.head? = some 48 → t.data.toList.length ≤ 1) (h0 : t.data.toList ≠ []) (k : Nat) :
    outriderref01_Parse.l0 (t.size + 80 + k) s t (t.size : Int) = some (if valF 0 t.data.toList > (if neg = true then 9223372036854775808 else 9223372036854775807) then (0, 11) else (if neg = true then -(valF 0 t.data.toList : Int) else (valF 0 t.data.toList : Int), 0)) := by
  have hz := Lib.size_eq t
  have hbig := big_iff neg t ha h1 h0
  obtain ⟨m1, m2, m3, m4⟩ := most_facts neg
  have hl0 : outriderref01_Parse.l0 (t.size + 80 + k) s t (t.size : Int) = outriderref01_Parse.j4 (t.size + 79 + k) s t (most neg) := by
    rw [show t.size + 80 + k = (t.size + 79 + k) + 1 by omega]
    simp only [outriderref01_Parse.l0]
    rw [if_neg (by omega)]
    cases neg
    · rw [if_pos (hst.mpr rfl)]; rfl
    · rw [if_neg (fun e => by cases hst.mp e)]; rfl
  have hj5t : ∀ k, outriderref01_Parse.j5 (k + 1) s t true = some (0, 11) := fun k => by simp only [outriderref01_Parse.j5]; rfl
  have hj5f : valF 0 t.data.toList ≤ (if neg = true then 9223372036854775808 else 9223372036854775807) → outriderref01_Parse.j5 (t.size + 78 + k) s t false = some (if neg = true then -(valF 0 t.data.toList : Int) else (valF 0 t.data.toList : Int), 0) := fun hv => by
    rw [show t.size + 78 + k = (t.data.toList.length + 70 + (7 + k)) + 1 by omega]
    simp only [outriderref01_Parse.j5]
    have h := ref_sum s t hs ha t.data.toList.length (7 + k) 0 0 (by omega)
    have e0 : wrap64 ((0 : Nat) : Int) = 0 := w64_id (by omega) (by omega)
    rw [e0] at h
    rw [if_neg (by decide)]
    refine h.trans ?_
    rw [List.drop_zero]
    cases neg
    · rw [if_pos (hst.mpr rfl), if_neg (by decide)]
      rw [if_neg (by decide)] at hv
      rw [w64_id (by omega) (by omega)]
    · rw [if_neg (fun e => by cases hst.mp e), if_pos rfl]
      rw [if_pos rfl] at hv
      have : wrap64 (-wrap64 (valF 0 t.data.toList : Int)) = -(valF 0 t.data.toList : Int) := by unfold wrap64; omega
      rw [this]
  rw [hl0, show t.size + 79 + k = (t.size + 78 + k) + 1 by omega]
  simp only [outriderref01_Parse.j4, m1]
  by_cases g1 : 19 < t.size
  · rw [if_pos (by omega), if_pos (hbig.mpr (.inl g1)), show t.size + 78 + k = (t.size + 77 + k) + 1 by omega, hj5t]
  · rw [if_neg (by omega)]
    by_cases g2 : t.size = 19
    · rw [if_pos (by omega)]
      by_cases g3 : (!(Op.bytesLess t.toList (most neg).toList || t.toList == (most neg).toList)) = true
      · rw [if_pos (hbig.mpr (.inr ⟨g2, g3⟩)), g3, show t.size + 78 + k = (t.size + 77 + k) + 1 by omega, hj5t]
      · have hn : ¬ (valF 0 t.data.toList > (if neg = true then 9223372036854775808 else 9223372036854775807)) := fun h => by
          rcases hbig.mp h with h | ⟨_, h⟩
          · exact g1 h
          · exact g3 h
        rw [if_neg hn, Bool.eq_false_iff.mpr g3, hj5f (by omega)]
    · have hn : ¬ (valF 0 t.data.toList > (if neg = true then 9223372036854775808 else 9223372036854775807)) := fun h => by
        rcases hbig.mp h with h | ⟨h, _⟩
        · exact g1 h
        · exact g2 h
      rw [if_neg (by omega), if_neg hn, hj5f (by omega)]
theorem ref_tail (s t : ByteArray) (neg : Bool) (hs : t.size ≤ 140737488351232) (hst : (t.toList = s.toList) ↔ neg = false) (hs48 : (s.toList != ([48] : List UInt8)) = (decide (1 < t.data.toList.length) || neg) ∨ t.data.toList.head? ≠ some 48) (k : Nat) :
    outriderref01_Parse.j1 (2 * t.size + 100 + k) s t = some (numTail neg t.data.toList) := by
  have hz := Lib.size_eq t
  rw [show 2 * t.size + 100 + k = (2 * t.size + 98 + k) + 1 + 1 by omega]
  simp only [outriderref01_Parse.j1, outriderref01_Parse.j2]
  unfold numTail
  by_cases h0 : t.data.toList = []
  · rw [if_pos (by rw [hz, h0]; rfl), if_pos trivial, if_pos (.inl h0)]
  · have hl : 0 < t.data.toList.length := List.length_pos_iff.mpr h0
    rw [if_neg (by omega), if_pos (by omega)]
    have hh : t.data.toList.head? = some t.data.toList[0] := by rw [List.head?_eq_getElem?, List.getElem?_eq_getElem hl]
    have hb' : bt t 0 = ((t.data.toList[0]).toNat : Int) := bt_list t 0 hl
    have h48 : (((t.data.toList[0]).toNat : Int) = 48) ↔ t.data.toList[0] = 48 := eq48
    have hrest : (t.data.toList.head? = some 48 → t.data.toList.length ≤ 1) → outriderref01_Parse.l0 (2 * t.size + 98 + k) s t 0 = some (if t.data.toList.all dgt = false then (0, 10) else if valF 0 t.data.toList > (if neg = true then 9223372036854775808 else 9223372036854775807) then (0, 11) else (if neg = true then -(valF 0 t.data.toList : Int) else (valF 0 t.data.toList : Int), 0)) := fun h1 => by
      have hp := ref_loop s t hs t.data.toList.length (t.size + 80 + (17 + k)) 0 (by omega)
      rw [show t.data.toList.length + 1 + (t.size + 80 + (17 + k)) = 2 * t.size + 98 + k by omega] at hp
      have hp' : outriderref01_Parse.l0 (2 * t.size + 98 + k) s t 0 = _ := hp
      rw [hp']
      simp only [List.drop_zero]
      by_cases ha : t.data.toList.all dgt = true
      · rw [if_pos ha, show t.size + 80 + (17 + k) + 1 = t.size + 80 + (18 + k) by omega, ref_end s t neg hs hst ha h1 h0 (18 + k)]
        have hf : ¬ (t.data.toList.all dgt = false) := by simp [ha]
        rw [if_neg hf]
      · rw [if_neg ha, if_pos (by simpa using ha)]
    rw [hb', hh]
    rw [hh] at hs48 hrest
    obtain ⟨c, hc⟩ : ∃ c, c = t.data.toList[0] := ⟨_, rfl⟩
    rw [← hc] at h48 hs48 hrest ⊢
    by_cases h1 : c = 48
    · have hs2 := hs48.resolve_right (fun h => h (by rw [h1]))
      rw [if_pos (h48.mpr h1), hs2]
      by_cases h2 : 1 < t.data.toList.length
      · rw [decide_eq_true h2, Bool.true_or, if_pos rfl, if_pos (.inr ⟨by rw [h1], .inl h2⟩)]
      · rw [decide_eq_false h2, Bool.false_or]
        cases neg
        · have hT : ¬ (t.data.toList = [] ∨ (some c = some 48 ∧ (1 < t.data.toList.length ∨ false = true))) := by
            rintro (h | ⟨_, h | h⟩)
            · exact h0 h
            · exact h2 h
            · cases h
          rw [if_neg (by decide), if_neg hT, hrest (fun _ => by omega)]
        · rw [if_pos rfl, if_pos (.inr ⟨by rw [h1], .inr rfl⟩)]
    · have hT : ¬ (t.data.toList = [] ∨ (some c = some 48 ∧ (1 < t.data.toList.length ∨ neg = true))) := by
        rintro (h | ⟨h, _⟩)
        · exact h0 h
        · exact h1 (Option.some.inj h)
      rw [if_neg (fun h => h1 (h48.mp h)), if_neg (by decide), if_neg hT, hrest (fun h => absurd (Option.some.inj h) h1)]
theorem ref_parse (s : ByteArray) (hs : s.size ≤ 140737488351232) (k : Nat) : outriderref01_Parse.f (2 * s.size + 110 + k) s = some (numParse s.data.toList) := by
  have hz := Lib.size_eq s
  have hself : ∀ k, outriderref01_Parse.j1 (2 * s.size + 100 + k) s s = some (numTail false s.data.toList) := fun k => by
    refine ref_tail s s false hs ⟨fun _ => rfl, fun _ => rfl⟩ ?_ k
    by_cases h : s.data.toList.head? = some 48
    · left
      rw [Lib.toList_data, Bool.or_false]
      cases hl : s.data.toList with
      | nil => rw [hl] at h; cases h
      | cons c l =>
        rw [hl] at h
        have : c = 48 := Option.some.inj h
        subst this
        cases l <;> simp
    · exact .inr h
  unfold outriderref01_Parse.f numParse
  rw [show 2 * s.size + 110 + k = (2 * s.size + 100 + (9 + k)) + 1 by omega]
  simp only [outriderref01_Parse.j0]
  by_cases h0 : s.data.toList = []
  · rw [if_neg (by rw [hz, h0]; decide), if_neg (by decide), hself, h0]; rfl
  · have hl : 0 < s.data.toList.length := List.length_pos_iff.mpr h0
    rw [if_pos (by omega), if_pos (by omega)]
    have hh : s.data.toList.head? = some s.data.toList[0] := by rw [List.head?_eq_getElem?, List.getElem?_eq_getElem hl]
    have hb' : bt s 0 = ((s.data.toList[0]).toNat : Int) := bt_list s 0 hl
    have h45 : (((s.data.toList[0]).toNat : Int) = 45) ↔ s.data.toList[0] = 45 := eq45
    rw [hb', hh]
    by_cases h1 : s.data.toList[0] = 45
    · have he := drop1_list s
      have hz2 := Lib.size_eq (s.extract 1 s.size)
      rw [he, List.length_drop] at hz2
      rw [if_pos (by rw [beq_iff_eq]; exact h45.mpr h1), if_pos (by omega), if_pos (by rw [h1]), show 2 * s.size + 100 + (9 + k) = 2 * (s.extract 1 s.size).size + 100 + (11 + k) by omega]
      have hst : ((s.extract 1 s.size).toList = s.toList) ↔ true = false := by
        constructor
        · intro e
          rw [Lib.toList_data, Lib.toList_data, he] at e
          have := congrArg List.length e
          rw [List.length_drop] at this; omega
        · intro e; cases e
      have h48 : (s.toList != ([48] : List UInt8)) = (decide (1 < (s.extract 1 s.size).data.toList.length) || true) := by
        rw [Bool.or_true, bne_iff_ne, Lib.toList_data]
        intro e
        have hh2 : s.data.toList.head? = some 45 := by rw [hh, h1]
        rw [e] at hh2
        cases hh2
      rw [ref_tail s (s.extract 1 s.size) true (by omega) hst (.inl h48) (11 + k), he, List.drop_one]
    · rw [if_neg (by rw [beq_iff_eq]; exact fun h => h1 (h45.mp h)), if_neg (fun h => h1 (Option.some.inj h)), hself]
theorem NumReads : outriderlaw01_NumReads.Pure := by
  intro s hs
  refine ⟨2 * s.size + 140, ?_⟩
  unfold outriderlaw01_NumReads.f
  by_cases hc : (s.size : Int) > 4096
  · rw [if_pos hc]
  · rw [if_neg hc, show 2 * s.size + 140 = 2 * s.size + 30 + 110 by omega, parse_eq s hs 110, show 2 * s.size + 30 + 110 = 2 * s.size + 110 + 30 by omega, ref_parse s hs 30, alive_ge _ (by omega)]
    simp
end Go.Proofs.Ytnpkaoogifjofaa.Pure
