/- The Go function num.Text writes the decimal numeral of every int64, and leaves all older memory as it was. No condition beyond the range of int64. -/
import Derived.Test.YtnpkaoogifjofaaProg
import Derived.WalkKit
import Derived.Lib.Hide
import Derived.Lib.ItoaNum
import Derived.KernelRfl
import Derived.Deep.LoopGhost
import Derived.Laws.BytesArg
import Derived.Test.YtnpkaoogifjofaaWWords
namespace Go.Proofs.Ytnpkaoogifjofaa.My
open Go.RowKit Go.Proofs.YtnpkaoogifjofaaW.PrintWords
theorem u64_neg (n : Int) (h0 : -9223372036854775808 ≤ n) (h1 : n < 0) : IntKind.u64.wrap (-IntKind.u64.wrap n) = -n := by
  simp [IntKind.wrap, IntKind.bits, IntKind.signed]; omega
set_option maxHeartbeats 400000 in
theorem size_calls (n : Int) (h0 : -9223372036854775808 ≤ n) (_h1 : n ≤ 9223372036854775807) (w : World) : Calls Try.prog 44 #[.int .i64 n] w fun e w' => e = .returned (.int .u64 (n.natAbs : Int)) ∧ w = w' := by
  by_cases hn : n < 0
  · go_enter Try.func44, Try.ntmps44
    go_wp2
    go_ret
    exact ⟨by rw [show (n.natAbs : Int) = -n by omega, ← u64_neg n h0 hn]; rfl, rfl⟩
  · go_enter Try.func44, Try.ntmps44
    go_wp2
    go_ret
    exact ⟨by rw [show (n.natAbs : Int) = n by omega]; rfl, rfl⟩
/-- the cells from 20 - j on hold the last j digits of m -/
def Digs (m j : Nat) (cs : Array Value) : Prop := cs.size = 20 ∧ ∀ i, 20 - j ≤ i → i < 20 → cs[i]? = some (.int .u8 ((Lib.dg m (19 - i)).toNat : Int))
theorem dg_nat (m k : Nat) : ((Lib.dg m k).toNat : Int) = 48 + (m / 10 ^ k : Nat) % 10 := by
  unfold Lib.dg
  have : m / 10 ^ k % 10 < 10 := Nat.mod_lt _ (by decide)
  rw [UInt8.toNat_ofNat', Nat.mod_eq_of_lt (by omega)]; omega
theorem Digs.step {m j : Nat} {cs : Array Value} (h : Digs m j cs) (hj : j ≤ 19) : Digs m (j + 1) (cs.setIfInBounds (20 - j - 1) (.int .u8 (48 + (m / 10 ^ j : Nat) % 10))) := by
  refine ⟨by simp [h.1], fun i h1 h2 => ?_⟩
  by_cases e : i = 20 - j - 1
  · subst e
    rw [Array.getElem?_setIfInBounds_self_of_lt (by rw [h.1]; omega), dg_nat, show 19 - (20 - j - 1) = j by omega]
  · rw [Array.getElem?_setIfInBounds_ne (by omega)]
    exact h.2 i (by omega) h2
theorem nDigits_at (m j : Nat) (h0 : j = 0 ∨ 1 ≤ m / 10 ^ j) (h1 : m / 10 ^ j / 10 = 0) : Lib.nDigits m = j + 1 := by
  have hp : 0 < 10 ^ j := Nat.pow_pos (by decide)
  have h2 : m < 10 ^ (j + 1) := by
    rw [Nat.pow_succ]; rw [Nat.div_div_eq_div_mul] at h1
    exact (Nat.div_eq_zero_iff.mp h1).resolve_left (by omega)
  rcases h0 with rfl | h0
  · exact Lib.nDigits_small (by simpa using h2)
  · exact Lib.nDigits_unique j m ((Nat.one_le_div_iff hp).mp h0) h2
set_option maxRecDepth 100000 in
/-- the text of a row of bytes in the array -/
theorem conv_text (W : World) (b l : Nat) (cs : Array Value) (xs : List UInt8) (c : Nat) (hb : W.heap[b]? = some (.cells cs 59 (0, 0))) (h : ∀ i, (hi : i < xs.length) → cs[l + i]? = some (.int .u8 ((xs[i]).toNat : Int))) :
    (convert 60 9 (.slice (some ⟨b, l, none⟩) xs.length c)).run Try.prog W = .ok (.string ⟨xs.toArray⟩) W := by
  have e := run_convert_bytes_arg (P := Try.prog) W 60 5 Try.underlying60 Try.underlying5 b l xs.length c (xs.map fun x => (x.toNat : Int)) (by simp) (fun i hi => by
    rw [blk_cell hb, h i hi]; simp [List.getElem?_eq_getElem hi]) 9 Try.underlying9
  rw [e]; congr 2
  simp only [strOfNums, List.map_map]
  congr 2
  rw [show ((fun n : Int => UInt8.ofNat n.toNat) ∘ fun x : UInt8 => (x.toNat : Int)) = id from funext fun x => by simp, List.map_id]
set_option maxRecDepth 100000 in
theorem sl20 (b l : Nat) (h : l < 20) (W : World) : (Instr.sliceAt 59 (.pointer (some ⟨b, 0, none⟩)) (some (.int .i64 (l : Int))) none none).run Try.prog W = .ok (.slice (some ⟨b, l, none⟩) (20 - l) (20 - l)) W := by
  have ha : Try.prog.arrayLen 59 = 20 := by kernel_rfl
  have hu : Try.prog.underlying 59 = some (.array (Try.prog.arrayLen 59) (Try.prog.elem 59)) := by rw [ha]; exact Try.underlying59
  have hz : ∀ W, (sizeOf (Try.prog.elem 59)).run Try.prog W = .ok 1 W := fun W => by kernel_rfl
  rw [run_sliceAt_array_l W 59 ⟨b, 0, none⟩ hu .i64 l (by omega) (by rw [ha]; omega), hz, ha]
  simp only [Result.andThen, slicedAt, Int.toNat_natCast, Nat.mul_one]
  rw [if_neg (by omega), add_plain]
theorem itoa_len (n : Int) : (Lib.itoa n).length = Lib.nDigits n.natAbs + (if n < 0 then 1 else 0) := by
  unfold Lib.itoa
  by_cases h : n < 0
  · simp [h, Lib.decDigits_length]
  · simp [h, Lib.decDigits_length, show n.toNat = n.natAbs by omega]
theorem itoa_at_neg (n : Int) (hn : n < 0) (cs : Array Value) (j : Nat) (hj : j ≤ 18) (hd : Digs n.natAbs (j + 1) cs) (hl : Lib.nDigits n.natAbs = j + 1) :
    ∀ i, (hi : i < (Lib.itoa n).length) → (cs.setIfInBounds (20 - j - 1 - 1) (.int .u8 45))[(20 - j - 1 - 1) + i]? = some (.int .u8 (((Lib.itoa n)[i]).toNat : Int)) := by
  intro i hi
  rw [itoa_len, if_pos hn, hl] at hi
  rcases i with _ | i
  · simp only [Nat.add_zero, Lib.itoa, if_pos hn, List.getElem_cons_zero]
    rw [Array.getElem?_setIfInBounds_self_of_lt (by rw [hd.1]; omega)]; rfl
  · rw [Array.getElem?_setIfInBounds_ne (by omega), hd.2 _ (by omega) (by omega)]
    simp only [Lib.itoa, if_pos hn, List.getElem_cons_succ]
    have : ∀ (l : List UInt8) (h : i < l.length), l = Lib.decDigits n.natAbs → l[i]'h = Lib.dg n.natAbs (j - i) := by
      rintro _ h rfl
      simp [Lib.decDigits_eq, hl]
    rw [this _ _ rfl, show 19 - (20 - j - 1 - 1 + (i + 1)) = j - i by omega]
theorem itoa_at_pos (n : Int) (hn : ¬ n < 0) (cs : Array Value) (j : Nat) (hj : j ≤ 19) (hd : Digs n.natAbs (j + 1) cs) (hl : Lib.nDigits n.natAbs = j + 1) :
    ∀ i, (hi : i < (Lib.itoa n).length) → cs[(20 - j - 1) + i]? = some (.int .u8 (((Lib.itoa n)[i]).toNat : Int)) := by
  intro i hi
  rw [itoa_len, if_neg hn, hl] at hi
  rw [hd.2 _ (by omega) (by omega)]
  have e : Lib.itoa n = Lib.decDigits n.natAbs := by unfold Lib.itoa; rw [if_neg hn, show n.toNat = n.natAbs by omega]
  have : ∀ (l : List UInt8) (h : i < l.length), l = Lib.decDigits n.natAbs → l[i]'h = Lib.dg n.natAbs (j - i) := by
    rintro _ h rfl
    simp [Lib.decDigits_eq, hl]
  rw [this _ _ e, show 19 - (20 - j - 1 + i) = j - i by omega]
theorem le19 (m j : Nat) (hm : m ≤ 9223372036854775808) (h : j = 0 ∨ 1 ≤ m / 10 ^ j) : j ≤ 18 := by
  rcases h with rfl | h
  · omega
  · have hp : 0 < 10 ^ j := Nat.pow_pos (by decide)
    have h2 := (Nat.one_le_div_iff hp).mp h
    rcases Nat.lt_or_ge j 19 with h3 | h3
    · omega
    · have := Nat.pow_le_pow_right (show 0 < 10 by decide) h3
      have h4 : (10 : Nat) ^ 19 = 10000000000000000000 := by decide
      omega
set_option maxRecDepth 100000 in
set_option maxHeartbeats 400000 in
theorem text_calls (n : Int) (h0 : -9223372036854775808 ≤ n) (h1 : n ≤ 9223372036854775807) (w : World) : Calls Try.prog 20 #[.int .i64 n] w fun e w' => e = .returned (.string ⟨(Lib.itoa n).toArray⟩) ∧ Below w.heap.size w w' := by
  obtain ⟨m, hm⟩ : ∃ m, m = n.natAbs := ⟨_, rfl⟩
  have hm1 : m ≤ 9223372036854775808 := by omega
  have hsc := size_calls n h0 h1
  rw [← hm] at hsc
  have HS := Lib.hid hsc
  have HM := Lib.hid hm
  clear hm hsc
  go_enter Try.func20, Try.ntmps20
  go_wp2_with (go_at_call 44; refine (HS.out _).mono ?_; rintro e w' ⟨rfl, rfl⟩)
  go_loopw [4, 5] (fun at_ u wr => ∃ (j : Nat) (cs : Array Value), at_ = .int .i64 (20 - (j : Int)) ∧ u = .int .u64 ((m / 10 ^ j : Nat) : Int) ∧ Hid (j = 0 ∨ 1 ≤ m / 10 ^ j) ∧ Hid (wr.heap[w.heap.size]? = some (.cells cs 59 (0, 0))) ∧ Hid (Digs m j cs) ∧ Below w.heap.size w wr) (fun a _ _ => (intOf a).toNat)
  case atStart => exact ⟨0, _, rfl, by simp, .inl rfl, blk_new _ _, ⟨rfl, fun i h1 h2 => by omega⟩, (Below.refl _ _).alloc (Nat.le_refl _) _⟩
  case round =>
    obtain ⟨j, cs, rfl, rfl, hnz, hb, hd, hB⟩ := hrel
    have hj : j ≤ 18 := le19 m j hm1 hnz.out
    obtain ⟨q, hq⟩ : ∃ q, q = m / 10 ^ j := ⟨_, rfl⟩
    have hq1 : q ≤ 9223372036854775808 := by rw [hq]; exact Nat.le_trans (Nat.div_le_self _ _) hm1
    rw [← hq] at ⊢
    have HQ := Lib.hid hq
    clear hq
    have hsz : cs.size = 20 := hd.out.1
    have hcell : wr.cell? ⟨w.heap.size, 20 - j - 1, none⟩ = some (cs[20 - j - 1]'(by omega)) := by rw [blk_cell hb.out]; exact Array.getElem?_eq_getElem _
    have hcell2 : wr.cell? ⟨w.heap.size, 20 - j - 1 - 1, none⟩ = some (cs[20 - j - 1 - 1]'(by omega)) := by rw [blk_cell hb.out]; exact Array.getElem?_eq_getElem _
    have hfz : ∀ i, wr.frozen? ⟨w.heap.size, i, none⟩ = false := fun i => blk_frozen hb.out i
    have hd' : Hid (Digs m (j + 1) (cs.setIfInBounds (20 - j - 1) (.int .u8 (48 + (q : Int) % 10)))) := by rw [HQ.out]; exact hd.out.step (by omega)
    have hb' : Hid ((wr.setCell ⟨w.heap.size, 20 - j - 1, none⟩ (.int .u8 (48 + (q : Int) % 10))).heap[w.heap.size]? = some (.cells (cs.setIfInBounds (20 - j - 1) (.int .u8 (48 + (q : Int) % 10))) 59 (0, 0))) := blk_set hb.out _ _
    have hsl2 : ∀ W, (Instr.sliceAt 59 (.pointer (some ⟨w.heap.size, 0, none⟩)) (some (.int .i64 (20 - (j : Int) - 1 - 1))) none none).run Try.prog W = .ok (.slice (some ⟨w.heap.size, 20 - j - 1 - 1, none⟩) (j + 2) (j + 2)) W := fun W => by
      have := sl20 w.heap.size (20 - j - 1 - 1) (by omega) W
      rw [show ((20 - j - 1 - 1 : Nat) : Int) = 20 - (j : Int) - 1 - 1 by omega, show 20 - (20 - j - 1 - 1) = j + 2 by omega] at this
      exact this
    have hsl1 : ∀ W, (Instr.sliceAt 59 (.pointer (some ⟨w.heap.size, 0, none⟩)) (some (.int .i64 (20 - (j : Int) - 1))) none none).run Try.prog W = .ok (.slice (some ⟨w.heap.size, 20 - j - 1, none⟩) (j + 1) (j + 1)) W := fun W => by
      have := sl20 w.heap.size (20 - j - 1) (by omega) W
      rw [show ((20 - j - 1 : Nat) : Int) = 20 - (j : Int) - 1 by omega, show 20 - (20 - j - 1) = j + 1 by omega] at this
      exact this
    by_cases hz : q / 10 = 0
    · have hz' : ((q : Int) / 10 == 0) = true := by rw [beq_iff_eq]; omega
      have hl := nDigits_at m j hnz.out (by rw [← HQ.out]; exact hz)
      by_cases hn : n < 0
      · have hlen : (Lib.itoa n).length = j + 2 := by rw [itoa_len, if_pos hn, ← HM.out, hl]
        have hcv : (convert 60 9 (.slice (some ⟨w.heap.size, 20 - j - 1 - 1, none⟩) (j + 2) (j + 2))).run Try.prog ((wr.setCell ⟨w.heap.size, 20 - j - 1, none⟩ (.int .u8 (48 + (q : Int) % 10))).setCell ⟨w.heap.size, 20 - j - 1 - 1, none⟩ (.int .u8 45)) = .ok (.string ⟨(Lib.itoa n).toArray⟩) ((wr.setCell ⟨w.heap.size, 20 - j - 1, none⟩ (.int .u8 (48 + (q : Int) % 10))).setCell ⟨w.heap.size, 20 - j - 1 - 1, none⟩ (.int .u8 45)) := by
          have := conv_text _ w.heap.size (20 - j - 1 - 1) _ (Lib.itoa n) (j + 2) (blk_set hb'.out (20 - j - 1 - 1) (.int .u8 45)) (itoa_at_neg n hn _ j (by omega) (by rw [← HM.out]; exact hd'.out) (by rw [← HM.out]; exact hl))
          rw [hlen] at this
          exact this
        clear hz hl hlen hsl1
        go_wp2
        go_ret
        exact ⟨rfl, (hB.setCell (Nat.le_refl _) _).setCell (Nat.le_refl _) _⟩
      · have hlen : (Lib.itoa n).length = j + 1 := by rw [itoa_len, if_neg hn, ← HM.out, hl]
        have hcv : (convert 60 9 (.slice (some ⟨w.heap.size, 20 - j - 1, none⟩) (j + 1) (j + 1))).run Try.prog (wr.setCell ⟨w.heap.size, 20 - j - 1, none⟩ (.int .u8 (48 + (q : Int) % 10))) = .ok (.string ⟨(Lib.itoa n).toArray⟩) (wr.setCell ⟨w.heap.size, 20 - j - 1, none⟩ (.int .u8 (48 + (q : Int) % 10))) := by
          have := conv_text _ w.heap.size (20 - j - 1) _ (Lib.itoa n) (j + 1) hb'.out (itoa_at_pos n hn _ j (by omega) (by rw [← HM.out]; exact hd'.out) (by rw [← HM.out]; exact hl))
          rw [hlen] at this
          exact this
        clear hz hl hlen hsl2
        go_wp2
        go_ret
        exact ⟨rfl, hB.setCell (Nat.le_refl _) _⟩
    · have hz' : ((q : Int) / 10 == 0) = false := by rw [beq_eq_false_iff_ne]; omega
      clear hsl1 hsl2
      go_wp2
      go_roundw
      case rel => exact ⟨j + 1, _, by go_num, by rw [HQ.out, Nat.pow_succ, ← Nat.div_div_eq_div_mul]; rfl, .inr (by rw [Nat.pow_succ, ← Nat.div_div_eq_div_mul, ← HQ.out]; omega), hb', hd', hB.setCell (Nat.le_refl _) _⟩
      case measure => simp [intOf]; omega
end Go.Proofs.Ytnpkaoogifjofaa.My
