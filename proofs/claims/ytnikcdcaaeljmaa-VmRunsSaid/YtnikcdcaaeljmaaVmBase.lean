/- Both machines made, a state told and set. Conditions: the text was there in the world W, which is kept. -/
import Derived.Test.YtnikcdcaaeljmaaInsK
import Derived.Deep.RegionHeld3
import Derived.Deep.MidRow
import Derived.Deep.QuietTactic
import Derived.BigQuiet
namespace Go.Proofs.Ytnikcdcaaeljmaa.My
open Go.RowKit
def newE (l : List Ins) (cells words fuel : Int) : Int :=
  if (checkP l cells).2 = 0 then (if words < 1 ∨ 64 < words then 130 else if fuel < 1 ∨ 4000 < fuel then 110 else 0) else (checkP l cells).2
theorem info_ins : (Try.prog.info? 76).map (fun i => (i.zero, i.size, i.bytes)) = some (some (.agg #[.int .i64 0, .int .i64 0, .int .i64 0, .int .i64 0, .int .i64 0, .int .i64 0]), 6, 48) := by kernel_rfl
def flatI : List Ins → List Value
  | [] => []
  | x :: l => x.cells ++ flatI l
theorem flatI_len : ∀ l : List Ins, (flatI l).length = l.length * 6
  | [] => rfl
  | x :: l => by rw [flatI, List.length_append, flatI_len l, List.length_cons]; simp [Ins.cells]; omega
theorem flatI_one : ∀ (l : List Ins), ∀ u ∈ flatI l, u.oneCell' = true
  | [], u, hu => by cases hu
  | x :: l, u, hu => by
    rw [flatI] at hu
    rcases List.mem_append.1 hu with hu | hu
    · simp only [Ins.cells, List.mem_cons, List.not_mem_nil, or_false] at hu
      rcases hu with rfl | rfl | rfl | rfl | rfl | rfl <;> rfl
    · exact flatI_one l u hu
theorem flatI_get : ∀ (l : List Ins) (j m : Nat) (u : Value), m < 6 → ((flatI l)[j * 6 + m]? = some u ↔ ∃ hj : j < l.length, (l[j].cells)[m]? = some u)
  | [], j, m, u, _ => by simp [flatI]
  | x :: l, 0, m, u, hm => by
    rw [flatI, Nat.zero_mul, Nat.zero_add, List.getElem?_append_left (by simpa [Ins.cells] using hm)]
    simp
  | x :: l, j + 1, m, u, hm => by
    rw [flatI, List.getElem?_append_right (by simp [Ins.cells]; omega), show (j + 1) * 6 + m - x.cells.length = j * 6 + m by simp [Ins.cells]; omega, flatI_get l j m u hm]
    simp
theorem insRow.flat {w : World} {l : List Ins} {b o : Nat} (h : insRow w l (some ⟨b, o, none⟩)) : ∀ m u, (flatI l)[m]? = some u → w.cell? ⟨b, o + m, none⟩ = some u := by
  intro m u hu
  have hm : m / 6 * 6 + m % 6 = m := by omega
  rw [← hm] at hu
  obtain ⟨hj, hu⟩ := (flatI_get l (m / 6) (m % 6) u (by omega)).1 hu
  obtain ⟨b', o', he, hc⟩ := h (m / 6) hj
  simp only [Option.some.injEq, Addr.mk.injEq, and_true] at he
  obtain ⟨rfl, rfl⟩ := he
  have := hc (m % 6) u hu
  rwa [Nat.add_assoc, hm] at this
theorem insRow.of {w : World} {l : List Ins} {A : Option Addr} {n c : Nat} (h : Row w 76 6 (.slice A n c) n (flatI l)) : insRow w l A := by
  intro j hj
  have hx : ∀ m u, (l[j].cells)[m]? = some u → (flatI l)[j * 6 + m]? = some u := fun m u hu => by
    have hm : m < 6 := by have := (List.getElem?_eq_some_iff.1 hu).1; simpa [Ins.cells] using this
    exact (flatI_get l j m u hm).2 ⟨hj, hu⟩
  obtain ⟨g, c', hv, _, _⟩ := h.cell (hx 0 (.int .i64 l[j].kind) rfl)
  injection hv with hv _ _
  refine ⟨g, 0, hv, fun m u hu => ?_⟩
  obtain ⟨g', c'', hv', hc, _⟩ := h.cell (hx m u hu)
  injection hv' with hv' _ _
  rw [hv] at hv'
  injection hv' with hv'; injection hv' with hv' _ _
  subst hv'
  rw [Nat.zero_add]
  exact hc
theorem insRow.keep {w w' : World} {l : List Ins} {A : Option Addr} (h : insRow w l A) (hB : Below w.heap.size w w') : insRow w' l A := by
  intro j hj
  obtain ⟨b, o, hA, hc⟩ := h j hj
  exact ⟨b, o, hA, fun m u hu => (hB.cell (World.block_lt_of_cell? w _ (hc m u hu))).trans (hc m u hu)⟩
/-- a copy of a text: append onto nothing -/
theorem wpList_append_ins (w : World) {ops : Array Oper} {rest : List Oper} {o : Oper} {a : Act} {Q : Exit → Act → World → Prop} (hgd : o.guard = none) (s x : Operand)
    (ho : o.op = .call { callee := .builtin .append, args := #[s, x], argTypes := #[22, 22] }) (l : List Ins) (A : Option Addr) (c : Nat) (hrd : insRow w l A) (hl : l.length ≤ 100000000)
    (hs : a.eval s = .slice none 0 0) (hx : a.eval x = .slice A l.length c)
    (h : ∀ v' w', Row w' 76 6 v' l.length (flatI l) → w.grownBy w' none → (v'.ownBlock = none ∨ v'.ownBlock = some w.heap.size) → wpList Try.prog ops Q rest (a.put o.dst v') w') : wpList Try.prog ops Q (o :: rest) a w := by
  refine wpList_plain hgd fun _ hK => ?_
  obtain ⟨i, hi, hi2⟩ := Option.map_eq_some_iff.mp info_ins
  simp only [Prod.mk.injEq] at hi2
  have hfl := flatI_len l
  have hr : ∃ v' w', (Builtin.append_ #[22, 22] o.type #[.slice none 0 0, .slice A l.length c]).run Try.prog w = .ok v' w' ∧ Row w' 76 6 v' l.length (flatI l) ∧ w.grownBy w' none ∧ (v'.ownBlock = none ∨ v'.ownBlock = some w.heap.size) := by
    rcases Nat.eq_zero_or_pos l.length with h0 | h0
    · have hn : flatI l = [] := List.eq_nil_of_length_eq_zero (by omega)
      rw [h0, hn]
      exact ⟨_, w, run_append_nothing w _ _ _ 76 i Try.underlying22 hi none 0 0 (Nat.le_refl _) _ (by cases A with | none => exact Src.ofNil w Try.underlying22 c | some a => exact Src.ofSlice w Try.underlying22 a 0 c [] (by simp) (by simp) (by simp)), Row.nil _ _ _, ⟨rfl, rfl, rfl, Nat.le_refl _, fun _ _ _ => rfl⟩, .inl rfl⟩
    · obtain ⟨b, o', hA, _⟩ := hrd 0 h0
      subst hA
      have hcell : ∀ j u, (flatI l)[j]? = some u → w.cell? ((⟨b, o', none⟩ : Addr).add j) = some u := fun j u hu => by
        have hadd : (⟨b, o', none⟩ : Addr).add j = ⟨b, o' + j, none⟩ := by unfold Addr.add; split <;> simp_all
        rw [hadd]
        exact hrd.flat j u hu
      have hr := run_append_row (P := Try.prog) w 22 o.type 76 i _ 6 48 Try.underlying22 hi hi2.1 hi2.2.1 hi2.2.2 rfl (.slice none 0 0) 0 [] (Row.nil _ _ _) ⟨b, o', none⟩ l.length c (flatI l) hfl hcell (flatI_one l) h0 (by unfold maxLen; omega) (by omega)
      simpa [Value.ownBlock] using hr
  obtain ⟨v', w', hr, h2, h3, h4⟩ := hr
  unfold Oper.wp execOp
  simp only [ho, resolve, invoke, builtin, Sem.run_bind, Sem.run_pure, Result.andThen_ok, List.map_toArray, List.map_cons, List.map_nil, hs, hx, hr]
  exact hK _ _ (h v' w' h2 h3 h4)
end Go.Proofs.Ytnikcdcaaeljmaa.My
namespace Go.Proofs.Ytnikcdcaaeljmaa.My
open Go.RowKit
/-- the cells of a state with these numbers, ahead of its first instruction -/
def st0 (n i k : Int) : List Value := [.int .i64 n, .int .i64 i, .int .i64 k, .int .i64 0, .int .i64 0, .int .i64 0, .int .i64 0, .int .i64 0, .int .i64 0, .int .i64 0, .int .i64 0, .int .i64 0, .int .i64 0, .int .i64 0, .int .i64 0, .int .i64 0, .int .i64 0, .int .i64 0, .int .i64 0, .int .i64 0]
/-- the cells of a machine: its state, its text, its bounds, its first state -/
def vmCells (st : List Value) (code : Value) (words fuel : Int) (first : List Value) : Array Value := (st ++ [code, .int .i64 words, .int .i64 fuel] ++ first).toArray
def NewOK (w : World) (l : List Ins) (cells words fuel n i k : Int) (e : Ending) (w' : World) : Prop :=
  Below w.heap.size w w' ∧ if newE l cells words fuel = 0 then ∃ p Ac cc, e = .returned (.tuple #[.pointer (some ⟨p, 0, none⟩), .int .i64 0]) ∧ w.heap.size ≤ p ∧ w'.heap[p]? = some (.cells (vmCells (st0 n i k) (.slice Ac l.length cc) words fuel (st0 n i k)) 79 (0, 0)) ∧ insRow w' l Ac ∧ (∀ b o, Ac = some ⟨b, o, none⟩ → b < p)
    else e = .returned (.tuple #[.pointer none, .int .i64 (newE l cells words fuel)])
theorem range_at {w : World} {g : Nat} {arr : Array Value} {t : TypeId} (h : w.heap[g]? = some (.cells arr t (0, 0))) (o : Nat) (cs : List Value) (he : (arr.toList.drop o).take cs.length = cs) : w.rangeAt g o cs := by
  intro j v hv
  rw [blk_cell h, ← Array.getElem?_toList]
  have hj : j < cs.length := (List.getElem?_eq_some_iff.1 hv).1
  rw [← he, List.getElem?_take, if_pos hj, List.getElem?_drop] at hv
  exact hv
theorem there_at {w : World} {g : Nat} {arr : Array Value} {t : TypeId} (h : w.heap[g]? = some (.cells arr t (0, 0))) (o n : Nat) (hn : o + n ≤ arr.size) : w.there g o n := by
  intro j hj
  refine ⟨?_, blk_free h _⟩
  rw [blk_cell h, Array.getElem?_eq_getElem (by omega)]
  rfl
theorem below_sets {B : Nat} {g : Nat} (hg : B ≤ g) : ∀ (vs : List Value) (o : Nat) {a w : World}, Below B a w → Below B a (w.setCells g o vs)
  | [], _, _, _, h => h
  | v :: r, o, _, _, h => below_sets hg r (o + 1) (h.setCell hg v)
/-- the first state becomes the state -/
theorem st_at {w : World} {g : Nat} {t : TypeId} {code : Value} {words fuel n i k : Int} (h : w.heap[g]? = some (.cells #[.int .i64 0, .int .i64 0, .int .i64 0, .int .i64 0, .int .i64 0, .int .i64 0, .int .i64 0, .int .i64 0, .int .i64 0, .int .i64 0, .int .i64 0, .int .i64 0, .int .i64 0, .int .i64 0, .int .i64 0, .int .i64 0, .int .i64 0, .int .i64 0, .int .i64 0, .int .i64 0, code, .int .i64 words, .int .i64 fuel, .int .i64 n, .int .i64 i, .int .i64 k, .int .i64 0, .int .i64 0, .int .i64 0, .int .i64 0, .int .i64 0, .int .i64 0, .int .i64 0, .int .i64 0, .int .i64 0, .int .i64 0, .int .i64 0, .int .i64 0, .int .i64 0, .int .i64 0, .int .i64 0, .int .i64 0, .int .i64 0] t (0, 0))) :
    (w.setCells g 0 [.int .i64 n, .int .i64 i, .int .i64 k, .int .i64 0, .int .i64 0, .int .i64 0, .int .i64 0, .int .i64 0, .int .i64 0, .int .i64 0, .int .i64 0, .int .i64 0, .int .i64 0, .int .i64 0, .int .i64 0, .int .i64 0, .int .i64 0, .int .i64 0, .int .i64 0, .int .i64 0]).heap[g]? = some (.cells (vmCells (st0 n i k) code words fuel (st0 n i k)) t (0, 0)) := by
  simp only [World.setCells]
  have h1 := (blk_set (blk_set (blk_set (blk_set (blk_set (blk_set (blk_set (blk_set (blk_set (blk_set (blk_set (blk_set (blk_set (blk_set (blk_set (blk_set (blk_set (blk_set (blk_set (blk_set h 0 (.int .i64 n)) 1 (.int .i64 i)) 2 (.int .i64 k)) 3 (.int .i64 0)) 4 (.int .i64 0)) 5 (.int .i64 0)) 6 (.int .i64 0)) 7 (.int .i64 0)) 8 (.int .i64 0)) 9 (.int .i64 0)) 10 (.int .i64 0)) 11 (.int .i64 0)) 12 (.int .i64 0)) 13 (.int .i64 0)) 14 (.int .i64 0)) 15 (.int .i64 0)) 16 (.int .i64 0)) 17 (.int .i64 0)) 18 (.int .i64 0)) 19 (.int .i64 0))
  refine h1.trans ?_
  kernel_rfl
set_option maxRecDepth 100000 in
set_option maxHeartbeats 1000000 in
theorem vmNew_calls (W : World) (l : List Ins) (A : Option Addr) (c : Nat) (cells words fuel n i k : Int) (hrd : insRow W l A) (hl : l.length ≤ 100000000) (w : World) (hB : Below W.heap.size W w) :
    Calls Try.prog 18 #[.slice A l.length c, .int .i64 cells, .int .i64 words, .int .i64 fuel, .int .i64 n, .int .i64 i, .int .i64 k] w (NewOK w l cells words fuel n i k) := by
  have cC := insCheck_calls W l A c cells hrd (by omega) w hB
  obtain ⟨⟨at0, e0⟩, hc⟩ : ∃ r, checkP l cells = r := ⟨_, rfl⟩
  rw [hc] at cC
  have HC := Lib.hid cC
  have HR := Lib.hid (fun (w' : World) (h : Below W.heap.size W w') => hrd.keep h)
  clear cC hrd
  by_cases hz : e0 = 0
  · have hz' : (e0 == 0) = true := by simp [hz]
    subst hz
    by_cases hw1 : words < 1
    · have HS := Lib.hid (show newE l cells words fuel = 130 by unfold newE; rw [hc, if_pos rfl, if_pos (.inl hw1)])
      clear hc
      go_enter Try.func18, Try.ntmps18
      go_wp2_with (go_at_call 36; go_must (refine HC.out.mono ?_); rintro x w1 ⟨rfl, hb1⟩)
      go_ret2
      refine ⟨hb1, ?_⟩
      rw [HS.out]
      exact rfl
    · by_cases hw2 : 64 < words
      · have HS := Lib.hid (show newE l cells words fuel = 130 by unfold newE; rw [hc, if_pos rfl, if_pos (.inr hw2)])
        have hw2' : words > 64 := hw2
        clear hc
        go_enter Try.func18, Try.ntmps18
        go_wp2_with (go_at_call 36; go_must (refine HC.out.mono ?_); rintro x w1 ⟨rfl, hb1⟩)
        go_ret2
        refine ⟨hb1, ?_⟩
        rw [HS.out]
        exact rfl
      · have hw2' : ¬ (words > 64) := hw2
        by_cases hf1 : fuel < 1
        · have HS := Lib.hid (show newE l cells words fuel = 110 by unfold newE; rw [hc, if_pos rfl, if_neg (by omega), if_pos (.inl hf1)])
          clear hc
          go_enter Try.func18, Try.ntmps18
          go_wp2_with (go_at_call 36; go_must (refine HC.out.mono ?_); rintro x w1 ⟨rfl, hb1⟩)
          go_ret2
          refine ⟨hb1, ?_⟩
          rw [HS.out]
          exact rfl
        · by_cases hf2 : 4000 < fuel
          · have HS := Lib.hid (show newE l cells words fuel = 110 by unfold newE; rw [hc, if_pos rfl, if_neg (by omega), if_pos (.inr hf2)])
            have hf2' : fuel > 4000 := hf2
            clear hc
            go_enter Try.func18, Try.ntmps18
            go_wp2_with (go_at_call 36; go_must (refine HC.out.mono ?_); rintro x w1 ⟨rfl, hb1⟩)
            go_ret2
            refine ⟨hb1, ?_⟩
            rw [HS.out]
            exact rfl
          · have hf2' : ¬ (fuel > 4000) := hf2
            have HS := Lib.hid (show newE l cells words fuel = 0 by unfold newE; rw [hc, if_pos rfl, if_neg (by omega), if_neg (by omega)])
            have hd1 : decide (words < 1) = false := by simp; omega
            have hd2 : decide (64 < words) = false := by simp; omega
            have hd3 : decide (fuel < 1) = false := by simp; omega
            have hd4 : decide (4000 < fuel) = false := by simp; omega
            have hp1 : ¬ (words < 1 ∨ 64 < words) := by omega
            have hp2 : ¬ (fuel < 1 ∨ 4000 < fuel) := by omega
            clear hc hw1 hw2 hw2' hf1 hf2 hf2'
            go_enter Try.func18, Try.ntmps18
            go_wp2_with (first
              | (at_builtin; go_must (refine wpList_append_ins _ rfl _ _ rfl l A c (HR.out _ (hB.trans (hb1.mono hB.size))) hl rfl rfl ?_); intro v2 w2 hr2 hg2 hn2; obtain ⟨A2, c2, hv2, hl2⟩ := hr2.slice; subst hv2)
              | (go_at_call 36; go_must (refine HC.out.mono ?_); rintro x w1 ⟨rfl, hb1⟩))
            go_region_held3 (fun _ => True) (trivial) (fail)
            generalize hw3 : (w2.alloc (.cells #[.int .i64 0, .int .i64 0, .int .i64 0, .int .i64 0, .int .i64 0, .int .i64 0, .int .i64 0, .int .i64 0, .int .i64 0, .int .i64 0, .int .i64 0, .int .i64 0, .int .i64 0, .int .i64 0, .int .i64 0, .int .i64 0, .int .i64 0, .int .i64 0, .int .i64 0, .int .i64 0, .slice A2 l.length c2, .int .i64 words, .int .i64 fuel, .int .i64 n, .int .i64 i, .int .i64 k, .int .i64 0, .int .i64 0, .int .i64 0, .int .i64 0, .int .i64 0, .int .i64 0, .int .i64 0, .int .i64 0, .int .i64 0, .int .i64 0, .int .i64 0, .int .i64 0, .int .i64 0, .int .i64 0, .int .i64 0, .int .i64 0, .int .i64 0] 79)).drew = w3
            have h2 : Below w.heap.size w w2 := Below.grown hb1 hg2 hb1.size (by intro k hk; cases hk)
            have hx : w3.heap[w2.heap.size]? = some (.cells #[.int .i64 0, .int .i64 0, .int .i64 0, .int .i64 0, .int .i64 0, .int .i64 0, .int .i64 0, .int .i64 0, .int .i64 0, .int .i64 0, .int .i64 0, .int .i64 0, .int .i64 0, .int .i64 0, .int .i64 0, .int .i64 0, .int .i64 0, .int .i64 0, .int .i64 0, .int .i64 0, .slice A2 l.length c2, .int .i64 words, .int .i64 fuel, .int .i64 n, .int .i64 i, .int .i64 k, .int .i64 0, .int .i64 0, .int .i64 0, .int .i64 0, .int .i64 0, .int .i64 0, .int .i64 0, .int .i64 0, .int .i64 0, .int .i64 0, .int .i64 0, .int .i64 0, .int .i64 0, .int .i64 0, .int .i64 0, .int .i64 0, .int .i64 0] 79 (0, 0)) := by rw [← hw3]; exact blk_new w2 _
            have h3 : Below w2.heap.size w2 w3 := by rw [← hw3]; exact ((Below.refl w2.heap.size w2).alloc (Nat.le_refl _) _).drew
            clear hw3 hn2 hg2
            have h4 := Lib.hid (st_at hx)
            have h5 : Below w2.heap.size w2 (w3.setCells w2.heap.size 0 [.int .i64 n, .int .i64 i, .int .i64 k, .int .i64 0, .int .i64 0, .int .i64 0, .int .i64 0, .int .i64 0, .int .i64 0, .int .i64 0, .int .i64 0, .int .i64 0, .int .i64 0, .int .i64 0, .int .i64 0, .int .i64 0, .int .i64 0, .int .i64 0, .int .i64 0, .int .i64 0]) := below_sets (Nat.le_refl _) _ 0 h3
            have hlt2 := Lib.hid (show ∀ b o, A2 = some ⟨b, o, none⟩ → b < w2.heap.size from fun b o hb => hr2.lt (by subst hb; rfl))
            have hir := Lib.hid ((insRow.of hr2).keep h5)
            have H2 := Lib.hid h2
            have H5 := Lib.hid h5
            have hrg := Lib.hid (range_at hx 23 [.int .i64 n, .int .i64 i, .int .i64 k, .int .i64 0, .int .i64 0, .int .i64 0, .int .i64 0, .int .i64 0, .int .i64 0, .int .i64 0, .int .i64 0, .int .i64 0, .int .i64 0, .int .i64 0, .int .i64 0, .int .i64 0, .int .i64 0, .int .i64 0, .int .i64 0, .int .i64 0] rfl)
            have hth := Lib.hid (there_at hx 0 20 (by simp))
            clear hx h2 h3 h5 hr2
            go_wp2_with (first
              | (refine wpList_load_mid (by rfl) 45 _ (by rfl) w2.heap.size 23 (by rfl) [.int .i64 n, .int .i64 i, .int .i64 k, .int .i64 0, .int .i64 0, .int .i64 0, .int .i64 0, .int .i64 0, .int .i64 0, .int .i64 0, .int .i64 0, .int .i64 0, .int .i64 0, .int .i64 0, .int .i64 0, .int .i64 0, .int .i64 0, .int .i64 0, .int .i64 0, .int .i64 0] _ hrg.out Try.underlying45 rfl (by kernel_rfl) ?_)
              | (refine wpList_store_mid (by rfl) 45 _ _ (by rfl) w2.heap.size 0 #[.int .i64 n, .int .i64 i, .int .i64 k, .int .i64 0, .int .i64 0, .int .i64 0, .int .i64 0, .int .i64 0, .int .i64 0, .int .i64 0, .int .i64 0, .int .i64 0, .int .i64 0, .int .i64 0, .int .i64 0, .int .i64 0, .int .i64 0, .int .i64 0, .int .i64 0, .int .i64 0] (by rfl) (by rfl) hth.out (by kernel_rfl) (by simp [Value.oneCell']) ?_))
            go_ret2
            refine ⟨H2.out.trans (H5.out.mono H2.out.size), ?_⟩
            rw [if_pos HS.out]
            exact ⟨w2.heap.size, A2, c2, rfl, H2.out.size, h4.out, hir.out, hlt2.out⟩
  · have hz' : (e0 == 0) = false := by simp [hz]
    have HS := Lib.hid (show newE l cells words fuel = e0 by unfold newE; rw [hc, if_neg hz])
    clear hc
    go_enter Try.func18, Try.ntmps18
    go_wp2_with (go_at_call 36; go_must (refine HC.out.mono ?_); rintro x w1 ⟨rfl, hb1⟩)
    go_ret2
    refine ⟨hb1, ?_⟩
    rw [HS.out, if_neg hz]
    exact rfl
end Go.Proofs.Ytnikcdcaaeljmaa.My
namespace Go.Proofs.Ytnikcdcaaeljmaa.My
open Go.RowKit
/-- so many registers, the first three with numbers -/
def regs (n i k : Int) (m : Nat) : List Value := (st0 n i k).take m
def zeroM : Array Value := #[.slice none 0 0, .int .i64 0, .int .i64 0, .slice none 0 0, .int .i64 0, .int .i64 0, .int .i64 0, .int .i64 0]
def RefOK (w : World) (l : List Ins) (A : Option Addr) (c : Nat) (cells words fuel n i k : Int) (e : Ending) (w' : World) : Prop :=
  Below w.heap.size w w' ∧ if newE l cells words fuel = 0 then ∃ R cr, e = .returned (.tuple #[.agg #[.slice A l.length c, .int .i64 words, .int .i64 fuel, .slice R 16 cr, .int .i64 0, .int .i64 0, .int .i64 0, .int .i64 0], .int .i64 0]) ∧ Row w' 2 1 (.slice R 16 cr) 16 (regs n i k 16)
    else e = .returned (.tuple #[.agg zeroM, .int .i64 (newE l cells words fuel)])
theorem info_i64 : (Try.prog.info? 2).map (fun i => (i.zero, i.size, i.bytes)) = some (some (.int .i64 0), 1, 8) := by kernel_rfl
theorem heap_sets {g j : Nat} (hj : j ≠ g) : ∀ (vs : List Value) (o : Nat) {w : World}, (w.setCells g o vs).heap[j]? = w.heap[j]?
  | [], _, _ => rfl
  | v :: r, o, w => by
    rw [World.setCells, heap_sets hj r (o + 1)]
    exact Below.heap_setCell w _ v j hj
def lenV : Value → Nat | .slice _ n _ => n | _ => 0
theorem regs_step (n i k : Int) {m : Nat} (h3 : 3 ≤ m) (h : m < 16) : regs n i k (m + 1) = regs n i k m ++ [.int .i64 0] := by
  have hm : m = 3 ∨ m = 4 ∨ m = 5 ∨ m = 6 ∨ m = 7 ∨ m = 8 ∨ m = 9 ∨ m = 10 ∨ m = 11 ∨ m = 12 ∨ m = 13 ∨ m = 14 ∨ m = 15 := by omega
  rcases hm with rfl | rfl | rfl | rfl | rfl | rfl | rfl | rfl | rfl | rfl | rfl | rfl | rfl <;> rfl
theorem m_at {w : World} {g : Nat} {t : TypeId} (h : w.heap[g]? = some (.cells zeroM t (0, 0))) (v0 v1 v2 v3 v4 v5 v6 v7 : Value) : (w.setCells g 0 [v0, v1, v2, v3, v4, v5, v6, v7]).heap[g]? = some (.cells #[v0, v1, v2, v3, v4, v5, v6, v7] t (0, 0)) := by
  simp only [World.setCells]
  have h1 := (blk_set (blk_set (blk_set (blk_set (blk_set (blk_set (blk_set (blk_set h 0 v0) 1 v1) 2 v2) 3 v3) 4 v4) 5 v5) 6 v6) 7 v7)
  refine h1.trans ?_
  kernel_rfl
theorem results_cell_tmp {P : Program} {fn : Func} {t u : Tmp} {ty : TypeId} {d : TypeDesc} (h : fn.results = #[.cell t ty, .tmp u]) (tmps : Array Value) (w : World) (b : Nat) (cs : List Value) (ht : tmps.getD t undef = .pointer (some ⟨b, 0, none⟩)) (hc : w.rangeAt b 0 cs) (hu : P.underlying ty = some d) (hd : d.isRow = true) (hi : (P.info? ty).map (·.size) = some cs.length) :
    (results fn tmps).run P w = .ok (.tuple #[.agg cs.toArray, tmps.getD u undef]) w := by
  have ht' : tmps[t]?.getD undef = .pointer (some ⟨b, 0, none⟩) := by simpa using ht
  simp [results, h, ht', asAddr, run_loadVar_mid w b 0 ty cs d hc hu hd hi]
set_option maxRecDepth 100000 in
set_option maxHeartbeats 1000000 in
theorem refNew_calls (W : World) (l : List Ins) (A : Option Addr) (c : Nat) (cells words fuel n i k : Int) (hrd : insRow W l A) (hl : l.length ≤ 100000000) (w : World) (hB : Below W.heap.size W w) :
    Calls Try.prog 25 #[.slice A l.length c, .int .i64 cells, .int .i64 words, .int .i64 fuel, .int .i64 n, .int .i64 i, .int .i64 k] w (RefOK w l A c cells words fuel n i k) := by
  have cC := fun w1 h => refCheck_calls W l A c cells hrd (by omega) w1 h
  obtain ⟨⟨at0, e0⟩, hc⟩ : ∃ r, checkP l cells = r := ⟨_, rfl⟩
  simp only [hc] at cC
  have HC := Lib.hid cC
  have HX := Lib.hid (blk_new w (.cells zeroM 29))
  clear cC hrd
  by_cases hz : e0 = 0
  · subst hz
    by_cases hw1 : words < 1
    · have HS := Lib.hid (show newE l cells words fuel = 130 by unfold newE; rw [hc, if_pos rfl, if_pos (.inl hw1)])
      clear hc
      go_enter Try.func25, Try.ntmps25
      go_wp2_with (first
        | (refine wpList_store_mid (by rfl) 29 _ _ (by rfl) w.heap.size 0 #[.slice none 0 0, .int .i64 0, .int .i64 0, .slice none 0 0, .int .i64 0, .int .i64 0, .int .i64 0, .int .i64 0] (by rfl) (by rfl) hth.out (by kernel_rfl) (by simp [Value.oneCell']) ?_)
        | (go_at_call 39; go_must (refine (HC.out _ (hB.alloc hB.size _)).mono ?_); rintro x w1 ⟨rfl, hb1⟩; have hx1 := below_blk hb1 HX.out (blk_lt HX.out); have hth := Lib.hid (there_at hx1 0 8 (by simp [zeroM])); have HX1 := Lib.hid hx1; clear hx1))
      refine bodyPost_ret (results_cell_tmp rfl _ _ w.heap.size [.slice none 0 0, .int .i64 0, .int .i64 0, .slice none 0 0, .int .i64 0, .int .i64 0, .int .i64 0, .int .i64 0] rfl (range_at (m_at HX1.out _ _ _ _ _ _ _ _) 0 _ rfl) Try.underlying29 rfl (by kernel_rfl)) rfl ?_
      refine ⟨below_sets (Nat.le_refl _) _ 0 (((Below.refl w.heap.size w).al).trans (hb1.mono (by simp))), ?_⟩
      rw [HS.out]
      exact rfl
    · by_cases hw2 : 64 < words
      · have HS := Lib.hid (show newE l cells words fuel = 130 by unfold newE; rw [hc, if_pos rfl, if_pos (.inr hw2)])
        have hw2' : words > 64 := hw2
        clear hc
        go_enter Try.func25, Try.ntmps25
        go_wp2_with (first
          | (refine wpList_store_mid (by rfl) 29 _ _ (by rfl) w.heap.size 0 #[.slice none 0 0, .int .i64 0, .int .i64 0, .slice none 0 0, .int .i64 0, .int .i64 0, .int .i64 0, .int .i64 0] (by rfl) (by rfl) hth.out (by kernel_rfl) (by simp [Value.oneCell']) ?_)
          | (go_at_call 39; go_must (refine (HC.out _ (hB.alloc hB.size _)).mono ?_); rintro x w1 ⟨rfl, hb1⟩; have hx1 := below_blk hb1 HX.out (blk_lt HX.out); have hth := Lib.hid (there_at hx1 0 8 (by simp [zeroM])); have HX1 := Lib.hid hx1; clear hx1))
        refine bodyPost_ret (results_cell_tmp rfl _ _ w.heap.size [.slice none 0 0, .int .i64 0, .int .i64 0, .slice none 0 0, .int .i64 0, .int .i64 0, .int .i64 0, .int .i64 0] rfl (range_at (m_at HX1.out _ _ _ _ _ _ _ _) 0 _ rfl) Try.underlying29 rfl (by kernel_rfl)) rfl ?_
        refine ⟨below_sets (Nat.le_refl _) _ 0 (((Below.refl w.heap.size w).al).trans (hb1.mono (by simp))), ?_⟩
        rw [HS.out]
        exact rfl
      · by_cases hf1 : fuel < 1
        · have HS := Lib.hid (show newE l cells words fuel = 110 by unfold newE; rw [hc, if_pos rfl, if_neg (by omega), if_pos (.inl hf1)])
          have hw2' : ¬ (words > 64) := hw2
          clear hc
          go_enter Try.func25, Try.ntmps25
          go_wp2_with (first
            | (refine wpList_store_mid (by rfl) 29 _ _ (by rfl) w.heap.size 0 #[.slice none 0 0, .int .i64 0, .int .i64 0, .slice none 0 0, .int .i64 0, .int .i64 0, .int .i64 0, .int .i64 0] (by rfl) (by rfl) hth.out (by kernel_rfl) (by simp [Value.oneCell']) ?_)
            | (go_at_call 39; go_must (refine (HC.out _ (hB.alloc hB.size _)).mono ?_); rintro x w1 ⟨rfl, hb1⟩; have hx1 := below_blk hb1 HX.out (blk_lt HX.out); have hth := Lib.hid (there_at hx1 0 8 (by simp [zeroM])); have HX1 := Lib.hid hx1; clear hx1))
          refine bodyPost_ret (results_cell_tmp rfl _ _ w.heap.size [.slice none 0 0, .int .i64 0, .int .i64 0, .slice none 0 0, .int .i64 0, .int .i64 0, .int .i64 0, .int .i64 0] rfl (range_at (m_at HX1.out _ _ _ _ _ _ _ _) 0 _ rfl) Try.underlying29 rfl (by kernel_rfl)) rfl ?_
          refine ⟨below_sets (Nat.le_refl _) _ 0 (((Below.refl w.heap.size w).al).trans (hb1.mono (by simp))), ?_⟩
          rw [HS.out]
          exact rfl
        · by_cases hf2 : 4000 < fuel
          · have HS := Lib.hid (show newE l cells words fuel = 110 by unfold newE; rw [hc, if_pos rfl, if_neg (by omega), if_pos (.inr hf2)])
            have hw2' : ¬ (words > 64) := hw2
            have hf2' : fuel > 4000 := hf2
            clear hc
            go_enter Try.func25, Try.ntmps25
            go_wp2_with (first
              | (refine wpList_store_mid (by rfl) 29 _ _ (by rfl) w.heap.size 0 #[.slice none 0 0, .int .i64 0, .int .i64 0, .slice none 0 0, .int .i64 0, .int .i64 0, .int .i64 0, .int .i64 0] (by rfl) (by rfl) hth.out (by kernel_rfl) (by simp [Value.oneCell']) ?_)
              | (go_at_call 39; go_must (refine (HC.out _ (hB.alloc hB.size _)).mono ?_); rintro x w1 ⟨rfl, hb1⟩; have hx1 := below_blk hb1 HX.out (blk_lt HX.out); have hth := Lib.hid (there_at hx1 0 8 (by simp [zeroM])); have HX1 := Lib.hid hx1; clear hx1))
            refine bodyPost_ret (results_cell_tmp rfl _ _ w.heap.size [.slice none 0 0, .int .i64 0, .int .i64 0, .slice none 0 0, .int .i64 0, .int .i64 0, .int .i64 0, .int .i64 0] rfl (range_at (m_at HX1.out _ _ _ _ _ _ _ _) 0 _ rfl) Try.underlying29 rfl (by kernel_rfl)) rfl ?_
            refine ⟨below_sets (Nat.le_refl _) _ 0 (((Below.refl w.heap.size w).al).trans (hb1.mono (by simp))), ?_⟩
            rw [HS.out]
            exact rfl
          · have hd1 : decide (words < 1) = false := by simp; omega
            have hd2 : decide (64 < words) = false := by simp; omega
            have hd3 : decide (fuel < 1) = false := by simp; omega
            have hd4 : decide (4000 < fuel) = false := by simp; omega
            have HS := Lib.hid (show newE l cells words fuel = 0 by unfold newE; rw [hc, if_pos rfl, if_neg (by omega), if_neg (by omega)])
            clear hc hw1 hw2 hf1 hf2
            go_enter Try.func25, Try.ntmps25
            go_wp2_with (go_at_call 39; go_must (refine (HC.out _ (hB.alloc hB.size _)).mono ?_); rintro x w1 ⟨rfl, hb1⟩; have hx1 := below_blk hb1 HX.out (blk_lt HX.out); have HX1 := Lib.hid hx1; clear hx1)
            go_loopw [18] (fun v wr => ∃ (m : Nat) (R : Option Addr) (cr : Nat), v = .slice R m cr ∧ 3 ≤ m ∧ m ≤ 16 ∧ Hid (Row wr 2 1 (.slice R m cr) m (regs n i k m)) ∧ Hid (∀ g, (Value.slice R m cr).ownBlock = some g → w1.heap.size ≤ g) ∧ Hid (Below w1.heap.size w1 wr)) (fun v _ => 16 - lenV v)
            case atStart =>
              refine ⟨3, _, _, rfl, Nat.le_refl _, by decide, ?_, ?_, Lib.hid (Below.refl _ _).al⟩
              · exact Lib.hid (Row.laid (w := w1) (cs := #[.int .i64 n, .int .i64 i, .int .i64 k]) rfl rfl (by decide))
              · refine Lib.hid fun g hg => ?_
                simp [Value.ownBlock] at hg
                omega
            case round =>
              obtain ⟨m, R, cr, rfl, hm3, hm16, HR, HO, HB⟩ := hrel
              by_cases hlt : m < 16
              · have hlt' : ((m : Int) < 16) := by omega
                have hrs := Lib.hid (regs_step n i k hm3 hlt)
                go_wp2_with (at_builtin; go_must (refine wpList_append_row _ rfl _ _ 25 rfl 2 (.int .i64 0) 1 8 Try.underlying25 info_i64 rfl (.slice R m cr) _ _ rfl (HR.out.keep fun g hg => Below.heap_alloc _ _ g (HR.out.lt hg)) ⟨_, 0, none⟩ 1 1 [.int .i64 0] rfl rfl (cell_one_new _ _ _) (by simp [Value.oneCell']) (by decide) (by unfold maxLen; omega) (by omega) ?_); intro v3 w3 hr3 hg3 hn3; obtain ⟨R3, c3, hv3, hl3⟩ := hr3.slice; subst hv3)
                go_roundw
                case rel =>
                  refine ⟨m + 1, R3, c3, rfl, by omega, by omega, ?_, ?_, ?_⟩
                  · refine Lib.hid ?_
                    rw [hrs.out]
                    exact hr3
                  · refine Lib.hid fun g hg => ?_
                    rcases hn3 with h | h
                    · exact HO.out g (h ▸ hg)
                    · rw [hg] at h; have h := Option.some.inj h; have := HB.out.size; simp at h; omega
                  · exact Lib.hid (Below.grown (HB.out.alloc HB.out.size _) hg3 (by have := HB.out.size; simp; omega) HO.out)
                case measure => simp [lenV]; omega
              · have hm : m = 16 := by omega
                subst hm
                have hx2 := below_blk HB.out HX1.out (blk_lt HX1.out)
                have hth := Lib.hid (there_at hx2 0 8 (by simp [zeroM]))
                have HX2 := Lib.hid hx2
                clear hx2
                go_wp2_with (refine wpList_store_mid (by rfl) 29 _ _ (by rfl) w.heap.size 0 #[.slice A l.length c, .int .i64 words, .int .i64 fuel, .slice R 16 cr, .int .i64 0, .int .i64 0, .int .i64 0, .int .i64 0] (by rfl) (by rfl) hth.out (by kernel_rfl) (by simp [Value.oneCell']) ?_)
                refine bodyPost_ret (results_cell_tmp rfl _ _ w.heap.size [.slice A l.length c, .int .i64 words, .int .i64 fuel, .slice R 16 cr, .int .i64 0, .int .i64 0, .int .i64 0, .int .i64 0] rfl (range_at (m_at HX2.out _ _ _ _ _ _ _ _) 0 _ rfl) Try.underlying29 rfl (by kernel_rfl)) rfl ?_
                have h1 : Below w.heap.size w w1 := ((Below.refl w.heap.size w).al).trans (hb1.mono (by simp))
                have hlt1 : w.heap.size < w1.heap.size := blk_lt HX1.out
                refine ⟨below_sets (Nat.le_refl _) _ 0 (h1.trans (HB.out.mono h1.size)), ?_⟩
                rw [HS.out, if_pos rfl]
                refine ⟨R, cr, rfl, HR.out.keep fun g hg => ?_⟩
                have hge := HO.out g hg
                exact heap_sets (by omega) _ _
  · have hz' : (e0 == 0) = false := by simp [hz]
    have HS := Lib.hid (show newE l cells words fuel = e0 by unfold newE; rw [hc, if_neg hz])
    clear hc
    go_enter Try.func25, Try.ntmps25
    go_wp2_with (first
      | (refine wpList_store_mid (by rfl) 29 _ _ (by rfl) w.heap.size 0 #[.slice none 0 0, .int .i64 0, .int .i64 0, .slice none 0 0, .int .i64 0, .int .i64 0, .int .i64 0, .int .i64 0] (by rfl) (by rfl) hth.out (by kernel_rfl) (by simp [Value.oneCell']) ?_)
      | (go_at_call 39; go_must (refine (HC.out _ (hB.alloc hB.size _)).mono ?_); rintro x w1 ⟨rfl, hb1⟩; have hx1 := below_blk hb1 HX.out (blk_lt HX.out); have hth := Lib.hid (there_at hx1 0 8 (by simp [zeroM])); have HX1 := Lib.hid hx1; clear hx1))
    refine bodyPost_ret (results_cell_tmp rfl _ _ w.heap.size [.slice none 0 0, .int .i64 0, .int .i64 0, .slice none 0 0, .int .i64 0, .int .i64 0, .int .i64 0, .int .i64 0] rfl (range_at (m_at HX1.out _ _ _ _ _ _ _ _) 0 _ rfl) Try.underlying29 rfl (by kernel_rfl)) rfl ?_
    refine ⟨below_sets (Nat.le_refl _) _ 0 (((Below.refl w.heap.size w).al).trans (hb1.mono (by simp))), ?_⟩
    rw [HS.out, if_neg hz]
    exact rfl
end Go.Proofs.Ytnikcdcaaeljmaa.My
namespace Go.Proofs.Ytnikcdcaaeljmaa.My
open Go.RowKit
theorem results_cell {P : Program} {fn : Func} {t : Tmp} {ty : TypeId} {d : TypeDesc} (h : fn.results = #[.cell t ty]) (tmps : Array Value) (w : World) (b : Nat) (cs : List Value) (ht : tmps.getD t undef = .pointer (some ⟨b, 0, none⟩)) (hc : w.rangeAt b 0 cs) (hu : P.underlying ty = some d) (hd : d.isRow = true) (hi : (P.info? ty).map (·.size) = some cs.length) :
    (results fn tmps).run P w = .ok (.agg cs.toArray) w := by
  have ht' : tmps[t]?.getD undef = .pointer (some ⟨b, 0, none⟩) := by simpa using ht
  simp [results, h, ht', asAddr, run_loadVar_mid w b 0 ty cs d hc hu hd hi]
/-- a machine in memory: its state's cells, its text, its bounds, its first state's cells -/
def vmAt (w : World) (p : Nat) (st : List Value) (code : Value) (words fuel : Int) (first : List Value) : Prop := w.heap[p]? = some (.cells (vmCells st code words fuel first) 79 (0, 0)) ∧ st.length = 20 ∧ first.length = 20
theorem vmAt.keep {w w' : World} {p : Nat} {st first : List Value} {code : Value} {words fuel : Int} (h : vmAt w p st code words fuel first) (hB : Below w.heap.size w w') : vmAt w' p st code words fuel first :=
  ⟨below_blk hB h.1 (blk_lt h.1), h.2⟩
theorem vmAt.range {w : World} {p : Nat} {st first : List Value} {code : Value} {words fuel : Int} (h : vmAt w p st code words fuel first) : w.rangeAt p 0 st := by
  refine range_at h.1 0 st ?_
  simp only [vmCells, List.drop_zero, List.append_assoc]
  exact List.take_left
theorem there_new {w : World} {arr : Array Value} {t : TypeId} (n : Nat) (hn : n ≤ arr.size) : (w.alloc (.cells arr t)).there w.heap.size 0 n := there_at (blk_new w _) 0 n (by omega)
theorem range_sets (w : World) (b : Nat) (vs : List Value) (h : w.there b 0 vs.length) : (w.setCells b 0 vs).rangeAt b 0 vs := World.rangeAt_setCells_same w b 0 vs h
set_option maxRecDepth 100000 in
theorem now_calls (w : World) (p : Nat) (st first : List Value) (code : Value) (words fuel : Int) (hone : ∀ u ∈ st, u.oneCell' = true) (h : vmAt w p st code words fuel first) :
    Calls Try.prog 16 #[.pointer (some ⟨p, 0, none⟩)] w fun e w' => e = .returned (.agg st.toArray) ∧ Below w.heap.size w w' := by
  have hrg := Lib.hid (fun o => (vmAt.keep h ((Below.refl w.heap.size w).al (o := o))).range)
  have hlen := Lib.hid h.2.1
  have hone := Lib.hid hone
  clear h
  go_enter Try.func16, Try.ntmps16
  go_wp2_with (first
    | (refine wpList_load_mid (by rfl) 45 _ (by rfl) p 0 (by rfl) st _ (hrg.out _) Try.underlying45 rfl (by rw [hlen.out]; kernel_rfl) ?_)
    | (refine wpList_store_mid (by rfl) 45 _ _ (by rfl) w.heap.size 0 st.toArray (by rfl) (by rfl) (there_new _ (by simp [hlen.out])) (by rw [List.size_toArray, hlen.out]; kernel_rfl) (all_oneCell_toArray hone.out) ?_))
  refine bodyPost_ret (results_cell rfl _ _ w.heap.size st rfl (range_sets _ _ _ (there_new _ (by simp [hlen.out]))) Try.underlying45 rfl (by rw [hlen.out]; kernel_rfl)) rfl ?_
  exact ⟨rfl, below_sets (Nat.le_refl _) _ 0 (Below.refl w.heap.size w).al⟩
/-- a state's cells -/
def stv (rg : List Value) (at0 steps over value : Int) : List Value := rg ++ [.int .i64 at0, .int .i64 steps, .int .i64 over, .int .i64 value]
theorem blk_sets {g : Nat} {t : TypeId} : ∀ (vs : List Value) (o : Nat) (w : World) (arr : Array Value), o + vs.length ≤ arr.size → w.heap[g]? = some (.cells arr t (0, 0)) →
    (w.setCells g o vs).heap[g]? = some (.cells (arr.toList.take o ++ vs ++ arr.toList.drop (o + vs.length)).toArray t (0, 0))
  | [], o, w, arr, _, h => by simpa [World.setCells] using h
  | v :: r, o, w, arr, hl, h => by
    have hl' : o < arr.toList.length := by simp at hl ⊢; omega
    have e := blk_sets r (o + 1) (w.setCell ⟨g, o, none⟩ v) (arr.setIfInBounds o v) (by simp at hl ⊢; omega) (blk_set h o v)
    rw [World.setCells, e]
    congr 3
    rw [Array.toList_setIfInBounds, List.set_eq_take_append_cons_drop, if_pos hl']
    have ht : (arr.toList.take o).length = o := by simp at hl' ⊢; omega
    rw [show o + 1 + r.length = o + (r.length + 1) by omega]
    rw [List.take_append, List.drop_append, ht]
    simp only [show o + 1 - o = 1 by omega, show o + (r.length + 1) - o = r.length + 1 by omega, List.take_succ_cons, List.take_zero, List.drop_succ_cons, List.length_cons, List.append_assoc, List.cons_append, List.nil_append]
    rw [List.take_of_length_le (by omega), List.drop_of_length_le (by omega), List.nil_append, List.drop_drop]
    rw [show o + 1 + r.length = o + (r.length + 1) by omega]
theorem vmAt.set {w : World} {p : Nat} {st first vs : List Value} {code : Value} {words fuel : Int} (h : vmAt w p st code words fuel first) (hv : vs.length = 20) : vmAt (w.setCells p 0 vs) p vs code words fuel first := by
  obtain ⟨h1, h2, h3⟩ := h
  refine ⟨?_, hv, h3⟩
  rw [blk_sets vs 0 w _ (by simp [vmCells]; omega) h1]
  congr 2
  simp only [vmCells, hv, List.take_zero, List.nil_append, Nat.zero_add, List.append_assoc]
  rw [← h2, List.drop_left]
end Go.Proofs.Ytnikcdcaaeljmaa.My
namespace Go.Proofs.Ytnikcdcaaeljmaa.My
open Go.RowKit
theorem keep_sets {g : Nat} : ∀ (vs : List Value) (o : Nat) {w0 w : World}, Keep (fun k => k = g) w0 w → Keep (fun k => k = g) w0 (w.setCells g o vs)
  | [], _, _, _, h => h
  | v :: r, o, _, _, h => keep_sets r (o + 1) (h.set (p := ⟨g, o, none⟩) (.inl rfl) v)
theorem below_drewN {B : Nat} {a w : World} (h : Below B a w) (n : Nat) : Below B a (w.drewN n) := ⟨h.os, h.tape, h.output, h.size, h.block⟩
theorem vm_drewN {w : World} {p : Nat} {st first : List Value} {code : Value} {words fuel : Int} (h : vmAt w p st code words fuel first) (n : Nat) : vmAt (w.drewN n) p st code words fuel first := h
theorem range_drewN {w : World} {b o : Nat} {cs : List Value} (h : w.rangeAt b o cs) (n : Nat) : (w.drewN n).rangeAt b o cs := h
theorem there_drewN {w : World} {b o m : Nat} (h : w.there b o m) (n : Nat) : (w.drewN n).there b o m := h
end Go.Proofs.Ytnikcdcaaeljmaa.My
