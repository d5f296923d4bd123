/- The maker of instructions in memory; one instruction more, the next register, a target set. Conditions: the maker lies in memory behind the world W, in which its registers were. -/
import Derived.Test.YtjlnpppjkdcpkaaGmGnP
import Derived.Test.YtjlnpppjkdcpkaaGmEvU
namespace Go.Proofs.Ytjlnpppjkdcpkaa.My
open Go.RowKit Go.Proofs.Ytjlnpppjkdcpkaa.NumA
set_option linter.unusedVariables false
set_option linter.unusedSimpArgs false
def insCells : List Ins → List Value
  | [] => []
  | x :: l => x.cells ++ insCells l
theorem insCells_app : ∀ (l m : List Ins), insCells (l ++ m) = insCells l ++ insCells m
  | [], m => rfl
  | x :: l, m => by simp [insCells, insCells_app l m]
theorem insCells_get : ∀ (l : List Ins) (j m : Nat) (hj : j < l.length), m < 6 → (insCells l)[j * 6 + m]? = (l[j].cells)[m]?
  | x :: l, 0, m, _, hm => by
    rw [insCells, Nat.zero_mul, Nat.zero_add, List.getElem?_append_left (by simpa [Ins.cells] using hm)]; rfl
  | x :: l, j + 1, m, hj, hm => by
    have := insCells_get l j m (by simpa using hj) hm
    rw [insCells, show (j + 1) * 6 + m = x.cells.length + (j * 6 + m) by simp [Ins.cells]; omega, List.getElem?_append_right (by omega), Nat.add_sub_cancel_left]
    simpa using this
theorem insCells_set : ∀ (l : List Ins) (j m : Nat) (hj : j < l.length) (y : Ins) (u : Value), m < 6 → y.cells = (l[j].cells).set m u → (insCells l).set (j * 6 + m) u = insCells (l.set j y)
  | x :: l, 0, m, _, y, u, hm, h => by
    simp only [List.getElem_cons_zero] at h
    rw [insCells, Nat.zero_mul, Nat.zero_add, List.set_append_left _ _ (by simpa [Ins.cells] using hm), List.set_cons_zero, insCells, h]
  | x :: l, j + 1, m, hj, y, u, hm, h => by
    have := insCells_set l j m (by simpa using hj) y u hm (by simpa using h)
    rw [insCells, show (j + 1) * 6 + m = x.cells.length + (j * 6 + m) by simp [Ins.cells]; omega, List.set_append_right _ _ (by omega), Nat.add_sub_cancel_left, this, List.set_cons_succ, insCells]
theorem insCells_one (l : List Ins) : ∀ u ∈ insCells l, u.oneCell' = true := by
  induction l with
  | nil => intro u hu; cases hu
  | cons x l ih =>
    intro u hu
    rw [insCells] at hu
    rcases List.mem_append.1 hu with h | h
    · simp only [Ins.cells, List.mem_cons, List.not_mem_nil, or_false] at h
      rcases h with rfl | rfl | rfl | rfl | rfl | rfl <;> rfl
    · exact ih u h
theorem Row.putZ {w : World} {t : TypeId} {z g c n : Nat} {xs : List Value} (h : Row w t z (.slice (some ⟨g, 0, none⟩) n c) n xs) (j : Nat) (u : Value) : Row (w.setCell ⟨g, j, none⟩ u) t z (.slice (some ⟨g, 0, none⟩) n c) n (xs.set j u) := by
  refine ⟨by simpa using h.1, ?_⟩
  rcases h.2 with ⟨h2, _⟩ | ⟨g', cap, cur, h2, hg, h3, h4, h5, h6⟩
  · cases h2
  · injection h2 with h2 _ h7
    injection h2 with h2; injection h2 with h2 _ _
    subst h2; subst h7
    refine .inr ⟨g, c, _, rfl, blk_set hg j u, h3, h4, by simpa using h5, ?_⟩
    rw [Array.toList_setIfInBounds, List.take_set, h6]
theorem info_ins : (Try.prog.info? 42).map (fun i => (i.zero, i.size, i.bytes)) = some (some (.agg #[.int .i64 0, .int .i64 0, .int .i64 0, .int .i64 0, .int .i64 0, .int .i64 0]), 6, 48) := by kernel_rfl
/-- a maker at p -/
structure GnAt (W w : World) (p : Nat) (G : Gn) (O : Value) (A : Option Addr) (c : Nat) : Prop where
  blk : w.heap[p]? = some (.cells #[O, .slice A G.slots.length c] 73 (0, 0))
  out : Row w 42 6 O G.out.length (insCells G.out)
  slots : numRow W G.slots A
  cap : G.slots.length ≤ c ∧ c ≤ maxLen
  fo : ∀ g, O.ownBlock = some g → W.heap.size ≤ g
  hp : W.heap.size ≤ p
theorem GnAt.below {W w w' : World} {p : Nat} {G : Gn} {O : Value} {A : Option Addr} {c : Nat} (h : GnAt W w p G O A c) (hB : Below w.heap.size w w') : GnAt W w' p G O A c := ⟨below_blk hB h.blk (blk_lt h.blk), h.out.below hB, h.slots, h.cap, h.fo, h.hp⟩
/-- what a call of the maker may change -/
def GnOwn (p : Nat) (O : Value) (q : Nat) : Prop := q = p ∨ O.ownBlock = some q
/-- the maker behind a call, and what was kept -/
def GnTo (W w : World) (p : Nat) (O : Value) (w' : World) (G' : Gn) : Prop := ∃ O' A' c', GnAt W w' p G' O' A' c' ∧ Keep (GnOwn p O) w w' ∧ ∀ q, O'.ownBlock = some q → O.ownBlock = some q ∨ w.heap.size ≤ q
theorem GnTo.trans {W w w1 w2 : World} {p : Nat} {O O1 : Value} {A1 : Option Addr} {c1 : Nat} {G1 G2 : Gn} (h1 : GnAt W w1 p G1 O1 A1 c1) (k1 : Keep (GnOwn p O) w w1) (o1 : ∀ q, O1.ownBlock = some q → O.ownBlock = some q ∨ w.heap.size ≤ q) (h2 : GnTo W w1 p O1 w2 G2) : GnTo W w p O w2 G2 := by
  obtain ⟨O2, A2, c2, a2, k2, o2⟩ := h2
  refine ⟨O2, A2, c2, a2, k1.trans k2 fun q hq h => ?_, fun q hq => ?_⟩
  · rcases h with rfl | h
    · exact .inl rfl
    · rcases o1 q h with h | h
      · exact .inr h
      · omega
  · rcases o2 q hq with h | h
    · exact o1 q h
    · exact .inr (Nat.le_trans k1.size h)
theorem GnTo.below {W w w' : World} {p : Nat} {G G' : Gn} {O : Value} {A : Option Addr} {c : Nat} (h : GnAt W w p G O A c) (hB : Below W.heap.size W w) (h2 : GnTo W w p O w' G') : Below W.heap.size W w' := by
  obtain ⟨O2, A2, c2, a2, k2, o2⟩ := h2
  refine hB.trans (k2.toBelow hB.size fun q hq => ?_)
  rcases hq with rfl | hq
  · exact h.hp
  · exact h.fo q hq
/-- a block that is no part of the maker is kept -/
theorem GnTo.blk {W w w' : World} {p : Nat} {G G' : Gn} {O : Value} {A : Option Addr} {c : Nat} (h : GnAt W w p G O A c) (h2 : GnTo W w p O w' G') {g : Nat} {o : Obj} (hg : w.heap[g]? = some o) (hn : ¬ GnOwn p O g) : w'.heap[g]? = some o := by
  obtain ⟨O2, A2, c2, a2, k2, o2⟩ := h2
  exact k2.blk hg hn
theorem GnTo.drew {W w w' : World} {p : Nat} {G' : Gn} {O : Value} (h : GnTo W w p O w' G') : GnTo W w p O w'.drew G' := by
  obtain ⟨O2, A2, c2, a2, k2, o2⟩ := h
  exact ⟨O2, A2, c2, ⟨a2.blk, a2.out, a2.slots, a2.cap, a2.fo, a2.hp⟩, k2.drew, o2⟩
theorem drop_num {W : World} {l : List Int} {A : Option Addr} (h : numRow W l A) : numRow W (l.drop 1) (A.map (·.add 1)) := fun j hj => by
  have hj' : j < l.length - 1 := by simpa using hj
  obtain ⟨b, o, h1, h2⟩ := h (j + 1) (by omega)
  subst h1
  refine ⟨b, o + 1, ?_, ?_⟩
  · show some ((⟨b, o, none⟩ : Addr).add 1) = _
    unfold Addr.add; split <;> simp_all
  · rw [show o + 1 + j = o + (j + 1) by omega, h2]
    simp [Nat.add_comm]
theorem elem_ints : Try.prog.underlying 68 = some (.slice (Try.prog.elem 68)) := by kernel_rfl
theorem size_ints (w : World) : (sizeOf (Try.prog.elem 68)).run Try.prog w = .ok 1 w := by kernel_rfl
set_option maxRecDepth 100000 in
theorem slotX_calls (W w : World) (p : Nat) (G : Gn) (O : Value) (A : Option Addr) (c : Nat) (h : GnAt W w p G O A c) (hB : Below W.heap.size W w) (h0 : 0 < G.slots.length) :
    Calls Try.prog 86 #[.pointer (some ⟨p, 0, none⟩)] w fun E w' => E = .returned (.int .i64 (G.slots.getD 0 0)) ∧ ∃ A' c', GnAt W w' p (G.skip 1) O A' c' ∧ Keep (fun q => q = p) w w' := by
  obtain ⟨b, o, hA, hx⟩ := h.slots 0 h0
  subst hA
  have hcap := h.cap.1
  have hc := h.cap.2
  have q0 : w.cell? ⟨p, 1, none⟩ = some (.slice (some ⟨b, o, none⟩) G.slots.length c) := blk_cell h.blk 1
  have q1 : w.cell? ⟨b, o, none⟩ = some (.int .i64 (G.slots.getD 0 0)) := by
    have h9 := hB.cellOf hx
    rw [Nat.add_zero] at h9
    rw [h9]; simp [List.getD, h0]
  have pf : w.frozen? ⟨p, 1, none⟩ = false := blk_free h.blk 1
  obtain ⟨v, hv⟩ : ∃ v, G.slots.getD 0 0 = v := ⟨_, rfl⟩
  rw [hv] at q1 ⊢
  obtain ⟨A', hA'⟩ : ∃ A', (if c = 1 then (some ⟨b, o, none⟩ : Option Addr) else (some ⟨b, o, none⟩ : Option Addr).map (·.add 1)) = A' := ⟨_, rfl⟩
  have hsl : ∀ w, (Instr.sliceAt 68 (.slice (some ⟨b, o, none⟩) G.slots.length c) (some (.int .i64 1)) none none).run Try.prog w = .ok (.slice A' (G.slots.length - 1) (c - 1)) w := fun w => by
    have h := run_cut_from (P := Try.prog) w 68 elem_ints 1 size_ints (some ⟨b, o, none⟩) G.slots.length c 1 h0
    rw [← hA']
    exact h
  have hn : G.slots.length ≤ maxLen := Nat.le_trans hcap hc
  unfold maxLen at hn
  have HF := Lib.hid (show ∃ A2 c2, GnAt W (w.setCell ⟨p, 1, none⟩ (.slice A' (G.slots.length - 1) (c - 1))) p (G.skip 1) O A2 c2 ∧ Keep (fun q => q = p) w (w.setCell ⟨p, 1, none⟩ (.slice A' (G.slots.length - 1) (c - 1))) from by
    have hl : (G.skip 1).slots.length = G.slots.length - 1 := by simp [Gn.skip]
    refine ⟨A', c - 1, ⟨?_, rowSet h.out (h.out.ne h.blk (by decide)), ?_, ⟨by rw [hl]; omega, Nat.le_trans (Nat.sub_le _ _) hc⟩, h.fo, h.hp⟩, Keep.set (O := fun q => q = p) (Keep.refl _ w) (p := ⟨p, 1, none⟩) (.inl rfl) _⟩
    · rw [hl]; exact blk_set h.blk 1 _
    · by_cases hc1 : c = 1
      · intro j hj
        rw [hl] at hj
        omega
      · rw [if_neg hc1] at hA'
        rw [← hA']
        exact drop_num h.slots)
  clear h hx hA' hv
  go_enter Try.func86, Try.ntmps86
  go_wp2
  go_ret
  exact ⟨rfl, HF.out⟩
theorem slot_calls (W w : World) (p : Nat) (G : Gn) (O : Value) (A : Option Addr) (c : Nat) (h : GnAt W w p G O A c) (hB : Below W.heap.size W w) (h0 : 0 < G.slots.length) :
    Calls Try.prog 86 #[.pointer (some ⟨p, 0, none⟩)] w fun E w' => E = .returned (.int .i64 (G.slots.getD 0 0)) ∧ GnTo W w p O w' (G.skip 1) := by
  refine (slotX_calls W w p G O A c h hB h0).mono ?_
  rintro E w' ⟨rfl, A', c', g, k⟩
  exact ⟨rfl, O, A', c', g, ⟨k.os, k.tape, k.output, k.size, fun q hq hn => k.block q hq fun e => hn (.inl e)⟩, fun q hq => .inl hq⟩
theorem Gn.put_cells (G : Gn) (x : Ins) : insCells (G.put x).out = insCells G.out ++ x.cells := by simp [Gn.put, insCells_app, insCells]
theorem GnAt.pushed {W w w0 w' : World} {p : Nat} {G : Gn} {AX A A' : Option Addr} {c cX c' : Nat} {X : Obj} {x : Ins} (h : GnAt W w0 p G (.slice AX G.out.length cX) A c) (k : Keep (GnOwn p (.slice AX G.out.length cX)) w w0) (hW : W.heap.size ≤ w.heap.size)
    (hg : (w0.alloc X).grownBy w' (Value.slice AX G.out.length cX).ownBlock) (hr : Row w' 42 6 (.slice A' (G.out.length + 1) c') (G.out.length + 1) (insCells G.out ++ x.cells))
    (ho : (Value.slice A' (G.out.length + 1) c').ownBlock = (Value.slice AX G.out.length cX).ownBlock ∨ (Value.slice A' (G.out.length + 1) c').ownBlock = some (w0.alloc X).heap.size) :
    GnTo W w p (.slice AX G.out.length cX) (w'.setCell ⟨p, 0, none⟩ (.slice A' (G.out.length + 1) c')) (G.put x) := by
  have hbb := grown_blk hg (blk_alloc h.blk X) (h.out.ne h.blk (by decide))
  have hl : (G.put x).out.length = G.out.length + 1 := by simp [Gn.put]
  have hsz := k.size
  have hown : ∀ q, (Value.slice A' (G.out.length + 1) c').ownBlock = some q → (Value.slice AX G.out.length cX).ownBlock = some q ∨ w.heap.size ≤ q := fun q hq => by
    rcases ho with e | e
    · exact .inl (e ▸ hq)
    · rw [hq] at e; have := Option.some.inj e; rw [size_al] at this; exact .inr (by omega)
  refine ⟨_, A, c, ⟨blk_set hbb 0 _, ?_, h.slots, h.cap, fun q hq => ?_, h.hp⟩, ((k.alloc X).grown hg fun q hq => .inl (.inr hq)).set (p := ⟨p, 0, none⟩) (.inl (.inl rfl)) _, hown⟩
  · rw [hl, Gn.put_cells]
    exact rowSet hr (hr.ne hbb (by decide))
  · rcases hown q hq with e | e
    · exact h.fo q e
    · omega
set_option maxRecDepth 100000 in
set_option maxHeartbeats 1000000 in
theorem put_calls (W w : World) (p : Nat) (G : Gn) (O : Value) (A : Option Addr) (c : Nat) (h : GnAt W w p G O A c) (hB : Below W.heap.size W w) (hl : G.out.length ≤ 1000000) (kk oo aa bb cc nn : Int) :
    Calls Try.prog 33 #[.pointer (some ⟨p, 0, none⟩), .agg #[.int .i64 kk, .int .i64 oo, .int .i64 aa, .int .i64 bb, .int .i64 cc, .int .i64 nn]] w fun E w' => E = .returned (.int .i64 (G.out.length : Int)) ∧ GnTo W w p O w' (G.put ⟨kk, oo, aa, bb, cc, nn⟩) := by
  obtain ⟨AX, cX, hX, _⟩ := h.out.slice
  subst hX
  have hpw := blk_lt h.blk
  have hb0 : Below w.heap.size w (w.alloc (.cells #[.int .i64 kk, .int .i64 oo, .int .i64 aa, .int .i64 bb, .int .i64 cc, .int .i64 nn] 42)) := (Below.refl _ _).al
  have hx0 := blk_new w (.cells #[.int .i64 kk, .int .i64 oo, .int .i64 aa, .int .i64 bb, .int .i64 cc, .int .i64 nn] 42)
  have hz0 := size_al w (.cells #[.int .i64 kk, .int .i64 oo, .int .i64 aa, .int .i64 bb, .int .i64 cc, .int .i64 nn] 42)
  have HW0 := Lib.hid ((Keep.refl (GnOwn p (.slice AX G.out.length cX)) w).alloc (.cells #[.int .i64 kk, .int .i64 oo, .int .i64 aa, .int .i64 bb, .int .i64 cc, .int .i64 nn] 42))
  obtain ⟨w0, hw0⟩ : ∃ w0, w.alloc (.cells #[.int .i64 kk, .int .i64 oo, .int .i64 aa, .int .i64 bb, .int .i64 cc, .int .i64 nn] 42) = w0 := ⟨_, rfl⟩
  rw [hw0] at hb0 hx0 hz0 HW0
  have HG := Lib.hid (h.below hb0)
  have HW := Lib.hid hw0
  obtain ⟨b, hbe⟩ : ∃ b, w.heap.size = b := ⟨_, rfl⟩
  rw [hbe] at hx0 hz0
  have HBE := Lib.hid hbe
  have n1 := fun o => (Below.al (Below.refl w0.heap.size w0) (o := o)).cellOf (show w0.cell? ⟨p, 0, none⟩ = some (.slice AX G.out.length cX) from blk_cell HG.out.blk 0)
  have q1 : w0.cell? ⟨p, 0, none⟩ = some (.slice AX G.out.length cX) := blk_cell HG.out.blk 0
  have x0 := blk_cell hx0 0
  have x1 := blk_cell hx0 1
  have x2 := blk_cell hx0 2
  have x3 := blk_cell hx0 3
  have x4 := blk_cell hx0 4
  have x5 := blk_cell hx0 5
  have HNB := Lib.hid (HG.out.out.ne HG.out.blk (by decide))
  have HR := Lib.hid (HG.out.out.alloc (.cells #[.int .i64 kk, .int .i64 oo, .int .i64 aa, .int .i64 bb, .int .i64 cc, .int .i64 nn] 42))
  have HL := Lib.hid (Row.laid (w := w0) (g := w0.heap.size) (n := 1) (cs := #[.int .i64 kk, .int .i64 oo, .int .i64 aa, .int .i64 bb, .int .i64 cc, .int .i64 nn]) (e := 42) (size := 6) rfl rfl (by decide))
  have HFO := Lib.hid h.fo
  have HHP := Lib.hid h.hp
  have HBB := Lib.hid hB
  have HZ0 := Lib.hid hz0
  clear h hb0 hx0 hw0 hbe hB hz0
  go_enter Try.func33, Try.ntmps33
  go_wp2_with (have tk := HW; clear tk; rw [HW.out, HBE.out]; clear HW)
  go_region_law (first | (refine step_append_rows (by rfl) _ _ 24 (by rfl) 42 (.agg #[.int .i64 0, .int .i64 0, .int .i64 0, .int .i64 0, .int .i64 0, .int .i64 0]) 6 48 Try.underlying24 info_ins rfl (.slice AX G.out.length cX) _ _ (by rfl) (by first | exact HR.out | exact HR.out.drewed) (.slice (some ⟨w0.heap.size, 0, none⟩) 1 1) 1 [.int .i64 kk, .int .i64 oo, .int .i64 aa, .int .i64 bb, .int .i64 cc, .int .i64 nn] (by rfl) (by first | exact HL.out | exact HL.out.drewed) (by simp [Value.oneCell']) (by unfold maxLen; omega) (by omega) ?_; intro v' w' hrow' hgrow hown; obtain ⟨A', c', hv', hc'⟩ := hrow'.slice; subst hv'; have hbb := grown_blk hgrow (blk_alloc HG.out.blk _) HNB.out; have fb := blk_cell hbb 0; have ff := blk_free hbb))
  all_goals
    clear q1 n1 fb ff x0 x1 x2 x3 x4 x5
    have hfin := (GnAt.pushed (x := ⟨kk, oo, aa, bb, cc, nn⟩) HG.out HW0.out HBB.out.size (grown_undrew hgrow) hrow' hown)
    have HF := Lib.hid hfin
    have q9 : (w'.setCell ⟨p, 0, none⟩ (.slice A' (G.out.length + 1) c')).cell? ⟨p, 0, none⟩ = some (.slice A' (G.out.length + 1) c') := blk_cell (blk_set hbb 0 _) 0
    clear hfin hbb hgrow hrow' hown
    go_wp2
    go_ret
    exact ⟨rfl, HF.out⟩
/-- a number of an instruction that was made, made another one -/
theorem GnAt.setAt {W w w1 : World} {p : Nat} {G : Gn} {A : Option Addr} {g c cX i m : Nat} {u : Value} {f : Ins → Ins} (h : GnAt W w1 p G (.slice (some ⟨g, 0, none⟩) G.out.length cX) A c) (k : Keep (GnOwn p (.slice (some ⟨g, 0, none⟩) G.out.length cX)) w w1)
    (hi : i < G.out.length) (hm : m < 6) (hf : (f G.out[i]).cells = (G.out[i].cells).set m u) : GnTo W w p (.slice (some ⟨g, 0, none⟩) G.out.length cX) (w1.setCell ⟨g, i * 6 + m, none⟩ u) (G.upd i f) := by
  have hl : (G.upd i f).out.length = G.out.length := Gn.upd_len _ _ _
  have hgp : g ≠ p := fun e => h.out.ne h.blk (by decide) (by rw [e]; rfl)
  refine ⟨_, A, c, ⟨?_, ?_, h.slots, h.cap, h.fo, h.hp⟩, k.set (p := ⟨g, i * 6 + m, none⟩) (.inl (.inr rfl)) _, fun q hq => .inl hq⟩
  · rw [Gn.upd_slots]
    exact blk_far h.blk (show p ≠ (⟨g, i * 6 + m, none⟩ : Addr).block from fun e => hgp e.symm) u
  · have h1 := h.out.putZ (i * 6 + m) u
    rw [insCells_set _ i m hi (f G.out[i]) u hm hf] at h1
    rw [hl]
    have e : G.out.getD i default = G.out[i] := by simp [List.getD, hi]
    show Row _ _ _ _ _ (insCells (G.out.set i (f (G.out.getD i default))))
    rw [e]
    exact h1
theorem GnAt.outAt {W w : World} {p : Nat} {G : Gn} {O : Value} {A : Option Addr} {c : Nat} (h : GnAt W w p G O A c) {i : Nat} (hi : i < G.out.length) : ∃ g cX, O = .slice (some ⟨g, 0, none⟩) G.out.length cX ∧ G.out.length ≤ cX ∧ ∀ m, w.frozen? ⟨g, m, none⟩ = false := by
  obtain ⟨AX, cX, rfl, hc⟩ := h.out.slice
  have hg := insCells_get G.out i 0 hi (by omega)
  obtain ⟨g, e, _⟩ := h.out.cellA hg
  subst e
  exact ⟨g, cX, rfl, hc, fun m => h.out.freeA m⟩
set_option maxRecDepth 100000 in
set_option maxHeartbeats 1000000 in
theorem here_calls (W w : World) (p : Nat) (G : Gn) (O : Value) (A : Option Addr) (c : Nat) (h : GnAt W w p G O A c) (i : Nat) (hi : i < G.out.length) (hl : G.out.length ≤ 1000000) :
    Calls Try.prog 87 #[.pointer (some ⟨p, 0, none⟩), .int .i64 (i : Int)] w fun E w' => E = .returned (.tuple #[]) ∧ GnTo W w p O w' (G.here i) := by
  obtain ⟨g, cX, rfl, hcx, hfr⟩ := h.outAt hi
  have q0 : w.cell? ⟨p, 0, none⟩ = some (.slice (some ⟨g, 0, none⟩) G.out.length cX) := blk_cell h.blk 0
  have q1 := hfr (i * 6 + 5)
  have hi0 : (0 : Int) ≤ (i : Int) := by omega
  have hi1 : (i : Int) < (G.out.length : Int) := by omega
  obtain ⟨a0, hx⟩ : ∃ a0, w.cell? ⟨g, i * 6 + 5, none⟩ = some (.int .i64 a0) := by
    have h1 := insCells_get G.out i 5 hi (by omega)
    obtain ⟨g', e, h2⟩ := h.out.cellA (u := .int .i64 (G.out[i]).n) (by rw [h1]; rfl)
    simp only [Option.some.injEq, Addr.mk.injEq] at e
    obtain ⟨e, _⟩ := e
    subst e
    exact ⟨_, h2⟩
  have HG := Lib.hid h
  clear h hfr
  go_enter Try.func87, Try.ntmps87
  go_wp2_with fail
  go_still_tail 10, (by kernel_rfl)
  go_wp2_with fail
  have hf := HG.out.setAt (u := .int .i64 (G.out.length : Int)) (f := fun x => { x with n := (G.out.length : Int) }) (Keep.refl _ w) hi (show 5 < 6 by omega) rfl
  first | go_end0 | refine bodyPost_ret (results_none rfl _ _ _) rfl ?_
  exact ⟨rfl, hf.drew⟩
theorem GnAt.drew {W w : World} {p : Nat} {G : Gn} {O : Value} {A : Option Addr} {c : Nat} (h : GnAt W w p G O A c) : GnAt W w.drew p G O A c := ⟨h.blk, h.out, h.slots, h.cap, h.fo, h.hp⟩
/-- a store into a block that is no part of the maker -/
theorem GnAt.far {W w : World} {p : Nat} {G : Gn} {O : Value} {A : Option Addr} {c : Nat} (h : GnAt W w p G O A c) {b i : Nat} {u : Value} (hb : b ≠ p) (ho : O.ownBlock ≠ some b) : GnAt W (w.setCell ⟨b, i, none⟩ u) p G O A c :=
  ⟨blk_far h.blk (show p ≠ (⟨b, i, none⟩ : Addr).block from fun e => hb e.symm) u, rowSet h.out ho, h.slots, h.cap, h.fo, h.hp⟩
end Go.Proofs.Ytjlnpppjkdcpkaa.My
