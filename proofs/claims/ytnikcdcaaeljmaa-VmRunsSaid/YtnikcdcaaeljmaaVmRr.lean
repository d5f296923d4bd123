/- The document's run of instructions on a memory of its own. Conditions: the text and the memory were there in the world W, which is kept; numbers of 64 bits. -/
import Derived.Test.YtnikcdcaaeljmaaVmRt
import Derived.Test.YtnikcdcaaeljmaaVmRw
import Derived.Deep.AppendLies
import Derived.Deep.RegionLaw
namespace Go.Proofs.Ytnikcdcaaeljmaa.My
open Go.RowKit Go.Proofs.Ytnikcdcaaeljmaa.NumA
set_option linter.unusedVariables false
set_option linter.unusedSimpArgs false
theorem info_M : (Try.prog.info? 29).map (·.size) = some 8 := by kernel_rfl
/-- a run's effect in memory: its block b, the rows in blocks from base on -/
structure EffR (w : World) (b base : Nat) (e : Eff) (M O I : Value) : Prop where
  blk : w.heap[b]? = some (.cells (effCells M O I) 63 (0, 0))
  mem : Row w 2 1 M e.mem.length (nums e.mem)
  outs : Row w 2 1 O e.outs.length (nums e.outs)
  intos : Row w 96 2 I e.intos.length (intoCells e.intos)
  fm : ∀ g, M.ownBlock = some g → base ≤ g
  fo : ∀ g, O.ownBlock = some g → base ≤ g
  fi : ∀ g, I.ownBlock = some g → base ≤ g
  mo : ∀ g, M.ownBlock = some g → O.ownBlock ≠ some g
  hb : base ≤ b
theorem EffR.keepO {w w' : World} {b base : Nat} {e : Eff} {M O I : Value} (h : EffR w b base e M O I) {S : Nat → Prop} (k : Keep S w w') (hS : ∀ g, base ≤ g → ¬ S g) : EffR w' b base e M O I :=
  ⟨k.blk h.blk (hS _ h.hb), h.mem.keep fun g hg => k.block g (h.mem.lt hg) (hS _ (h.fm g hg)), h.outs.keep fun g hg => k.block g (h.outs.lt hg) (hS _ (h.fo g hg)), h.intos.keep fun g hg => k.block g (h.intos.lt hg) (hS _ (h.fi g hg)), h.fm, h.fo, h.fi, h.mo, h.hb⟩
theorem EffR.below {w w' : World} {b base : Nat} {e : Eff} {M O I : Value} (h : EffR w b base e M O I) (hB : Below w.heap.size w w') : EffR w' b base e M O I :=
  h.keepO (S := fun _ => False) (Keep.below (Keep.refl _ w) hB) (fun _ _ e => e)
theorem EffR.set {w : World} {b base : Nat} {e : Eff} {O I : Value} {gm c : Nat} (h : EffR w b base e (.slice (some ⟨gm, 0, none⟩) e.mem.length c) O I) (j : Nat) (v : Int) :
    EffR (w.setCell ⟨gm, j, none⟩ (.int .i64 v)) b base { e with mem := e.mem.set j v } (.slice (some ⟨gm, 0, none⟩) e.mem.length c) O I := by
  have hgb : b ≠ gm := fun e1 => by
    have := h.mem.ne h.blk (by decide) (e := 2)
    exact this (by simp [Value.ownBlock, e1])
  have hk1 : Keep (fun q => q = gm) w (w.setCell ⟨gm, j, none⟩ (.int .i64 v)) := Keep.set (O := fun q => q = gm) (Keep.refl _ _) (p := ⟨gm, j, none⟩) (.inl rfl) _
  refine ⟨hk1.blk h.blk hgb, ?_, ?_, ?_, h.fm, h.fo, h.fi, h.mo, h.hb⟩
  · have e1 : nums (e.mem.set j v) = (nums e.mem).set j (.int .i64 v) := by simp [nums, List.map_set]
    show Row _ _ _ _ (e.mem.set j v).length (nums (e.mem.set j v))
    rw [e1, List.length_set]
    exact h.mem.put j (.int .i64 v)
  · exact h.outs.keep fun q hq => hk1.block q (h.outs.lt hq) (fun e1 => h.mo gm rfl (by rw [hq, e1]))
  · exact h.intos.keep fun q hq => hk1.block q (h.intos.lt hq) (fun e1 => by
      rcases h.mem.2 with ⟨h2, _⟩ | ⟨g2, cap, cur, h2, hg2, _⟩
      · cases h2
      · injection h2 with h2 _ _; injection h2 with h2; injection h2 with h2 _ _
        exact h.intos.ne hg2 (by decide) (by rw [hq, e1, h2]))
/-- what the run's block, its rows and the machine's registers are behind an append -/
def Grew (w w5 : World) (b base : Nat) (e : Eff) (M O I : Value) : Prop := Keep (fun q => base ≤ q) w w5 ∧ EffR w5 b base e M O I
theorem effR_into {w w' : World} {b base : Nat} {e : Eff} {M O : Value} {AX A' : Option Addr} {cX c' : Nat} {at0 v : Int} {X : Obj} (h : EffR w b base e M O (.slice AX e.intos.length cX)) (hbw : base ≤ w.heap.size)
    (hg : (w.alloc X).grownBy w' (Value.slice AX e.intos.length cX).ownBlock) (hr : Row w' 96 2 (.slice A' (e.intos.length + 1) c') (e.intos.length + 1) (intoCells e.intos ++ [.int .i64 at0, .int .i64 v]))
    (ho : (Value.slice A' (e.intos.length + 1) c').ownBlock = (Value.slice AX e.intos.length cX).ownBlock ∨ (Value.slice A' (e.intos.length + 1) c').ownBlock = some (w.alloc X).heap.size)
    {R : Value} {rg : List Value} (hR : Row w 2 1 R 16 rg) (ha : ∀ q, R.ownBlock = some q → M.ownBlock ≠ some q ∧ O.ownBlock ≠ some q) :
    Grew w (w'.setCell ⟨b, 2, none⟩ (.slice A' (e.intos.length + 1) c')) b base { e with intos := e.intos ++ [(at0, v)] } M O (.slice A' (e.intos.length + 1) c') ∧ Row (w'.setCell ⟨b, 2, none⟩ (.slice A' (e.intos.length + 1) c')) 2 1 R 16 rg := by
  have hbb := grown_blk hg (blk_alloc h.blk X) (h.intos.ne h.blk (by decide))
  have hfar : ∀ q, q < w.heap.size → (Value.slice AX e.intos.length cX).ownBlock ≠ some q → w'.heap[q]? = w.heap[q]? := fun q hq hn => (hg.block q (by simp; omega) (fun e1 => hn e1.symm)).trans (Below.heap_alloc w X q hq)
  have hk : Keep (fun q => base ≤ q) w w' := Keep.grown (Keep.alloc (Keep.refl _ _) X) hg (fun k hk => .inl (h.fi k hk))
  refine ⟨⟨Keep.set (O := fun q => base ≤ q) hk (p := ⟨b, 2, none⟩) (.inl h.hb) _, ?_⟩, hR.far (fun q hq => hfar q (hR.lt hq) (rows_apart hR h.intos (by decide) q hq)) (hR.ne h.blk (by decide))⟩
  refine ⟨blk_set hbb 2 _, h.mem.far (fun q hq => hfar q (h.mem.lt hq) (rows_apart h.mem h.intos (by decide) q hq)) (h.mem.ne h.blk (by decide)), h.outs.far (fun q hq => hfar q (h.outs.lt hq) (rows_apart h.outs h.intos (by decide) q hq)) (h.outs.ne h.blk (by decide)), ?_, h.fm, h.fo, ?_, h.mo, h.hb⟩
  · show Row _ _ _ _ (e.intos ++ [(at0, v)]).length (intoCells (e.intos ++ [(at0, v)]))
    rw [intoCells_snoc, List.length_append]
    exact hr.far (fun _ _ => rfl) (hr.ne hbb (by decide))
  · intro q hq
    rcases ho with e1 | e1
    · exact h.fi q (e1 ▸ hq)
    · rw [hq] at e1; have := Option.some.inj e1; simp at this; omega
theorem effR_out {w w' : World} {b base : Nat} {e : Eff} {M I : Value} {AX A' : Option Addr} {cX c' : Nat} {v : Int} {X : Obj} (h : EffR w b base e M (.slice AX e.outs.length cX) I) (hbw : base ≤ w.heap.size)
    (hg : (w.alloc X).grownBy w' (Value.slice AX e.outs.length cX).ownBlock) (hr : Row w' 2 1 (.slice A' (e.outs.length + 1) c') (e.outs.length + 1) (nums e.outs ++ [.int .i64 v]))
    (ho : (Value.slice A' (e.outs.length + 1) c').ownBlock = (Value.slice AX e.outs.length cX).ownBlock ∨ (Value.slice A' (e.outs.length + 1) c').ownBlock = some (w.alloc X).heap.size)
    {R : Value} {rg : List Value} (hR : Row w 2 1 R 16 rg) (ha : ∀ q, R.ownBlock = some q → M.ownBlock ≠ some q ∧ (Value.slice AX e.outs.length cX).ownBlock ≠ some q) :
    Grew w (w'.setCell ⟨b, 1, none⟩ (.slice A' (e.outs.length + 1) c')) b base { e with outs := e.outs ++ [v] } M (.slice A' (e.outs.length + 1) c') I ∧ Row (w'.setCell ⟨b, 1, none⟩ (.slice A' (e.outs.length + 1) c')) 2 1 R 16 rg ∧ ∀ q, R.ownBlock = some q → M.ownBlock ≠ some q ∧ (Value.slice A' (e.outs.length + 1) c').ownBlock ≠ some q := by
  have hbb := grown_blk hg (blk_alloc h.blk X) (h.outs.ne h.blk (by decide))
  have hfar : ∀ q, q < w.heap.size → (Value.slice AX e.outs.length cX).ownBlock ≠ some q → w'.heap[q]? = w.heap[q]? := fun q hq hn => (hg.block q (by simp; omega) (fun e1 => hn e1.symm)).trans (Below.heap_alloc w X q hq)
  have hk : Keep (fun q => base ≤ q) w w' := Keep.grown (Keep.alloc (Keep.refl _ _) X) hg (fun k hk => .inl (h.fo k hk))
  refine ⟨⟨Keep.set (O := fun q => base ≤ q) hk (p := ⟨b, 1, none⟩) (.inl h.hb) _, ?_⟩, hR.far (fun q hq => hfar q (hR.lt hq) (ha q hq).2) (hR.ne h.blk (by decide)), fun q hq => ⟨(ha q hq).1, fun h2 => ?_⟩⟩
  · refine ⟨blk_set hbb 1 _, h.mem.far (fun q hq => hfar q (h.mem.lt hq) (h.mo q hq)) (h.mem.ne h.blk (by decide)), ?_, h.intos.far (fun q hq => hfar q (h.intos.lt hq) (rows_apart h.intos h.outs (by decide) q hq)) (h.intos.ne h.blk (by decide)), h.fm, ?_, h.fi, ?_, h.hb⟩
    · show Row _ _ _ _ (e.outs ++ [v]).length (nums (e.outs ++ [v]))
      rw [show nums (e.outs ++ [v]) = nums e.outs ++ [.int .i64 v] by simp [nums], List.length_append]
      exact hr.far (fun _ _ => rfl) (hr.ne hbb (by decide))
    · intro q hq
      rcases ho with e1 | e1
      · exact h.fo q (e1 ▸ hq)
      · rw [hq] at e1; have := Option.some.inj e1; simp at this; omega
    · intro q hq hq'
      rcases ho with e1 | e1
      · exact h.mo q hq (e1 ▸ hq')
      · rw [hq'] at e1; have := Option.some.inj e1; simp at this; have := h.mem.lt hq; omega
  · rcases ho with e1 | e1
    · exact (ha q hq).2 (e1 ▸ h2)
    · rw [h2] at e1; have := Option.some.inj e1; simp at this; have := hR.lt hq; omega
theorem run_append_numsE (w : World) (ty : TypeId) (l : List Int) (A : Option Addr) (c : Nat) (hrd : numRow w l A) (hl : l.length ≤ 100000000) (b : Nat) (hr0 : Row w 2 1 (.slice (some ⟨b, 0, none⟩) 0 0) 0 []) :
    ∃ v' w', (Builtin.append_ #[25, 25] ty #[.slice (some ⟨b, 0, none⟩) 0 0, .slice A l.length c]).run Try.prog w = .ok v' w' ∧ Row w' 2 1 v' l.length (nums l) ∧ w.grownBy w' (some b) ∧ (v'.ownBlock = some b ∨ v'.ownBlock = some w.heap.size) := by
  obtain ⟨i, hi, hi2⟩ := Option.map_eq_some_iff.mp info_i64
  simp only [Prod.mk.injEq] at hi2
  have hnl : (nums l).length = l.length * 1 := by simp [nums]
  rcases Nat.eq_zero_or_pos l.length with h0 | h0
  · have hn : nums l = [] := List.eq_nil_of_length_eq_zero (by omega)
    rw [h0, hn]
    exact ⟨_, w, run_append_nothing w _ _ _ 2 i Try.underlying25 hi (some ⟨b, 0, none⟩) 0 0 (Nat.le_refl _) _ (by cases A with | none => exact Src.ofNil w Try.underlying25 c | some a => exact Src.ofSlice w Try.underlying25 a 0 c [] (by simp) (by simp) (by simp)), hr0, ⟨rfl, rfl, rfl, Nat.le_refl _, fun _ _ _ => rfl⟩, .inl rfl⟩
  · obtain ⟨b', o', hA, _⟩ := hrd 0 h0
    subst hA
    have hcell : ∀ j u, (nums l)[j]? = some u → w.cell? ((⟨b', o', none⟩ : Addr).add j) = some u := fun j u hu => by
      have hj : j < l.length := by have := (List.getElem?_eq_some_iff.1 hu).1; simpa [nums] using this
      obtain ⟨b2, o2, h1, h2⟩ := hrd j hj
      have h3 : b' = b2 := congrArg Addr.block (Option.some.inj h1)
      have h4 : o' = o2 := congrArg Addr.off (Option.some.inj h1)
      subst h3; subst h4
      have hadd : (⟨b', o', none⟩ : Addr).add j = ⟨b', o' + j, none⟩ := by unfold Addr.add; split <;> simp_all
      rw [hadd, h2]
      have : (nums l)[j]? = some (.int .i64 l[j]) := by simp [nums, hj]
      rw [this] at hu; exact hu
    have hr := run_append_row (P := Try.prog) w 25 ty 2 i _ 1 8 Try.underlying25 hi hi2.1 hi2.2.1 hi2.2.2 rfl (.slice (some ⟨b, 0, none⟩) 0 0) 0 [] hr0 ⟨b', o', none⟩ l.length c (nums l) hnl hcell (by intro u hu; obtain ⟨v, _, rfl⟩ := List.mem_map.1 hu; rfl) h0 (by unfold maxLen; omega) (by omega)
    simpa [Value.ownBlock] using hr
theorem wpList_append_nums {ops : Array Oper} {rest : List Oper} {o : Oper} {a : Act} {w : World} {Q : Exit → Act → World → Prop} (hgd : o.guard = none) (s x : Operand)
    (ho : o.op = .call { callee := .builtin .append, args := #[s, x], argTypes := #[25, 25] }) (l : List Int) (A : Option Addr) (c : Nat) (hrd : numRow w l A) (hl : l.length ≤ 100000000) (b : Nat) (hr0 : Row w 2 1 (.slice (some ⟨b, 0, none⟩) 0 0) 0 [])
    (hs : a.eval s = .slice (some ⟨b, 0, none⟩) 0 0) (hx : a.eval x = .slice A l.length c)
    (h : ∀ v' w', Row w' 2 1 v' l.length (nums l) → w.grownBy w' (some b) → (v'.ownBlock = some b ∨ v'.ownBlock = some w.heap.size) → wpList Try.prog ops Q rest (a.put o.dst v') w') : wpList Try.prog ops Q (o :: rest) a w := by
  refine wpList_plain hgd fun _ hK => ?_
  obtain ⟨v', w', hr, h2, h3, h4⟩ := run_append_numsE w o.type l A c hrd hl b hr0
  unfold Oper.wp execOp
  simp only [ho, resolve, invoke, builtin, Sem.run_bind, Sem.run_pure, Result.andThen_ok, List.map_toArray, List.map_cons, List.map_nil, hs, hx, hr]
  exact hK _ _ (h v' w' h2 h3 h4)
theorem giveS_b64 (e : Eff) (k a v : Int) (hm : ∀ u ∈ e.mem, b64 u) (hv : b64 v) : (∀ u ∈ (giveS e k a v).1.mem, b64 u) ∧ b64 (giveS e k a v).2 := by
  have h0 : b64 0 := ⟨by decide, by decide⟩
  have hg : b64 (e.mem.getD a.toNat 0) := by
    rw [List.getD]
    by_cases hi : a.toNat < e.mem.length
    · rw [List.getElem?_eq_getElem hi]; exact hm _ (List.getElem_mem hi)
    · rw [List.getElem?_eq_none (by omega)]; exact h0
  unfold giveS
  repeat' split
  · exact ⟨hm, hg⟩
  · refine ⟨fun u hu => ?_, h0⟩
    rcases List.mem_or_eq_of_mem_set (show u ∈ e.mem.set a.toNat v from hu) with h1 | h1
    · exact hm u h1
    · rw [h1]; exact hv
  · exact ⟨hm, h0⟩
  · exact ⟨hm, h0⟩
  · exact ⟨hm, h0⟩
theorem wantS_b64 (l : List Ins) (words fuel : Int) (s : St) (h : reg64 s) : b64 (wantS l words fuel s).2.2 := by
  have h0 : b64 0 := ⟨by decide, by decide⟩
  unfold wantS wantX
  repeat' split
  all_goals first | exact reg64_get h _ | exact h0
set_option maxRecDepth 100000 in
set_option maxHeartbeats 8000000 in
theorem refRun_calls (W : World) (l : List Ins) (A : Option Addr) (c : Nat) (cells fuel : Int) (g : List Int) (B : Option Addr) (gc : Nat) (n i k : Int) (hrd : insRow W l A) (hl : l.length ≤ 100000000) (hg : numRow W g B) (hgl : g.length ≤ 100000000) (hn64 : ∀ x ∈ l, b64 x.n) (h064 : reg64 (s0 n i k)) (hg64 : ∀ v ∈ g, b64 v) (w : World) (hB : Below W.heap.size W w) :
    Calls Try.prog 22 #[.slice A l.length c, .int .i64 cells, .int .i64 fuel, .agg #[.slice B g.length gc, .int .i64 n, .int .i64 i, .int .i64 k]] w (RunOK w l cells fuel g n i k) := by
  have HRD := Lib.hid hrd
  have HG := Lib.hid hg
  have HB := Lib.hid hB
  have HN := Lib.hid hn64
  have H064 := Lib.hid h064
  have HG64 := Lib.hid hg64
  clear hrd hg hB hn64 h064 hg64
  by_cases hz : newE l cells g.length fuel = 0
  · have HZ := Lib.hid hz
    have hgd := newE_good hz
    obtain ⟨hgood, hw1, hw2, hf1, hf2⟩ := hgd
    have HGD := Lib.hid hgood
    clear hz hgood
    go_enter Try.func22, Try.ntmps22
    go_wp2_with fail
    have hsz1 : (w.alloc (.cells #[.slice B g.length gc, .int .i64 n, .int .i64 i, .int .i64 k] 58)).heap.size = w.heap.size + 1 := size_al _ _
    have hbw : Below w.heap.size w ((w.alloc (.cells #[.slice B g.length gc, .int .i64 n, .int .i64 i, .int .i64 k] 58)).alloc (.cells zeroE 63)) := ((Below.refl w.heap.size w).al).al
    have hx0 := blk_alloc (blk_new w (.cells #[.slice B g.length gc, .int .i64 n, .int .i64 i, .int .i64 k] 58)) (.cells zeroE 63)
    have hx1 := blk_new (w.alloc (.cells #[.slice B g.length gc, .int .i64 n, .int .i64 i, .int .i64 k] 58)) (.cells zeroE 63)
    rw [hsz1] at hx1
    have hsz2 : ((w.alloc (.cells #[.slice B g.length gc, .int .i64 n, .int .i64 i, .int .i64 k] 58)).alloc (.cells zeroE 63)).heap.size = w.heap.size + 2 := by rw [size_al, hsz1]
    refine (refNew_calls W l A c cells g.length fuel n i k HRD.out (by omega) _ (HB.out.trans (hbw.mono HB.out.size))).mono ?_
    intro e1 w1 hd
    obtain ⟨hb1, hd⟩ := hd
    have hs1 := hb1.size
    rw [hsz2] at hs1
    have hx0 := below_blk hb1 hx0 (blk_lt hx0)
    have hx1 := below_blk hb1 hx1 (blk_lt hx1)
    have hB1 := hbw.trans (hb1.mono hbw.size)
    clear hb1 hbw hsz1 hsz2
    have HX0 := Lib.hid hx0
    have HX1 := Lib.hid hx1
    have HB1 := Lib.hid hB1
    have HS1 := Lib.hid hs1
    clear hx0 hx1 hB1 hs1
    rw [if_pos HZ.out] at hd
    obtain ⟨R, cr, rfl, hrow⟩ := hd
    have hb3 : Below w1.heap.size w1 ((w1.alloc (.cells #[.slice A l.length c, .int .i64 (g.length : Int), .int .i64 fuel, .slice R 16 cr, .int .i64 0, .int .i64 0, .int .i64 0, .int .i64 0] 29)).alloc (.cells #[] 2)) := ((Below.refl w1.heap.size w1).al).al
    have hm3 := blk_alloc (blk_new w1 (.cells #[.slice A l.length c, .int .i64 (g.length : Int), .int .i64 fuel, .slice R 16 cr, .int .i64 0, .int .i64 0, .int .i64 0, .int .i64 0] 29)) (.cells #[] 2)
    have he3 := blk_new (w1.alloc (.cells #[.slice A l.length c, .int .i64 (g.length : Int), .int .i64 fuel, .slice R 16 cr, .int .i64 0, .int .i64 0, .int .i64 0, .int .i64 0] 29)) (.cells #[] 2)
    rw [size_al] at he3
    have f1 : ((w1.alloc (.cells #[.slice A l.length c, .int .i64 (g.length : Int), .int .i64 fuel, .slice R 16 cr, .int .i64 0, .int .i64 0, .int .i64 0, .int .i64 0] 29)).alloc (.cells #[] 2)).cell? ⟨w.heap.size, 0, none⟩ = some (.slice B g.length gc) := hb3.cellOf (blk_cell HX0.out 0)
    obtain ⟨w3, hw3⟩ : ∃ w3, ((w1.alloc (.cells #[.slice A l.length c, .int .i64 (g.length : Int), .int .i64 fuel, .slice R 16 cr, .int .i64 0, .int .i64 0, .int .i64 0, .int .i64 0] 29)).alloc (.cells #[] 2)) = w3 := ⟨_, rfl⟩
    rw [hw3] at hb3 hm3 he3
    have HWT := Lib.hid hw3
    have HB3 := Lib.hid hb3
    have HM3 := Lib.hid hm3
    have HRE : Hid (Row w3 2 1 (.slice (some ⟨w1.heap.size + 1, 0, none⟩) 0 0) 0 []) := Lib.hid ⟨rfl, .inr ⟨_, 0, #[], rfl, he3, Nat.le_refl _, Nat.zero_le _, by simp, rfl⟩⟩
    have HG3 := Lib.hid (HG.out.keep ((HB.out.trans (HB1.out.mono HB.out.size)).trans (hb3.mono (HB.out.trans (HB1.out.mono HB.out.size)).size)))
    have HRW := Lib.hid hrow
    have hsz3 : w3.heap.size = w1.heap.size + 1 + 1 := by rw [← hw3, size_al, size_al]
    have HSZ := Lib.hid hsz3
    clear hw3 hb3 hm3 he3 hrow hsz3
    go_wp2_with (have tk := HWT; clear tk; rw [HWT.out]; refine wpList_append_nums (by rfl) _ _ (by rfl) g B gc HG3.out hgl (w1.heap.size + 1) HRE.out (by rfl) (by rfl) ?_; intro v' w' hr' hg' hn'; obtain ⟨A', c', hv', _⟩ := hr'.slice; subst hv'; have HR' := Lib.hid hr'; have HGR := Lib.hid hg'; have HO := Lib.hid hn'; clear hr' hg' hn' f1 HWT)
    obtain ⟨b10, hb10⟩ : ∃ b, w1.heap.size = b := ⟨_, rfl⟩
    have hk3 : Keep (fun q => b10 + 1 ≤ q) w3 (w'.alloc (.cells #[.slice A' g.length c', .slice none 0 0, .slice none 0 0, .int .i64 0, .int .i64 0, .int .i64 0] 63)) := Keep.alloc (Keep.grown (O := fun q => b10 + 1 ≤ q) (Keep.refl _ w3) HGR.out (fun q hq => .inl (by have := Option.some.inj hq; omega))) _
    have hx4 := hk3.blk HM3.out (by omega)
    have hz4 := hk3.blk (below_blk HB3.out HX1.out (blk_lt HX1.out)) (by have := HS1.out; omega)
    have hr4 : Row (w'.alloc (.cells #[.slice A' g.length c', .slice none 0 0, .slice none 0 0, .int .i64 0, .int .i64 0, .int .i64 0] 63)) 2 1 (.slice R 16 cr) 16 (nums (s0 n i k).rg) := (HRW.out.below HB3.out).keep fun q hq => hk3.block q ((HRW.out.below HB3.out).lt hq) (by have := HRW.out.lt hq; omega)
    have hb4 : Below w.heap.size w (w'.alloc (.cells #[.slice A' g.length c', .slice none 0 0, .slice none 0 0, .int .i64 0, .int .i64 0, .int .i64 0] 63)) := (HB1.out.trans (HB3.out.mono HB1.out.size)).trans (hk3.toBelow (Nat.le_trans HB1.out.size HB3.out.size) (fun q hq => by have := HS1.out; omega))
    have hown : ∀ q, (Value.slice A' g.length c').ownBlock = some q → b10 + 1 ≤ q ∧ q < w'.heap.size := fun q hq => ⟨by
      rcases HO.out with e | e
      · rw [hq] at e; have := Option.some.inj e; omega
      · rw [hq] at e; have := Option.some.inj e; have := HSZ.out; omega, HR'.out.lt hq⟩
    have he4 : EffR (w'.alloc (.cells #[.slice A' g.length c', .slice none 0 0, .slice none 0 0, .int .i64 0, .int .i64 0, .int .i64 0] 63)) w'.heap.size (b10 + 1) ⟨g, [], []⟩ (.slice A' g.length c') (.slice none 0 0) (.slice none 0 0) := ⟨blk_new _ _, HR'.out.alloc _, Row.nil _ _ _, Row.nil _ _ _, fun q hq => (hown q hq).1, fun q hq => by simp [Value.ownBlock] at hq, fun q hq => by simp [Value.ownBlock] at hq, fun q _ hq => by simp [Value.ownBlock] at hq, by have := HGR.out.size; have := HSZ.out; omega⟩
    have ha4 : ∀ q, (Value.slice R 16 cr).ownBlock = some q → (Value.slice A' g.length c').ownBlock ≠ some q ∧ (Value.slice none 0 0).ownBlock ≠ some q := fun q hq => ⟨fun h => by have := (hown q h).1; have := HRW.out.lt hq; omega, fun h => by simp [Value.ownBlock] at h⟩
    have hs4 : b10 + 1 ≤ (w'.alloc (.cells #[.slice A' g.length c', .slice none 0 0, .slice none 0 0, .int .i64 0, .int .i64 0, .int .i64 0] 63)).heap.size := by rw [size_al]; have := HGR.out.size; have := HSZ.out; omega
    generalize (w'.alloc (.cells #[.slice A' g.length c', .slice none 0 0, .slice none 0 0, .int .i64 0, .int .i64 0, .int .i64 0] 63)) = w4 at *
    obtain ⟨b12, hb12⟩ : ∃ b, w'.heap.size = b := ⟨_, rfl⟩
    rw [hb12] at he4 ⊢
    rw [hb10] at hx4 ⊢
    have HP := Lib.hid (show w.heap.size + 2 ≤ b10 by have := HS1.out; omega)
    have HX4 : Hid (w4.heap[b10]? = some (.cells #[.slice A l.length c, .int .i64 (g.length : Int), .int .i64 fuel, .slice R 16 cr, .int .i64 (s0 n i k).at0, .int .i64 (s0 n i k).steps, .int .i64 (s0 n i k).over, .int .i64 (s0 n i k).value] 29 (0, 0))) := Lib.hid hx4
    have HE4 := Lib.hid he4
    have HZ4 := Lib.hid hz4
    have HB4 := Lib.hid hb4
    have HS4 := Lib.hid hs4
    have HR4 := Lib.hid hr4
    have HA4 := Lib.hid ha4
    have OK0 := Lib.hid (okS_first HGD.out hf1 n i k)
    clear hk3 hx4 hz4 hr4 hb4 hown he4 ha4 hs4 hb10 hb12 HX0 HX1 HB1 HS1 HB3 HM3 HRE HG3 HRW HSZ HR' HGR HO
    go_loopg [] (fuel.toNat + 1) (fun gk wr => ∃ (s : St) (e : Eff) (M O I : Value) (R : Option Addr) (cr : Nat), Hid (runEnd l fuel g n i k = runN l g.length fuel gk s e) ∧ Hid (okS l fuel s) ∧ Hid (wr.heap[b10]? = some (.cells #[.slice A l.length c, .int .i64 (g.length : Int), .int .i64 fuel, .slice R 16 cr, .int .i64 s.at0, .int .i64 s.steps, .int .i64 s.over, .int .i64 s.value] 29 (0, 0))) ∧ Hid (EffR wr b12 (b10 + 1) e M O I) ∧ Hid (wr.heap[w.heap.size + 1]? = some (.cells zeroE 63 (0, 0))) ∧ Hid (Below w.heap.size w wr) ∧ Hid (b10 + 1 ≤ wr.heap.size) ∧ Hid (e.mem.length = g.length) ∧ Hid (e.outs.length + e.intos.length + gk ≤ 5000) ∧ Hid (s.over = 0 → fuel - s.steps + 1 ≤ (gk : Int)) ∧ Hid (Row wr 2 1 (.slice R 16 cr) 16 (nums s.rg)) ∧ Hid (∀ q, (Value.slice R 16 cr).ownBlock = some q → M.ownBlock ≠ some q ∧ O.ownBlock ≠ some q) ∧ Hid (reg64 s) ∧ Hid (∀ u ∈ e.mem, b64 u))
    case atStart =>
      exact ⟨s0 n i k, ⟨g, [], []⟩, _, _, _, R, cr, Lib.hid rfl, OK0, HX4, HE4, HZ4, HB4, HS4, Lib.hid rfl, Lib.hid (by simp; omega), Lib.hid (fun _ => by simp [s0]; omega), HR4, HA4, H064, HG64⟩
    case round =>
      clear HX4 HE4 HZ4 HB4 HS4 HR4 HA4 OK0 H064 HG64
      obtain ⟨s, e, M, O, I, R, cr, HR, HOK, HXr, HEr, HZr, HBr, HSr, HLr, HOr, HTr, HRr, HAr, HQr, HMr⟩ := hrel
      by_cases hov : s.over = 0
      · have hgk : ∃ m, gk = m + 1 := ⟨gk - 1, by have := HTr.out hov; have := HOK.out.2.2.2.2; omega⟩
        obtain ⟨m, rfl⟩ := hgk
        have hov' : (s.over == 0) = true := by simp [hov]
        obtain ⟨⟨wk, wa, wv⟩, hws⟩ : ∃ x, wantS l g.length fuel s = x := ⟨_, rfl⟩
        obtain ⟨⟨e1, got⟩, hgv⟩ : ∃ x, giveS e wk wa wv = x := ⟨_, rfl⟩
        obtain ⟨s1, hs1⟩ : ∃ s1, stepS l g.length fuel s got = s1 := ⟨_, rfl⟩
        have hrn := HR.out
        rw [runN, if_pos hov, hws] at hrn
        simp only [hgv, hs1] at hrn
        have HRN := Lib.hid hrn
        have hw4 := okWant_want l g.length fuel s e (by rw [HLr.out])
        rw [hws] at hw4
        have hwb := wantS_b64 l g.length fuel s HQr.out
        rw [hws] at hwb
        have hgb := giveS_b64 e wk wa wv HMr.out hwb
        rw [hgv] at hgb
        have hgl2 : e1.mem.length = e.mem.length ∧ e1.outs.length + e1.intos.length ≤ e.outs.length + e.intos.length + 1 := by
          have h := giveS_len e wk wa wv
          rw [hgv] at h
          exact h
        have hq1 : reg64 s1 := hs1 ▸ reg64_step HQr.out HN.out hgb.2
        have hok1 : okS l fuel s1 := hs1 ▸ okS_step HGD.out HOK.out got
        have hst : s1.over = 0 → fuel - s1.steps + 1 ≤ (m : Int) := by
          intro h0
          have h1 := HTr.out hov
          by_cases hsf : s.steps = fuel
          · exfalso
            have : s1.over = 5 := by rw [← hs1]; simp [stepS, hov, hsf, ended]
            omega
          · rw [← hs1, step_steps hov hsf]; omega
        have HWS := Lib.hid hws
        have HGV := Lib.hid hgv
        have HSS := Lib.hid hs1
        have HLE := Lib.hid (hgl2.1.trans HLr.out)
        have HOE := Lib.hid (show e1.outs.length + e1.intos.length + m ≤ 5000 by have := hgl2.2; have := HOr.out; omega)
        have HM1 := Lib.hid hgb.1
        have HQ1 := Lib.hid hq1
        have HOK1 := Lib.hid hok1
        have HST := Lib.hid hst
        have HW4 := Lib.hid hw4
        clear hov hrn hws hgv hs1 hw4 hwb hgb hgl2 hq1 hok1 hst
        have c6 := blk_cell HXr.out 6
        go_wp2_with (refine wpList_load_mid (by rfl) 29 _ (by rfl) b10 0 (by rfl) [.slice A l.length c, .int .i64 (g.length : Int), .int .i64 fuel, .slice R 16 cr, .int .i64 s.at0, .int .i64 s.steps, .int .i64 s.over, .int .i64 s.value] _ (range_at HXr.out 0 _ rfl) Try.underlying29 rfl (show _ = some 8 from info_M) ?_)
        refine (refWant_calls wr l A c g.length fuel R cr s HOK.out.1 HRr.out (HRD.out.keep (HB.out.trans (HBr.out.mono HB.out.size))) (by have := HGD.out.2.1; omega) (fun x hx => (HGD.out.2.2.1 x hx).1) HN.out HQr.out HOK.out.2.1 HOK.out.2.2.1 HOK.out.2.2.2.2).mono ?_
        rintro y w3 ⟨rfl, hb3⟩
        rw [HWS.out]
        dsimp only
        clear c6
        have hb4 := hb3.trans ((Below.refl w3.heap.size w3).al (o := .cells #[.int .i64 wk, .int .i64 wa, .int .i64 wv] 35) |>.mono hb3.size)
        have hx4 := blk_new w3 (.cells #[.int .i64 wk, .int .i64 wa, .int .i64 wv] 35)
        obtain ⟨w4, hw4⟩ : ∃ w4, w3.alloc (.cells #[.int .i64 wk, .int .i64 wa, .int .i64 wv] 35) = w4 := ⟨_, rfl⟩
        rw [hw4] at hb4 hx4
        have HX4 := Lib.hid (below_blk hb4 HXr.out (blk_lt HXr.out))
        have HE4 := Lib.hid (HEr.out.below hb4)
        have HZ4 := Lib.hid (below_blk hb4 HZr.out (blk_lt HZr.out))
        have HB4 := Lib.hid (HBr.out.trans (hb4.mono HBr.out.size))
        have HS4 := Lib.hid (Nat.le_trans HSr.out hb4.size)
        have HR4 := Lib.hid (HRr.out.below hb4)
        have HY4 := Lib.hid hx4
        have HW := Lib.hid hw4
        have HV := HW4.out
        clear hb3 hb4 hx4 hw4 HXr HEr HZr HBr HSr HRr HR HW4
        rcases HV with rfl | ⟨hk, h0, h1⟩ | rfl | rfl
        · have z0 : w4.cell? ⟨w3.heap.size, 0, none⟩ = some (.int .i64 0) := blk_cell HY4.out 0
          have z1 : w4.cell? ⟨w3.heap.size, 1, none⟩ = some (.int .i64 wa) := blk_cell HY4.out 1
          have z2 : w4.cell? ⟨w3.heap.size, 2, none⟩ = some (.int .i64 wv) := blk_cell HY4.out 2
          obtain ⟨rfl, rfl⟩ : e = e1 ∧ 0 = got := by have h := HGV.out; simpa [giveS] using h
          obtain ⟨M', hM⟩ : ∃ M', M = M' := ⟨_, rfl⟩
          obtain ⟨O', hO⟩ : ∃ O', O = O' := ⟨_, rfl⟩
          obtain ⟨I', hI⟩ : ∃ I', I = I' := ⟨_, rfl⟩
          subst hM; subst hO; subst hI
          have HA5 := HAr
          have HX5 := HX4
          have HE5 := HE4
          have HZ5 := HZ4
          have HB5 := HB4
          have HS5 := HS4
          have HR5 := HR4
          clear HX4
          go_wp2_with (first | (have tk := HX5; clear tk; refine wpList_load_mid (by rfl) 29 _ (by rfl) b10 0 (by rfl) [.slice A l.length c, .int .i64 (g.length : Int), .int .i64 fuel, .slice R 16 cr, .int .i64 s.at0, .int .i64 s.steps, .int .i64 s.over, .int .i64 s.value] _ (range_at HX5.out 0 _ rfl) Try.underlying29 rfl (show _ = some 8 from info_M) ?_) | (have tk := HW; clear tk; rw [HW.out]; clear HW))
          refine (refStep_calls w4 l A c g.length fuel R cr s HOK.out.1 HR5.out (HRD.out.keep (HB.out.trans (HB5.out.mono HB.out.size))) (by have := HGD.out.2.1; omega) (fun x hx => ⟨(HGD.out.2.2.1 x hx).1, (HGD.out.2.2.1 x hx).2.1, (HGD.out.2.2.1 x hx).2.2.1⟩) HN.out HQr.out HOK.out.2.1 HOK.out.2.2.1 HOK.out.2.2.2.1 HOK.out.2.2.2.2 (by omega) _).mono ?_
          rintro y w6 ⟨R', cr', rfl, hr6, hb6, ho6⟩
          rw [HSS.out] at hr6 ⊢
          have HB6 := Lib.hid (HB5.out.trans (hb6.mono HB5.out.size))
          have HX6 := Lib.hid (below_blk hb6 HX5.out (blk_lt HX5.out))
          have HZ6 := Lib.hid (below_blk hb6 HZ5.out (blk_lt HZ5.out))
          have HE6 := Lib.hid (HE5.out.below hb6)
          have HR6 := Lib.hid hr6
          have HS6 := Lib.hid (Nat.le_trans HS5.out hb6.size)
          have HA6 : Hid (∀ q, (Value.slice R' 16 cr').ownBlock = some q → Value.ownBlock M ≠ some q ∧ Value.ownBlock O ≠ some q) := Lib.hid (fun q hq => by
            rcases ho6 with h | h
            · subst h; exact HA5.out q ((own_any _ _ _ _ _).trans hq)
            · have h1 := h q hq
              exact ⟨fun h2 => by have := HE5.out.mem.lt h2; omega, fun h2 => by have := HE5.out.outs.lt h2; omega⟩)
          clear hb6 hr6 ho6
          go_wp2_with (refine wpList_store_mid (by rfl) 29 _ _ (by rfl) b10 0 #[.slice A l.length c, .int .i64 (g.length : Int), .int .i64 fuel, .slice R' 16 cr', .int .i64 s1.at0, .int .i64 s1.steps, .int .i64 s1.over, .int .i64 s1.value] (by rfl) (by rfl) (there_at HX6.out 0 8 (Nat.le_refl 8)) info_M (by simp [Value.oneCell']) ?_; have hx9 := blk_all (w := w6) [.slice A l.length c, .int .i64 (g.length : Int), .int .i64 fuel, .slice R' 16 cr', .int .i64 s1.at0, .int .i64 s1.steps, .int .i64 s1.over, .int .i64 s1.value] (by rfl) HX6.out; have hk9 : Keep (fun q => q = b10) w6 (w6.setCells b10 0 [.slice A l.length c, .int .i64 (g.length : Int), .int .i64 fuel, .slice R' 16 cr', .int .i64 s1.at0, .int .i64 s1.steps, .int .i64 s1.over, .int .i64 s1.value]) := keep_sets _ 0 (Keep.refl _ w6); have hw : w6.setCells b10 0 [.slice A l.length c, .int .i64 (g.length : Int), .int .i64 fuel, .slice R' 16 cr', .int .i64 s1.at0, .int .i64 s1.steps, .int .i64 s1.over, .int .i64 s1.value] = w6.setCells b10 0 (#[.slice A l.length c, .int .i64 (g.length : Int), .int .i64 fuel, .slice R' 16 cr', .int .i64 s1.at0, .int .i64 s1.steps, .int .i64 s1.over, .int .i64 s1.value]).toList := rfl; rw [hw] at hx9 hk9; clear hw; generalize w6.setCells b10 0 (#[.slice A l.length c, .int .i64 (g.length : Int), .int .i64 fuel, .slice R' 16 cr', .int .i64 s1.at0, .int .i64 s1.steps, .int .i64 s1.over, .int .i64 s1.value]).toList = w9 at *; have HX9 := Lib.hid hx9; have HK9 := Lib.hid hk9; clear hx9 hk9)
          have HE9 := Lib.hid (HE6.out.keepO HK9.out (fun q hq h => by omega))
          have HZ9 := Lib.hid (HK9.out.blk HZ6.out (by have := HP.out; omega))
          have HB9 := Lib.hid (HB6.out.trans (HK9.out.toBelow HB6.out.size (fun q e => by subst e; have := HP.out; omega)))
          have HR9 := Lib.hid (HR6.out.keep fun q hq => HK9.out.block q (HR6.out.lt hq) (fun e => HR6.out.ne HX6.out (by decide) (by rw [hq, e])))
          have HS9 := Lib.hid (Nat.le_trans HS6.out HK9.out.size)
          go_roundg m
          case measure => omega
          case rel => exact ⟨s1, _, M, O, I, R', cr', HRN, HOK1, HX9, HE9, HZ9, HB9, HS9, HLE, HOE, HST, HR9, HA6, HQ1, HM1⟩
        · obtain ⟨j, rfl⟩ : ∃ j : Nat, wa = j := ⟨wa.toNat, by omega⟩
          have hj : j < e.mem.length := by omega
          have hj0 : (0 : Int) ≤ (j : Int) := by omega
          have hj1 : (j : Int) < (e.mem.length : Int) := by omega
          obtain ⟨gM, cM, rfl, hcell, hfr⟩ := HE4.out.mem.cell (nums_get hj)
          have d0 : w4.cell? ⟨b12, 0, none⟩ = some (.slice (some ⟨gM, 0, none⟩) e.mem.length cM) := blk_cell HE4.out.blk 0
          clear h0 h1
          rcases hk with rfl | rfl
          · have z0 : w4.cell? ⟨w3.heap.size, 0, none⟩ = some (.int .i64 1) := blk_cell HY4.out 0
            have z1 : w4.cell? ⟨w3.heap.size, 1, none⟩ = some (.int .i64 (j : Int)) := blk_cell HY4.out 1
            have z2 : w4.cell? ⟨w3.heap.size, 2, none⟩ = some (.int .i64 wv) := blk_cell HY4.out 2
            obtain ⟨rfl, hgot⟩ : e = e1 ∧ e.mem.getD j 0 = got := by have h := HGV.out; simpa only [giveS, if_true, Int.toNat_natCast, Prod.mk.injEq] using h
            rw [hgot] at hcell
            have HA5 := HAr
            have HX5 := HX4
            have HE5 := HE4
            have HZ5 := HZ4
            have HB5 := HB4
            have HS5 := HS4
            have HR5 := HR4
            clear HX4 hfr hgot
            go_wp2_with (first | (have tk := HX5; clear tk; refine wpList_load_mid (by rfl) 29 _ (by rfl) b10 0 (by rfl) [.slice A l.length c, .int .i64 (g.length : Int), .int .i64 fuel, .slice R 16 cr, .int .i64 s.at0, .int .i64 s.steps, .int .i64 s.over, .int .i64 s.value] _ (range_at HX5.out 0 _ rfl) Try.underlying29 rfl (show _ = some 8 from info_M) ?_) | (have tk := HW; clear tk; rw [HW.out]; clear HW))
            refine (refStep_calls w4 l A c g.length fuel R cr s HOK.out.1 HR5.out (HRD.out.keep (HB.out.trans (HB5.out.mono HB.out.size))) (by have := HGD.out.2.1; omega) (fun x hx => ⟨(HGD.out.2.2.1 x hx).1, (HGD.out.2.2.1 x hx).2.1, (HGD.out.2.2.1 x hx).2.2.1⟩) HN.out HQr.out HOK.out.2.1 HOK.out.2.2.1 HOK.out.2.2.2.1 HOK.out.2.2.2.2 (by omega) _).mono ?_
            rintro y w6 ⟨R', cr', rfl, hr6, hb6, ho6⟩
            rw [HSS.out] at hr6 ⊢
            have HB6 := Lib.hid (HB5.out.trans (hb6.mono HB5.out.size))
            have HX6 := Lib.hid (below_blk hb6 HX5.out (blk_lt HX5.out))
            have HZ6 := Lib.hid (below_blk hb6 HZ5.out (blk_lt HZ5.out))
            have HE6 := Lib.hid (HE5.out.below hb6)
            have HR6 := Lib.hid hr6
            have HS6 := Lib.hid (Nat.le_trans HS5.out hb6.size)
            have HA6 : Hid (∀ q, (Value.slice R' 16 cr').ownBlock = some q → Value.ownBlock (.slice (some ⟨gM, 0, none⟩) e.mem.length cM) ≠ some q ∧ Value.ownBlock O ≠ some q) := Lib.hid (fun q hq => by
              rcases ho6 with h | h
              · subst h; exact HA5.out q ((own_any _ _ _ _ _).trans hq)
              · have h1 := h q hq
                exact ⟨fun h2 => by have := HE5.out.mem.lt h2; omega, fun h2 => by have := HE5.out.outs.lt h2; omega⟩)
            clear hb6 hr6 ho6
            go_wp2_with (refine wpList_store_mid (by rfl) 29 _ _ (by rfl) b10 0 #[.slice A l.length c, .int .i64 (g.length : Int), .int .i64 fuel, .slice R' 16 cr', .int .i64 s1.at0, .int .i64 s1.steps, .int .i64 s1.over, .int .i64 s1.value] (by rfl) (by rfl) (there_at HX6.out 0 8 (Nat.le_refl 8)) info_M (by simp [Value.oneCell']) ?_; have hx9 := blk_all (w := w6) [.slice A l.length c, .int .i64 (g.length : Int), .int .i64 fuel, .slice R' 16 cr', .int .i64 s1.at0, .int .i64 s1.steps, .int .i64 s1.over, .int .i64 s1.value] (by rfl) HX6.out; have hk9 : Keep (fun q => q = b10) w6 (w6.setCells b10 0 [.slice A l.length c, .int .i64 (g.length : Int), .int .i64 fuel, .slice R' 16 cr', .int .i64 s1.at0, .int .i64 s1.steps, .int .i64 s1.over, .int .i64 s1.value]) := keep_sets _ 0 (Keep.refl _ w6); have hw : w6.setCells b10 0 [.slice A l.length c, .int .i64 (g.length : Int), .int .i64 fuel, .slice R' 16 cr', .int .i64 s1.at0, .int .i64 s1.steps, .int .i64 s1.over, .int .i64 s1.value] = w6.setCells b10 0 (#[.slice A l.length c, .int .i64 (g.length : Int), .int .i64 fuel, .slice R' 16 cr', .int .i64 s1.at0, .int .i64 s1.steps, .int .i64 s1.over, .int .i64 s1.value]).toList := rfl; rw [hw] at hx9 hk9; clear hw; generalize w6.setCells b10 0 (#[.slice A l.length c, .int .i64 (g.length : Int), .int .i64 fuel, .slice R' 16 cr', .int .i64 s1.at0, .int .i64 s1.steps, .int .i64 s1.over, .int .i64 s1.value]).toList = w9 at *; have HX9 := Lib.hid hx9; have HK9 := Lib.hid hk9; clear hx9 hk9)
            have HE9 := Lib.hid (HE6.out.keepO HK9.out (fun q hq h => by omega))
            have HZ9 := Lib.hid (HK9.out.blk HZ6.out (by have := HP.out; omega))
            have HB9 := Lib.hid (HB6.out.trans (HK9.out.toBelow HB6.out.size (fun q e => by subst e; have := HP.out; omega)))
            have HR9 := Lib.hid (HR6.out.keep fun q hq => HK9.out.block q (HR6.out.lt hq) (fun e => HR6.out.ne HX6.out (by decide) (by rw [hq, e])))
            have HS9 := Lib.hid (Nat.le_trans HS6.out HK9.out.size)
            go_roundg m
            case measure => omega
            case rel => exact ⟨s1, _, (.slice (some ⟨gM, 0, none⟩) e.mem.length cM), O, I, R', cr', HRN, HOK1, HX9, HE9, HZ9, HB9, HS9, HLE, HOE, HST, HR9, HA6, HQ1, HM1⟩
          · have z0 : w4.cell? ⟨w3.heap.size, 0, none⟩ = some (.int .i64 2) := blk_cell HY4.out 0
            have z1 : w4.cell? ⟨w3.heap.size, 1, none⟩ = some (.int .i64 (j : Int)) := blk_cell HY4.out 1
            have z2 : w4.cell? ⟨w3.heap.size, 2, none⟩ = some (.int .i64 wv) := blk_cell HY4.out 2
            obtain ⟨rfl, rfl⟩ : { e with mem := e.mem.set j wv } = e1 ∧ 0 = got := by have h := HGV.out; simpa only [giveS, if_true, if_false, Int.toNat_natCast, Prod.mk.injEq, show ¬ ((2 : Int) = 1) by decide] using h
            have hk5 : Keep (fun q => b10 + 1 ≤ q) w4 (w4.setCell ⟨gM, j, none⟩ (.int .i64 wv)) := Keep.set (O := fun q => b10 + 1 ≤ q) (Keep.refl _ _) (p := ⟨gM, j, none⟩) (.inl (HE4.out.fm gM rfl)) _
            have he5 := HE4.out.set j wv
            have hr5 : Row (w4.setCell ⟨gM, j, none⟩ (.int .i64 wv)) 2 1 (.slice R 16 cr) 16 (nums s.rg) := HR4.out.keep fun q hq => Below.heap_setCell _ _ _ _ (fun e2 => (HAr.out q hq).1 (by subst e2; rfl))
            obtain ⟨w5, hw5⟩ : ∃ w5, w4.setCell ⟨gM, j, none⟩ (.int .i64 wv) = w5 := ⟨_, rfl⟩
            rw [hw5] at hk5 he5 hr5
            have HW5 := Lib.hid hw5
            have HX5 := Lib.hid (hk5.blk HX4.out (by omega))
            have HE5 := Lib.hid he5
            have HZ5 := Lib.hid (hk5.blk HZ4.out (by have := HP.out; omega))
            have HB5 := Lib.hid (HB4.out.trans (hk5.toBelow HB4.out.size (fun q hq => by have := HP.out; omega)))
            have HS5 := Lib.hid (Nat.le_trans HS4.out hk5.size)
            have HR5 := Lib.hid hr5
            have HA5 := HAr
            clear hk5 he5 hr5 hw5 HX4
            go_wp2_with (first | (have tk := HW5; clear tk; rw [HW5.out]; clear HW5) | refine wpList_load_mid (by rfl) 29 _ (by rfl) b10 0 (by rfl) [.slice A l.length c, .int .i64 (g.length : Int), .int .i64 fuel, .slice R 16 cr, .int .i64 s.at0, .int .i64 s.steps, .int .i64 s.over, .int .i64 s.value] _ (range_at HX5.out 0 _ rfl) Try.underlying29 rfl (show _ = some 8 from info_M) ?_ | (have tk := HW; clear tk; rw [HW.out]; clear HW))
            refine (refStep_calls w5 l A c g.length fuel R cr s HOK.out.1 HR5.out (HRD.out.keep (HB.out.trans (HB5.out.mono HB.out.size))) (by have := HGD.out.2.1; omega) (fun x hx => ⟨(HGD.out.2.2.1 x hx).1, (HGD.out.2.2.1 x hx).2.1, (HGD.out.2.2.1 x hx).2.2.1⟩) HN.out HQr.out HOK.out.2.1 HOK.out.2.2.1 HOK.out.2.2.2.1 HOK.out.2.2.2.2 (by omega) _).mono ?_
            rintro y w6 ⟨R', cr', rfl, hr6, hb6, ho6⟩
            rw [HSS.out] at hr6 ⊢
            have HB6 := Lib.hid (HB5.out.trans (hb6.mono HB5.out.size))
            have HX6 := Lib.hid (below_blk hb6 HX5.out (blk_lt HX5.out))
            have HZ6 := Lib.hid (below_blk hb6 HZ5.out (blk_lt HZ5.out))
            have HE6 := Lib.hid (HE5.out.below hb6)
            have HR6 := Lib.hid hr6
            have HS6 := Lib.hid (Nat.le_trans HS5.out hb6.size)
            have HA6 : Hid (∀ q, (Value.slice R' 16 cr').ownBlock = some q → Value.ownBlock (.slice (some ⟨gM, 0, none⟩) e.mem.length cM) ≠ some q ∧ Value.ownBlock O ≠ some q) := Lib.hid (fun q hq => by
              rcases ho6 with h | h
              · subst h; exact HA5.out q ((own_any _ _ _ _ _).trans hq)
              · have h1 := h q hq
                exact ⟨fun h2 => by have := HE5.out.mem.lt h2; omega, fun h2 => by have := HE5.out.outs.lt h2; omega⟩)
            clear hb6 hr6 ho6
            go_wp2_with (refine wpList_store_mid (by rfl) 29 _ _ (by rfl) b10 0 #[.slice A l.length c, .int .i64 (g.length : Int), .int .i64 fuel, .slice R' 16 cr', .int .i64 s1.at0, .int .i64 s1.steps, .int .i64 s1.over, .int .i64 s1.value] (by rfl) (by rfl) (there_at HX6.out 0 8 (Nat.le_refl 8)) info_M (by simp [Value.oneCell']) ?_; have hx9 := blk_all (w := w6) [.slice A l.length c, .int .i64 (g.length : Int), .int .i64 fuel, .slice R' 16 cr', .int .i64 s1.at0, .int .i64 s1.steps, .int .i64 s1.over, .int .i64 s1.value] (by rfl) HX6.out; have hk9 : Keep (fun q => q = b10) w6 (w6.setCells b10 0 [.slice A l.length c, .int .i64 (g.length : Int), .int .i64 fuel, .slice R' 16 cr', .int .i64 s1.at0, .int .i64 s1.steps, .int .i64 s1.over, .int .i64 s1.value]) := keep_sets _ 0 (Keep.refl _ w6); have hw : w6.setCells b10 0 [.slice A l.length c, .int .i64 (g.length : Int), .int .i64 fuel, .slice R' 16 cr', .int .i64 s1.at0, .int .i64 s1.steps, .int .i64 s1.over, .int .i64 s1.value] = w6.setCells b10 0 (#[.slice A l.length c, .int .i64 (g.length : Int), .int .i64 fuel, .slice R' 16 cr', .int .i64 s1.at0, .int .i64 s1.steps, .int .i64 s1.over, .int .i64 s1.value]).toList := rfl; rw [hw] at hx9 hk9; clear hw; generalize w6.setCells b10 0 (#[.slice A l.length c, .int .i64 (g.length : Int), .int .i64 fuel, .slice R' 16 cr', .int .i64 s1.at0, .int .i64 s1.steps, .int .i64 s1.over, .int .i64 s1.value]).toList = w9 at *; have HX9 := Lib.hid hx9; have HK9 := Lib.hid hk9; clear hx9 hk9)
            have HE9 := Lib.hid (HE6.out.keepO HK9.out (fun q hq h => by omega))
            have HZ9 := Lib.hid (HK9.out.blk HZ6.out (by have := HP.out; omega))
            have HB9 := Lib.hid (HB6.out.trans (HK9.out.toBelow HB6.out.size (fun q e => by subst e; have := HP.out; omega)))
            have HR9 := Lib.hid (HR6.out.keep fun q hq => HK9.out.block q (HR6.out.lt hq) (fun e => HR6.out.ne HX6.out (by decide) (by rw [hq, e])))
            have HS9 := Lib.hid (Nat.le_trans HS6.out HK9.out.size)
            go_roundg m
            case measure => omega
            case rel => exact ⟨s1, _, (.slice (some ⟨gM, 0, none⟩) e.mem.length cM), O, I, R', cr', HRN, HOK1, HX9, HE9, HZ9, HB9, HS9, HLE, HOE, HST, HR9, HA6, HQ1, HM1⟩
        · have z0 : w4.cell? ⟨w3.heap.size, 0, none⟩ = some (.int .i64 3) := blk_cell HY4.out 0
          have z1 : w4.cell? ⟨w3.heap.size, 1, none⟩ = some (.int .i64 wa) := blk_cell HY4.out 1
          have z2 : w4.cell? ⟨w3.heap.size, 2, none⟩ = some (.int .i64 wv) := blk_cell HY4.out 2
          obtain ⟨rfl, rfl⟩ : { e with intos := e.intos ++ [(wa, wv)] } = e1 ∧ 0 = got := by have h := HGV.out; simpa only [giveS, if_true, if_false, Prod.mk.injEq, show ¬ ((3 : Int) = 1) by decide, show ¬ ((3 : Int) = 2) by decide] using h
          obtain ⟨AX, cX, rfl, _⟩ := HE4.out.intos.slice
          have d0 : w4.cell? ⟨b12, 2, none⟩ = some (.slice AX e.intos.length cX) := blk_cell HE4.out.blk 2
          have HRX : Hid (Row (w4.alloc (.cells #[.int .i64 wa, .int .i64 wv] 96)) 96 2 (.slice AX e.intos.length cX) e.intos.length (intoCells e.intos)) := Lib.hid (HE4.out.intos.alloc _)
          have HLX := Lib.hid (Row.laid (w := w4) (g := w4.heap.size) (n := 1) (cs := #[.int .i64 wa, .int .i64 wv]) (e := 96) (size := 2) rfl rfl (by decide))
          have HNB := Lib.hid (HE4.out.intos.ne HE4.out.blk (by decide))
          go_wp2_with (first | (have tk := HW5; clear tk; rw [HW5.out]; clear HW5) | (have tk := HX5; clear tk; refine wpList_load_mid (by rfl) 29 _ (by rfl) b10 0 (by rfl) [.slice A l.length c, .int .i64 (g.length : Int), .int .i64 fuel, .slice R 16 cr, .int .i64 s.at0, .int .i64 s.steps, .int .i64 s.over, .int .i64 s.value] _ (range_at HX5.out 0 _ rfl) Try.underlying29 rfl (show _ = some 8 from info_M) ?_) | (have tk := HRX; clear tk; refine wpList_append_rows _ (by rfl) _ _ 61 (by rfl) 96 (.agg #[.int .i64 0, .int .i64 0]) 2 16 Try.underlying61 info_into rfl _ e.intos.length _ (by rfl) HRX.out _ 1 [.int .i64 wa, .int .i64 wv] (by rfl) HLX.out (by simp [Value.oneCell']) (by have := HOr.out; unfold maxLen; omega) (by have := HOr.out; omega) ?_; intro v' w' hr' hg' hn'; obtain ⟨A', c', hv', _⟩ := hr'.slice; subst hv'; have fb : w'.cell? ⟨b12, 2, none⟩ = _ := blk_cell (grown_blk hg' (blk_alloc HE4.out.blk _) HNB.out) 2; have ff := blk_free (grown_blk hg' (blk_alloc HE4.out.blk _) HNB.out); simp only [effCells] at fb; have hfin := effR_into HE4.out HS4.out hg' hr' hn' HR4.out HAr.out; obtain ⟨w5, hw5⟩ : ∃ w5, w'.setCell ⟨b12, 2, none⟩ (.slice A' (e.intos.length + 1) c') = w5 := ⟨_, rfl⟩; rw [hw5] at hfin; have HW5 := Lib.hid hw5; have HFIN := Lib.hid hfin; have HX5 := Lib.hid (hfin.1.1.blk HX4.out (by omega)); clear hr' hg' hn' hfin hw5 d0 HRX z0 z1 z2) | (have tk := HW; clear tk; rw [HW.out]; clear HW))
          have HE5 := Lib.hid HFIN.out.1.2
          have HZ5 := Lib.hid (HFIN.out.1.1.blk HZ4.out (by have := HP.out; omega))
          have HB5 := Lib.hid (HB4.out.trans (HFIN.out.1.1.toBelow HB4.out.size (fun q hq => by have := HP.out; omega)))
          have HS5 := Lib.hid (Nat.le_trans HS4.out HFIN.out.1.1.size)
          have HR5 := Lib.hid HFIN.out.2
          have HA5 := HAr
          clear fb ff
          refine (refStep_calls w5 l A c g.length fuel R cr s HOK.out.1 HR5.out (HRD.out.keep (HB.out.trans (HB5.out.mono HB.out.size))) (by have := HGD.out.2.1; omega) (fun x hx => ⟨(HGD.out.2.2.1 x hx).1, (HGD.out.2.2.1 x hx).2.1, (HGD.out.2.2.1 x hx).2.2.1⟩) HN.out HQr.out HOK.out.2.1 HOK.out.2.2.1 HOK.out.2.2.2.1 HOK.out.2.2.2.2 (by omega) _).mono ?_
          rintro y w6 ⟨R', cr', rfl, hr6, hb6, ho6⟩
          rw [HSS.out] at hr6 ⊢
          have HB6 := Lib.hid (HB5.out.trans (hb6.mono HB5.out.size))
          have HX6 := Lib.hid (below_blk hb6 HX5.out (blk_lt HX5.out))
          have HZ6 := Lib.hid (below_blk hb6 HZ5.out (blk_lt HZ5.out))
          have HE6 := Lib.hid (HE5.out.below hb6)
          have HR6 := Lib.hid hr6
          have HS6 := Lib.hid (Nat.le_trans HS5.out hb6.size)
          have HA6 : Hid (∀ q, (Value.slice R' 16 cr').ownBlock = some q → Value.ownBlock M ≠ some q ∧ Value.ownBlock O ≠ some q) := Lib.hid (fun q hq => by
            rcases ho6 with h | h
            · subst h; exact HA5.out q ((own_any _ _ _ _ _).trans hq)
            · have h1 := h q hq
              exact ⟨fun h2 => by have := HE5.out.mem.lt h2; omega, fun h2 => by have := HE5.out.outs.lt h2; omega⟩)
          clear hb6 hr6 ho6
          go_wp2_with (refine wpList_store_mid (by rfl) 29 _ _ (by rfl) b10 0 #[.slice A l.length c, .int .i64 (g.length : Int), .int .i64 fuel, .slice R' 16 cr', .int .i64 s1.at0, .int .i64 s1.steps, .int .i64 s1.over, .int .i64 s1.value] (by rfl) (by rfl) (there_at HX6.out 0 8 (Nat.le_refl 8)) info_M (by simp [Value.oneCell']) ?_; have hx9 := blk_all (w := w6) [.slice A l.length c, .int .i64 (g.length : Int), .int .i64 fuel, .slice R' 16 cr', .int .i64 s1.at0, .int .i64 s1.steps, .int .i64 s1.over, .int .i64 s1.value] (by rfl) HX6.out; have hk9 : Keep (fun q => q = b10) w6 (w6.setCells b10 0 [.slice A l.length c, .int .i64 (g.length : Int), .int .i64 fuel, .slice R' 16 cr', .int .i64 s1.at0, .int .i64 s1.steps, .int .i64 s1.over, .int .i64 s1.value]) := keep_sets _ 0 (Keep.refl _ w6); have hw : w6.setCells b10 0 [.slice A l.length c, .int .i64 (g.length : Int), .int .i64 fuel, .slice R' 16 cr', .int .i64 s1.at0, .int .i64 s1.steps, .int .i64 s1.over, .int .i64 s1.value] = w6.setCells b10 0 (#[.slice A l.length c, .int .i64 (g.length : Int), .int .i64 fuel, .slice R' 16 cr', .int .i64 s1.at0, .int .i64 s1.steps, .int .i64 s1.over, .int .i64 s1.value]).toList := rfl; rw [hw] at hx9 hk9; clear hw; generalize w6.setCells b10 0 (#[.slice A l.length c, .int .i64 (g.length : Int), .int .i64 fuel, .slice R' 16 cr', .int .i64 s1.at0, .int .i64 s1.steps, .int .i64 s1.over, .int .i64 s1.value]).toList = w9 at *; have HX9 := Lib.hid hx9; have HK9 := Lib.hid hk9; clear hx9 hk9)
          have HE9 := Lib.hid (HE6.out.keepO HK9.out (fun q hq h => by omega))
          have HZ9 := Lib.hid (HK9.out.blk HZ6.out (by have := HP.out; omega))
          have HB9 := Lib.hid (HB6.out.trans (HK9.out.toBelow HB6.out.size (fun q e => by subst e; have := HP.out; omega)))
          have HR9 := Lib.hid (HR6.out.keep fun q hq => HK9.out.block q (HR6.out.lt hq) (fun e => HR6.out.ne HX6.out (by decide) (by rw [hq, e])))
          have HS9 := Lib.hid (Nat.le_trans HS6.out HK9.out.size)
          go_roundg m
          case measure => omega
          case rel => exact ⟨s1, _, M, O, (.slice A' (e.intos.length + 1) c'), R', cr', HRN, HOK1, HX9, HE9, HZ9, HB9, HS9, HLE, HOE, HST, HR9, HA6, HQ1, HM1⟩
        · have z0 : w4.cell? ⟨w3.heap.size, 0, none⟩ = some (.int .i64 4) := blk_cell HY4.out 0
          have z1 : w4.cell? ⟨w3.heap.size, 1, none⟩ = some (.int .i64 wa) := blk_cell HY4.out 1
          have z2 : w4.cell? ⟨w3.heap.size, 2, none⟩ = some (.int .i64 wv) := blk_cell HY4.out 2
          obtain ⟨rfl, rfl⟩ : { e with outs := e.outs ++ [wv] } = e1 ∧ 0 = got := by have h := HGV.out; simpa only [giveS, if_true, if_false, Prod.mk.injEq, show ¬ ((4 : Int) = 1) by decide, show ¬ ((4 : Int) = 2) by decide, show ¬ ((4 : Int) = 3) by decide] using h
          obtain ⟨AX, cX, rfl, _⟩ := HE4.out.outs.slice
          have d0 : w4.cell? ⟨b12, 1, none⟩ = some (.slice AX e.outs.length cX) := blk_cell HE4.out.blk 1
          have HRX : Hid (Row (w4.alloc (.cells #[.int .i64 wv] 2)) 2 1 (.slice AX e.outs.length cX) e.outs.length (nums e.outs)) := Lib.hid (HE4.out.outs.alloc _)
          have HLX := Lib.hid (Row.laid (w := w4) (g := w4.heap.size) (n := 1) (cs := #[.int .i64 wv]) (e := 2) (size := 1) rfl rfl (by decide))
          have HNB := Lib.hid (HE4.out.outs.ne HE4.out.blk (by decide))
          go_wp2_with (first | (have tk := HW5; clear tk; rw [HW5.out]; clear HW5) | (have tk := HX5; clear tk; refine wpList_load_mid (by rfl) 29 _ (by rfl) b10 0 (by rfl) [.slice A l.length c, .int .i64 (g.length : Int), .int .i64 fuel, .slice R 16 cr, .int .i64 s.at0, .int .i64 s.steps, .int .i64 s.over, .int .i64 s.value] _ (range_at HX5.out 0 _ rfl) Try.underlying29 rfl (show _ = some 8 from info_M) ?_) | (have tk := HRX; clear tk; refine wpList_append_rows _ (by rfl) _ _ 25 (by rfl) 2 (.int .i64 0) 1 8 Try.underlying25 info_i64 rfl _ e.outs.length _ (by rfl) HRX.out _ 1 [.int .i64 wv] (by rfl) HLX.out (by simp [Value.oneCell']) (by have := HOr.out; unfold maxLen; omega) (by have := HOr.out; omega) ?_; intro v' w' hr' hg' hn'; obtain ⟨A', c', hv', _⟩ := hr'.slice; subst hv'; have fb : w'.cell? ⟨b12, 1, none⟩ = _ := blk_cell (grown_blk hg' (blk_alloc HE4.out.blk _) HNB.out) 1; have ff := blk_free (grown_blk hg' (blk_alloc HE4.out.blk _) HNB.out); simp only [effCells] at fb; have hfin := effR_out HE4.out HS4.out hg' hr' hn' HR4.out HAr.out; obtain ⟨w5, hw5⟩ : ∃ w5, w'.setCell ⟨b12, 1, none⟩ (.slice A' (e.outs.length + 1) c') = w5 := ⟨_, rfl⟩; rw [hw5] at hfin; have HW5 := Lib.hid hw5; have HFIN := Lib.hid hfin; have HX5 := Lib.hid (hfin.1.1.blk HX4.out (by omega)); clear hr' hg' hn' hfin hw5 d0 HRX z0 z1 z2) | (have tk := HW; clear tk; rw [HW.out]; clear HW))
          have HE5 := Lib.hid HFIN.out.1.2
          have HZ5 := Lib.hid (HFIN.out.1.1.blk HZ4.out (by have := HP.out; omega))
          have HB5 := Lib.hid (HB4.out.trans (HFIN.out.1.1.toBelow HB4.out.size (fun q hq => by have := HP.out; omega)))
          have HS5 := Lib.hid (Nat.le_trans HS4.out HFIN.out.1.1.size)
          have HR5 := Lib.hid HFIN.out.2.1
          have HA5 := Lib.hid HFIN.out.2.2
          clear fb ff
          refine (refStep_calls w5 l A c g.length fuel R cr s HOK.out.1 HR5.out (HRD.out.keep (HB.out.trans (HB5.out.mono HB.out.size))) (by have := HGD.out.2.1; omega) (fun x hx => ⟨(HGD.out.2.2.1 x hx).1, (HGD.out.2.2.1 x hx).2.1, (HGD.out.2.2.1 x hx).2.2.1⟩) HN.out HQr.out HOK.out.2.1 HOK.out.2.2.1 HOK.out.2.2.2.1 HOK.out.2.2.2.2 (by omega) _).mono ?_
          rintro y w6 ⟨R', cr', rfl, hr6, hb6, ho6⟩
          rw [HSS.out] at hr6 ⊢
          have HB6 := Lib.hid (HB5.out.trans (hb6.mono HB5.out.size))
          have HX6 := Lib.hid (below_blk hb6 HX5.out (blk_lt HX5.out))
          have HZ6 := Lib.hid (below_blk hb6 HZ5.out (blk_lt HZ5.out))
          have HE6 := Lib.hid (HE5.out.below hb6)
          have HR6 := Lib.hid hr6
          have HS6 := Lib.hid (Nat.le_trans HS5.out hb6.size)
          have HA6 : Hid (∀ q, (Value.slice R' 16 cr').ownBlock = some q → Value.ownBlock M ≠ some q ∧ Value.ownBlock (.slice A' (e.outs.length + 1) c') ≠ some q) := Lib.hid (fun q hq => by
            rcases ho6 with h | h
            · subst h; exact HA5.out q ((own_any _ _ _ _ _).trans hq)
            · have h1 := h q hq
              exact ⟨fun h2 => by have := HE5.out.mem.lt h2; omega, fun h2 => by have := HE5.out.outs.lt h2; omega⟩)
          clear hb6 hr6 ho6
          go_wp2_with (refine wpList_store_mid (by rfl) 29 _ _ (by rfl) b10 0 #[.slice A l.length c, .int .i64 (g.length : Int), .int .i64 fuel, .slice R' 16 cr', .int .i64 s1.at0, .int .i64 s1.steps, .int .i64 s1.over, .int .i64 s1.value] (by rfl) (by rfl) (there_at HX6.out 0 8 (Nat.le_refl 8)) info_M (by simp [Value.oneCell']) ?_; have hx9 := blk_all (w := w6) [.slice A l.length c, .int .i64 (g.length : Int), .int .i64 fuel, .slice R' 16 cr', .int .i64 s1.at0, .int .i64 s1.steps, .int .i64 s1.over, .int .i64 s1.value] (by rfl) HX6.out; have hk9 : Keep (fun q => q = b10) w6 (w6.setCells b10 0 [.slice A l.length c, .int .i64 (g.length : Int), .int .i64 fuel, .slice R' 16 cr', .int .i64 s1.at0, .int .i64 s1.steps, .int .i64 s1.over, .int .i64 s1.value]) := keep_sets _ 0 (Keep.refl _ w6); have hw : w6.setCells b10 0 [.slice A l.length c, .int .i64 (g.length : Int), .int .i64 fuel, .slice R' 16 cr', .int .i64 s1.at0, .int .i64 s1.steps, .int .i64 s1.over, .int .i64 s1.value] = w6.setCells b10 0 (#[.slice A l.length c, .int .i64 (g.length : Int), .int .i64 fuel, .slice R' 16 cr', .int .i64 s1.at0, .int .i64 s1.steps, .int .i64 s1.over, .int .i64 s1.value]).toList := rfl; rw [hw] at hx9 hk9; clear hw; generalize w6.setCells b10 0 (#[.slice A l.length c, .int .i64 (g.length : Int), .int .i64 fuel, .slice R' 16 cr', .int .i64 s1.at0, .int .i64 s1.steps, .int .i64 s1.over, .int .i64 s1.value]).toList = w9 at *; have HX9 := Lib.hid hx9; have HK9 := Lib.hid hk9; clear hx9 hk9)
          have HE9 := Lib.hid (HE6.out.keepO HK9.out (fun q hq h => by omega))
          have HZ9 := Lib.hid (HK9.out.blk HZ6.out (by have := HP.out; omega))
          have HB9 := Lib.hid (HB6.out.trans (HK9.out.toBelow HB6.out.size (fun q e => by subst e; have := HP.out; omega)))
          have HR9 := Lib.hid (HR6.out.keep fun q hq => HK9.out.block q (HR6.out.lt hq) (fun e => HR6.out.ne HX6.out (by decide) (by rw [hq, e])))
          have HS9 := Lib.hid (Nat.le_trans HS6.out HK9.out.size)
          go_roundg m
          case measure => omega
          case rel => exact ⟨s1, _, M, (.slice A' (e.outs.length + 1) c'), I, R', cr', HRN, HOK1, HX9, HE9, HZ9, HB9, HS9, HLE, HOE, HST, HR9, HA6, HQ1, HM1⟩
      · have hov' : (s.over == 0) = false := by simp [hov]
        have hrn : runEnd l fuel g n i k = (s, e) := by
          have h := HR.out
          cases gk with
          | zero => exact h
          | succ m => rw [runN, if_neg hov] at h; exact h
        have HRN := Lib.hid hrn
        obtain ⟨AM, cM, hMs, _⟩ := HEr.out.mem.slice
        obtain ⟨AO, cO, hOs, _⟩ := HEr.out.outs.slice
        obtain ⟨AI, cI, hIs, _⟩ := HEr.out.intos.slice
        subst hMs hOs hIs
        have c5 := blk_cell HXr.out 5
        have c6 := blk_cell HXr.out 6
        have c7 := blk_cell HXr.out 7
        have d0 : wr.cell? ⟨b12, 0, none⟩ = some (.slice AM e.mem.length cM) := blk_cell HEr.out.blk 0
        have d1 : wr.cell? ⟨b12, 1, none⟩ = some (.slice AO e.outs.length cO) := blk_cell HEr.out.blk 1
        have d2 : wr.cell? ⟨b12, 2, none⟩ = some (.slice AI e.intos.length cI) := blk_cell HEr.out.blk 2
        have d3 : wr.cell? ⟨b12, 3, none⟩ = some (.int .i64 0) := blk_cell HEr.out.blk 3
        have d4 : wr.cell? ⟨b12, 4, none⟩ = some (.int .i64 0) := blk_cell HEr.out.blk 4
        have d5 : wr.cell? ⟨b12, 5, none⟩ = some (.int .i64 0) := blk_cell HEr.out.blk 5
        have ff := blk_free HEr.out.blk
        have hne : b12 ≠ b10 := by have := HEr.out.hb; omega
        clear hov hrn
        go_wp2_with fail
        go_region_held3 (fun V => V.cell? ⟨b10, 5, none⟩ = some (.int .i64 s.steps) ∧ V.cell? ⟨b10, 6, none⟩ = some (.int .i64 s.over) ∧ V.cell? ⟨b10, 7, none⟩ = some (.int .i64 s.value)) (go_keep) (fail)
        have hk9 : Keep (fun q => q = b12) wr (((wr.setCell ⟨b12, 3, none⟩ (.int .i64 s.over)).setCell ⟨b12, 4, none⟩ (.int .i64 s.value)).setCell ⟨b12, 5, none⟩ (.int .i64 s.steps)).drew := Keep.drew (Keep.set (O := fun q => q = b12) (Keep.set (O := fun q => q = b12) (Keep.set (O := fun q => q = b12) (Keep.refl _ wr) (p := ⟨b12, 3, none⟩) (.inl rfl) _) (p := ⟨b12, 4, none⟩) (.inl rfl) _) (p := ⟨b12, 5, none⟩) (.inl rfl) _)
        have hx9 : (((wr.setCell ⟨b12, 3, none⟩ (.int .i64 s.over)).setCell ⟨b12, 4, none⟩ (.int .i64 s.value)).setCell ⟨b12, 5, none⟩ (.int .i64 s.steps)).drew.heap[b12]? = some (.cells #[.slice AM e.mem.length cM, .slice AO e.outs.length cO, .slice AI e.intos.length cI, .int .i64 s.over, .int .i64 s.value, .int .i64 s.steps] 63 (0, 0)) := blk_set (blk_set (blk_set HEr.out.blk 3 _) 4 _) 5 _
        clear c5 c6 c7 d0 d1 d2 d3 d4 d5 ff
        generalize (((wr.setCell ⟨b12, 3, none⟩ (.int .i64 s.over)).setCell ⟨b12, 4, none⟩ (.int .i64 s.value)).setCell ⟨b12, 5, none⟩ (.int .i64 s.steps)).drew = w9 at *
        have hR0 : w.heap.size + 1 ≠ b12 := by have := HP.out; have := HEr.out.hb; omega
        have hr9 := hk9.blk HZr.out hR0
        have hb9 := HBr.out.trans (hk9.toBelow HBr.out.size (fun q h => by subst h; have := HEr.out.hb; have := HP.out; omega))
        have HK9 := Lib.hid hk9
        have HX9 := Lib.hid hx9
        have HR9 := Lib.hid hr9
        have HB9 := Lib.hid hb9
        have HR0 := Lib.hid hR0
        have d0 : w9.cell? ⟨b12, 0, none⟩ = some (.slice AM e.mem.length cM) := blk_cell hx9 0
        have d1 : w9.cell? ⟨b12, 1, none⟩ = some (.slice AO e.outs.length cO) := blk_cell hx9 1
        have d2 : w9.cell? ⟨b12, 2, none⟩ = some (.slice AI e.intos.length cI) := blk_cell hx9 2
        have d3 : w9.cell? ⟨b12, 3, none⟩ = some (.int .i64 s.over) := blk_cell hx9 3
        have d4 : w9.cell? ⟨b12, 4, none⟩ = some (.int .i64 s.value) := blk_cell hx9 4
        have d5 : w9.cell? ⟨b12, 5, none⟩ = some (.int .i64 s.steps) := blk_cell hx9 5
        have HT9 := Lib.hid (there_at hr9 0 6 (by decide))
        clear hk9 hx9 hr9 hb9 hR0
        go_wp2_with (refine wpList_store_mid (by rfl) 63 _ _ (by rfl) (w.heap.size + 1) 0 #[.slice AM e.mem.length cM, .slice AO e.outs.length cO, .slice AI e.intos.length cI, .int .i64 s.over, .int .i64 s.value, .int .i64 s.steps] (by rfl) (by rfl) HT9.out (by kernel_rfl) (by simp [Value.oneCell']) ?_)
        refine bodyPost_ret (results_cell_tmp rfl _ _ (w.heap.size + 1) [.slice AM e.mem.length cM, .slice AO e.outs.length cO, .slice AI e.intos.length cI, .int .i64 s.over, .int .i64 s.value, .int .i64 s.steps] rfl (World.rangeAt_setCells_same w9 _ 0 _ HT9.out) Try.underlying63 rfl (by kernel_rfl)) rfl ?_
        refine ⟨below_sets (Nat.le_succ _) _ 0 HB9.out, ?_⟩
        rw [if_pos HZ.out, HRN.out]
        have hrow : ∀ {q : Nat}, q < wr.heap.size → q ≠ b12 → q ≠ w.heap.size + 1 → (w9.setCells (w.heap.size + 1) 0 [.slice AM e.mem.length cM, .slice AO e.outs.length cO, .slice AI e.intos.length cI, .int .i64 s.over, .int .i64 s.value, .int .i64 s.steps]).heap[q]? = wr.heap[q]? := fun h1 h2 h3 => (heap_sets h3 _ 0).trans (HK9.out.block _ h1 h2)
        have hfr : ∀ {q : Nat}, b10 + 1 ≤ q → q ≠ w.heap.size + 1 := fun h => by have := HP.out; omega
        exact ⟨_, _, _, rfl, HEr.out.mem.keep (fun q hq => hrow (HEr.out.mem.lt hq) (fun h => HEr.out.mem.ne HEr.out.blk (by decide) (by rw [hq, h])) (hfr (HEr.out.fm q hq))), HEr.out.outs.keep (fun q hq => hrow (HEr.out.outs.lt hq) (fun h => HEr.out.outs.ne HEr.out.blk (by decide) (by rw [hq, h])) (hfr (HEr.out.fo q hq))), HEr.out.intos.keep (fun q hq => hrow (HEr.out.intos.lt hq) (fun h => HEr.out.intos.ne HEr.out.blk (by decide) (by rw [hq, h])) (hfr (HEr.out.fi q hq)))⟩
  · obtain ⟨E, hE⟩ : ∃ E, newE l cells g.length fuel = E := ⟨_, rfl⟩
    rw [hE] at hz
    have hE0 : (E != 0) = true := by simp [hz]
    have HE := Lib.hid hE
    have HZ := Lib.hid hz
    clear hz hE
    go_enter Try.func22, Try.ntmps22
    go_wp2_with fail
    have hsz1 : (w.alloc (.cells #[.slice B g.length gc, .int .i64 n, .int .i64 i, .int .i64 k] 58)).heap.size = w.heap.size + 1 := size_al _ _
    have hbw : Below w.heap.size w ((w.alloc (.cells #[.slice B g.length gc, .int .i64 n, .int .i64 i, .int .i64 k] 58)).alloc (.cells zeroE 63)) := ((Below.refl w.heap.size w).al).al
    have hx0 := blk_alloc (blk_new w (.cells #[.slice B g.length gc, .int .i64 n, .int .i64 i, .int .i64 k] 58)) (.cells zeroE 63)
    have hx1 := blk_new (w.alloc (.cells #[.slice B g.length gc, .int .i64 n, .int .i64 i, .int .i64 k] 58)) (.cells zeroE 63)
    rw [hsz1] at hx1
    have hsz2 : ((w.alloc (.cells #[.slice B g.length gc, .int .i64 n, .int .i64 i, .int .i64 k] 58)).alloc (.cells zeroE 63)).heap.size = w.heap.size + 2 := by rw [size_al, hsz1]
    refine (refNew_calls W l A c cells g.length fuel n i k HRD.out (by omega) _ (HB.out.trans (hbw.mono HB.out.size))).mono ?_
    intro e1 w1 hd
    obtain ⟨hb1, hd⟩ := hd
    have hs1 := hb1.size
    rw [hsz2] at hs1
    have hx0 := below_blk hb1 hx0 (blk_lt hx0)
    have hx1 := below_blk hb1 hx1 (blk_lt hx1)
    have hB1 := hbw.trans (hb1.mono hbw.size)
    clear hb1 hbw hsz1 hsz2
    have HX0 := Lib.hid hx0
    have HX1 := Lib.hid hx1
    have HB1 := Lib.hid hB1
    have HS1 := Lib.hid hs1
    clear hx0 hx1 hB1 hs1
    rw [HE.out, if_neg HZ.out] at hd
    subst hd
    rw [show (Value.agg zeroM) = .agg #[.slice none 0 0, .int .i64 0, .int .i64 0, .slice none 0 0, .int .i64 0, .int .i64 0, .int .i64 0, .int .i64 0] from rfl]
    have hb2 : Below w1.heap.size w1 (w1.alloc (.cells #[.slice none 0 0, .int .i64 0, .int .i64 0, .slice none 0 0, .int .i64 0, .int .i64 0, .int .i64 0, .int .i64 0] 29)) := (Below.refl _ _).al
    have HX2 := Lib.hid (below_blk hb2 HX1.out (blk_lt HX1.out))
    have HB2 := Lib.hid (HB1.out.trans (hb2.mono HB1.out.size))
    have HT := Lib.hid (there_at HX2.out 0 6 (by decide))
    clear hb2
    go_wp2_with (refine wpList_store_mid (by rfl) 63 _ _ (by rfl) (w.heap.size + 1) 0 #[.slice none 0 0, .slice none 0 0, .slice none 0 0, .int .i64 0, .int .i64 0, .int .i64 0] (by rfl) (by rfl) HT.out (by kernel_rfl) (by simp [Value.oneCell']) ?_)
    refine bodyPost_ret (results_cell_tmp rfl _ _ (w.heap.size + 1) [.slice none 0 0, .slice none 0 0, .slice none 0 0, .int .i64 0, .int .i64 0, .int .i64 0] rfl (World.rangeAt_setCells_same _ _ 0 _ HT.out) Try.underlying63 rfl (by kernel_rfl)) rfl ?_
    refine ⟨below_sets (Nat.le_succ _) _ 0 HB2.out, ?_⟩
    rw [HE.out, if_neg HZ.out]
    rfl
end Go.Proofs.Ytnikcdcaaeljmaa.My
