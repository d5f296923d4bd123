/- The plain memory of a run: what a want gives, and what it leaves. Conditions: the world's block and its rows lie in memory, each apart. -/
import Derived.Test.YtnikcdcaaeljmaaVmPair
import Derived.Deep.LoopGhost
namespace Go.Proofs.Ytnikcdcaaeljmaa.My
open Go.RowKit Go.Proofs.Ytnikcdcaaeljmaa.NumA
set_option linter.unusedVariables false
set_option linter.unusedSimpArgs false
structure Eff where
  mem : List Int
  outs : List Int
  intos : List (Int × Int)
def nums (l : List Int) : List Value := l.map (Value.int .i64)
def intoCells : List (Int × Int) → List Value
  | [] => []
  | x :: l => .int .i64 x.1 :: .int .i64 x.2 :: intoCells l
theorem intoCells_snoc : ∀ (l : List (Int × Int)) (x : Int × Int), intoCells (l ++ [x]) = intoCells l ++ [.int .i64 x.1, .int .i64 x.2]
  | [], _ => rfl
  | y :: l, x => by simp [intoCells, intoCells_snoc l x]
def effCells (M O I : Value) : Array Value := #[M, O, I, .int .i64 0, .int .i64 0, .int .i64 0]
/-- the world of a run in memory: its block b, the rows in blocks from base on -/
structure EffAt (w : World) (b base : Nat) (e : Eff) (M O I : Value) : Prop where
  blk : w.heap[b]? = some (.cells (effCells M O I) 93 (0, 0))
  mem : Row w 2 1 M e.mem.length (nums e.mem)
  outs : Row w 2 1 O e.outs.length (nums e.outs)
  intos : Row w 96 2 I e.intos.length (intoCells e.intos)
  fm : ∀ g, M.ownBlock = some g → base ≤ g
  fo : ∀ g, O.ownBlock = some g → base ≤ g
  fi : ∀ g, I.ownBlock = some g → base ≤ g
  mo : ∀ g, M.ownBlock = some g → O.ownBlock ≠ some g
  hb : base ≤ b
theorem EffAt.keepO {w w' : World} {b base : Nat} {e : Eff} {M O I : Value} (h : EffAt w b base e M O I) {S : Nat → Prop} (k : Keep S w w') (hS : ∀ g, base ≤ g → ¬ S g) : EffAt w' b base e M O I :=
  ⟨k.blk h.blk (hS _ h.hb), h.mem.keep fun g hg => k.block g (h.mem.lt hg) (hS _ (h.fm g hg)), h.outs.keep fun g hg => k.block g (h.outs.lt hg) (hS _ (h.fo g hg)), h.intos.keep fun g hg => k.block g (h.intos.lt hg) (hS _ (h.fi g hg)), h.fm, h.fo, h.fi, h.mo, h.hb⟩
theorem EffAt.below {w w' : World} {b base : Nat} {e : Eff} {M O I : Value} (h : EffAt w b base e M O I) (hB : Below w.heap.size w w') : EffAt w' b base e M O I :=
  h.keepO (S := fun _ => False) (Keep.below (Keep.refl _ w) hB) (fun _ _ e => e)
/-- what a want gives, and what it leaves -/
def giveS (e : Eff) (k at0 v : Int) : Eff × Int :=
  if k = 1 then (e, e.mem.getD at0.toNat 0) else if k = 2 then ({ e with mem := e.mem.set at0.toNat v }, 0)
  else if k = 3 then ({ e with intos := e.intos ++ [(at0, v)] }, 0) else if k = 4 then ({ e with outs := e.outs ++ [v] }, 0) else (e, 0)
def GiveOK (w : World) (b base : Nat) (e : Eff) (k at0 v : Int) (E : Ending) (w' : World) : Prop :=
  E = .returned (.int .i64 (giveS e k at0 v).2) ∧ Keep (fun q => base ≤ q) w w' ∧ ∃ M O I, EffAt w' b base (giveS e k at0 v).1 M O I
theorem wpList_store_any {P : Program} {ops : Array Oper} {rest : List Oper} {o : Oper} {a : Act} {w : World} {Q : Exit → Act → World → Prop} (hgd : o.guard = none) (ty : TypeId) (x y : Operand) (ho : o.op = .store ty x y)
    (b i : Nat) (hx : a.eval x = .pointer (some ⟨b, i, none⟩)) (k : IntKind) (v : Int) (hy : a.eval y = .int k v) (hi1 : (P.info? ty).map (·.size) = some 1) (hc : (w.cell? ⟨b, i, none⟩).isSome = true) (hf : w.frozen? ⟨b, i, none⟩ = false)
    (h : wpList P ops Q rest (a.put o.dst undef) (w.setCell ⟨b, i, none⟩ (.int k v))) : wpList P ops Q (o :: rest) a w := by
  refine wpList_plain hgd fun _ hK => ?_
  unfold Oper.wp execOp
  simp only [ho, hx, hy, Instr.storeAt, Instr.sureAddr, Sem.run_bind, Sem.run_pure, Result.andThen_ok, run_storeVar_one w b i ty k v hc hf hi1]
  exact hK _ _ h
theorem Row.put {w : World} {t : TypeId} {g c n : Nat} {xs : List Value} (h : Row w t 1 (.slice (some ⟨g, 0, none⟩) n c) n xs) (j : Nat) (u : Value) : Row (w.setCell ⟨g, j, none⟩ u) t 1 (.slice (some ⟨g, 0, none⟩) n c) n (xs.set j u) := by
  refine ⟨by simpa using h.1, ?_⟩
  rcases h.2 with ⟨h2, _⟩ | ⟨g', cap, cur, h2, hg, h3, h4, h5, h6⟩
  · cases h2
  · injection h2 with h2 _ h7
    injection h2 with h2; injection h2 with h2 _ _
    subst h2; subst h7
    refine .inr ⟨g, c, _, rfl, blk_set hg j u, h3, h4, by simpa using h5, ?_⟩
    rw [Array.toList_setIfInBounds, List.take_set, h6]
theorem nums_get {l : List Int} {j : Nat} (hj : j < l.length) : (nums l)[j]? = some (.int .i64 (l.getD j 0)) := by
  simp [nums, List.getD, hj]
theorem grown_blk {w w' : World} {row : Option Nat} {g : Nat} {o : Obj} (h : w.grownBy w' row) (hg : w.heap[g]? = some o) (hn : row ≠ some g) : w'.heap[g]? = some o := (h.block g (blk_lt hg) (fun e => hn e.symm)).trans hg
theorem info_into : (Try.prog.info? 96).map (fun i => (i.zero, i.size, i.bytes)) = some (some (.agg #[.int .i64 0, .int .i64 0]), 2, 16) := by kernel_rfl
set_option maxRecDepth 100000 in
set_option maxHeartbeats 1000000 in
theorem give_load (w : World) (b base : Nat) (e : Eff) (M O I : Value) (h : EffAt w b base e M O I) (j : Nat) (hj : j < e.mem.length) (v : Int) :
    Calls Try.prog 37 #[.pointer (some ⟨b, 0, none⟩), .agg #[.int .i64 1, .int .i64 (j : Int), .int .i64 v]] w (GiveOK w b base e 1 j v) := by
  obtain ⟨g, c, rfl, hcell, _⟩ := h.mem.cell (nums_get hj)
  have HB0 := Lib.hid (Below.al (Below.refl w.heap.size w) (o := .cells #[.int .i64 1, .int .i64 (j : Int), .int .i64 v] 35))
  have hbx := blk_new w (.cells #[.int .i64 1, .int .i64 (j : Int), .int .i64 v] 35)
  have hk := h.below HB0.out
  have hcell' := HB0.out.cellOf hcell
  generalize hw0 : w.alloc (.cells #[.int .i64 1, .int .i64 (j : Int), .int .i64 v] 35) = w0 at HB0 hbx hk hcell'
  have F0 := Lib.hid (blk_cell hk.blk 0)
  have F1 := Lib.hid (blk_cell hbx 1)
  have F2 := Lib.hid hcell'
  have HW := Lib.hid hw0
  have HK := Lib.hid hk
  have hj0 : (0 : Int) ≤ (j : Int) := by omega
  have hj1 : (j : Int) < (e.mem.length : Int) := by omega
  clear h hcell hbx hk hcell' hw0
  go_enter Try.func37, Try.ntmps37
  go_wp2
  rw [HW.out]
  have f0 := F0.out
  have f1 := F1.out
  have f2 := F2.out
  simp only [effCells] at f0
  go_quiet ((fail))
  clear f0 f1 f2
  go_wp2
  go_ret
  refine ⟨?_, Keep.drewN (Keep.below (Keep.refl _ w) HB0.out) _, _, O, I, HK.out.below (below_drewN (Below.refl _ _) _)⟩
  simp [giveS, hj]
set_option maxRecDepth 100000 in
set_option maxHeartbeats 1000000 in
theorem give_store (w : World) (b base : Nat) (e : Eff) (M O I : Value) (h : EffAt w b base e M O I) (j : Nat) (hj : j < e.mem.length) (v : Int) :
    Calls Try.prog 37 #[.pointer (some ⟨b, 0, none⟩), .agg #[.int .i64 2, .int .i64 (j : Int), .int .i64 v]] w (GiveOK w b base e 2 j v) := by
  obtain ⟨g, c, rfl, hcell, hfr⟩ := h.mem.cell (nums_get hj)
  have HB0 := Lib.hid (Below.al (Below.refl w.heap.size w) (o := .cells #[.int .i64 2, .int .i64 (j : Int), .int .i64 v] 35))
  have hbx := blk_new w (.cells #[.int .i64 2, .int .i64 (j : Int), .int .i64 v] 35)
  have hk := h.below HB0.out
  have hcell' := HB0.out.cellOf hcell
  have hfr' := (HB0.out.frozen (p := ⟨g, j, none⟩) (World.block_lt_of_cell? w _ hcell)).trans hfr
  generalize hw0 : w.alloc (.cells #[.int .i64 2, .int .i64 (j : Int), .int .i64 v] 35) = w0 at HB0 hbx hk hcell' hfr'
  have F0 := Lib.hid (blk_cell hk.blk 0)
  have F1 := Lib.hid (blk_cell hbx 1)
  have F2 := Lib.hid (blk_cell hbx 2)
  have F3 := Lib.hid hcell'
  have F4 := Lib.hid hfr'
  have HW := Lib.hid hw0
  have HK := Lib.hid hk
  have hj0 : (0 : Int) ≤ (j : Int) := by omega
  have hj1 : (j : Int) < (e.mem.length : Int) := by omega
  clear h hcell hbx hk hcell' hw0 hfr hfr'
  go_enter Try.func37, Try.ntmps37
  go_wp2
  rw [HW.out]
  have f0 := F0.out
  have f1 := F1.out
  have f2 := F2.out
  simp only [effCells] at f0
  go_still_tail 10, (by kernel_rfl)
  refine wpList_store_any (by rfl) 2 _ _ (by rfl) g j (by rfl) .i64 v (by rfl) (by kernel_rfl) (show (w0.cell? ⟨g, j, none⟩).isSome = true by rw [F3.out]; rfl) F4.out ?_
  clear f0 f1 f2
  go_wp2
  go_ret
  have hgb : b ≠ g := fun e1 => by
    have := HK.out.mem.ne HK.out.blk (by decide) (e := 2)
    exact this (by simp [Value.ownBlock, e1])
  have hk1 : Keep (fun q => q = g) w0.drew (w0.drew.setCell ⟨g, j, none⟩ (.int .i64 v)) := Keep.set (O := fun q => q = g) (Keep.refl _ _) (p := ⟨g, j, none⟩) (.inl rfl) _
  have hgv : giveS e 2 (j : Int) v = ({ e with mem := e.mem.set j v }, 0) := by simp [giveS]
  refine ⟨by rw [hgv]; rfl, ?_, .slice (some ⟨g, 0, none⟩) e.mem.length c, O, I, ?_⟩
  · exact Keep.set (O := fun q => base ≤ q) (Keep.drew (Keep.below (Keep.refl _ w) HB0.out)) (p := ⟨g, j, none⟩) (.inl (HK.out.fm g rfl)) _
  · have H := HK.out
    rw [hgv]
    refine ⟨hk1.blk H.blk hgb, ?_, ?_, ?_, H.fm, H.fo, H.fi, H.mo, H.hb⟩
    · have e1 : nums (e.mem.set j v) = (nums e.mem).set j (.int .i64 v) := by simp [nums, List.map_set]
      show Row _ _ _ _ (e.mem.set j v).length (nums (e.mem.set j v))
      rw [e1, List.length_set]
      exact (H.mem.drewed).put j (.int .i64 v)
    · exact (H.outs.drewed).keep fun q hq => hk1.block q (H.outs.lt hq) (fun e1 => H.mo g rfl (by rw [hq, e1]))
    · exact (H.intos.drewed).keep fun q hq => hk1.block q (H.intos.lt hq) (fun e1 => by
        rcases H.mem.2 with ⟨h2, _⟩ | ⟨g2, cap, cur, h2, hg2, _⟩
        · cases h2
        · injection h2 with h2 _ _; injection h2 with h2; injection h2 with h2 _ _
          exact H.intos.ne hg2 (by decide) (by rw [hq, e1, h2]))
theorem grown_undrew {w w' : World} {row : Option Nat} (h : w.drew.grownBy w' row) : w.grownBy w' row := ⟨h.os, h.tape, h.output, h.size, h.block⟩
theorem rows_apart {w : World} {e e' : TypeId} {s s' n n' : Nat} {v v' : Value} {xs xs' : List Value} (h : Row w e s v n xs) (h' : Row w e' s' v' n' xs') (hne : e ≠ e') : ∀ q, v.ownBlock = some q → v'.ownBlock ≠ some q := by
  intro q hq hq'
  rcases h'.2 with ⟨h2, _⟩ | ⟨g, cap, cur, h2, hg, _⟩
  · subst h2; simp [Value.ownBlock] at hq'
  · subst h2; simp [Value.ownBlock] at hq'; subst hq'
    exact h.ne hg hne hq
theorem Row.far {w w' : World} {e : TypeId} {s n : Nat} {v : Value} {xs : List Value} (h : Row w e s v n xs) {b i : Nat} {u : Value} (hb : ∀ q, v.ownBlock = some q → w'.heap[q]? = w.heap[q]?) (hn : v.ownBlock ≠ some b) : Row (w'.setCell ⟨b, i, none⟩ u) e s v n xs :=
  h.keep fun q hq => (Below.heap_setCell w' ⟨b, i, none⟩ u q (fun e1 => hn (by rw [hq, e1]))).trans (hb q hq)
theorem into_fin {w w0 w' : World} {b base : Nat} {e : Eff} {M O : Value} {AX A' : Option Addr} {cX c' : Nat} {at0 v : Int} {X : Obj} (hB : Below w.heap.size w w0) (h : EffAt w0 b base e M O (.slice AX e.intos.length cX)) (hbw : base ≤ w.heap.size)
    (hg : (w0.alloc X).grownBy w' (Value.slice AX e.intos.length cX).ownBlock) (hr : Row w' 96 2 (.slice A' (e.intos.length + 1) c') (e.intos.length + 1) (intoCells e.intos ++ [.int .i64 at0, .int .i64 v]))
    (ho : (Value.slice A' (e.intos.length + 1) c').ownBlock = (Value.slice AX e.intos.length cX).ownBlock ∨ (Value.slice A' (e.intos.length + 1) c').ownBlock = some (w0.alloc X).heap.size) :
    GiveOK w b base e 3 at0 v (.returned (.int .i64 0)) (w'.setCell ⟨b, 2, none⟩ (.slice A' (e.intos.length + 1) c')) := by
  have hsz := hB.size
  have hgv : giveS e 3 at0 v = ({ e with intos := e.intos ++ [(at0, v)] }, 0) := by simp [giveS]
  have hbb := grown_blk hg (blk_alloc h.blk X) (h.intos.ne h.blk (by decide))
  have hfar : ∀ q, q < w0.heap.size → (Value.slice AX e.intos.length cX).ownBlock ≠ some q → w'.heap[q]? = w0.heap[q]? := fun q hq hn => (hg.block q (by simp; omega) (fun e1 => hn e1.symm)).trans (Below.heap_alloc w0 X q hq)
  have hk : Keep (fun q => base ≤ q) w0 w' := Keep.grown (Keep.alloc (Keep.refl _ _) X) hg (fun k hk => .inl (h.fi k hk))
  refine ⟨by rw [hgv], ?_, M, O, .slice A' (e.intos.length + 1) c', ?_⟩
  · exact Keep.set (O := fun q => base ≤ q) ((Keep.below (Keep.refl _ w) hB).trans hk (fun _ _ e => e)) (p := ⟨b, 2, none⟩) (.inl h.hb) _
  · rw [hgv]
    refine ⟨blk_set hbb 2 _, h.mem.far (fun q hq => hfar q (h.mem.lt hq) (rows_apart h.mem h.intos (by decide) q hq)) (h.mem.ne h.blk (by decide)), h.outs.far (fun q hq => hfar q (h.outs.lt hq) (rows_apart h.outs h.intos (by decide) q hq)) (h.outs.ne h.blk (by decide)), ?_, h.fm, h.fo, ?_, h.mo, h.hb⟩
    · show Row _ _ _ _ (e.intos ++ [(at0, v)]).length (intoCells (e.intos ++ [(at0, v)]))
      rw [intoCells_snoc, List.length_append]
      exact hr.far (fun _ _ => rfl) (hr.ne hbb (by decide))
    · intro q hq
      rcases ho with e1 | e1
      · exact h.fi q (e1 ▸ hq)
      · rw [hq] at e1; have := Option.some.inj e1; simp at this; omega
theorem out_fin {w w0 w' : World} {b base : Nat} {e : Eff} {M I : Value} {AX A' : Option Addr} {cX c' : Nat} {at0 v : Int} {X : Obj} (hB : Below w.heap.size w w0) (h : EffAt w0 b base e M (.slice AX e.outs.length cX) I) (hbw : base ≤ w.heap.size)
    (hg : (w0.alloc X).grownBy w' (Value.slice AX e.outs.length cX).ownBlock) (hr : Row w' 2 1 (.slice A' (e.outs.length + 1) c') (e.outs.length + 1) (nums e.outs ++ [.int .i64 v]))
    (ho : (Value.slice A' (e.outs.length + 1) c').ownBlock = (Value.slice AX e.outs.length cX).ownBlock ∨ (Value.slice A' (e.outs.length + 1) c').ownBlock = some (w0.alloc X).heap.size) :
    GiveOK w b base e 4 at0 v (.returned (.int .i64 0)) (w'.setCell ⟨b, 1, none⟩ (.slice A' (e.outs.length + 1) c')) := by
  have hsz := hB.size
  have hgv : giveS e 4 at0 v = ({ e with outs := e.outs ++ [v] }, 0) := by simp [giveS]
  have hbb := grown_blk hg (blk_alloc h.blk X) (h.outs.ne h.blk (by decide))
  have hfar : ∀ q, q < w0.heap.size → (Value.slice AX e.outs.length cX).ownBlock ≠ some q → w'.heap[q]? = w0.heap[q]? := fun q hq hn => (hg.block q (by simp; omega) (fun e1 => hn e1.symm)).trans (Below.heap_alloc w0 X q hq)
  have hk : Keep (fun q => base ≤ q) w0 w' := Keep.grown (Keep.alloc (Keep.refl _ _) X) hg (fun k hk => .inl (h.fo k hk))
  refine ⟨by rw [hgv], ?_, M, .slice A' (e.outs.length + 1) c', I, ?_⟩
  · exact Keep.set (O := fun q => base ≤ q) ((Keep.below (Keep.refl _ w) hB).trans hk (fun _ _ e => e)) (p := ⟨b, 1, none⟩) (.inl h.hb) _
  · rw [hgv]
    refine ⟨blk_set hbb 1 _, h.mem.far (fun q hq => hfar q (h.mem.lt hq) (h.mo q hq)) (h.mem.ne h.blk (by decide)), ?_, h.intos.far (fun q hq => hfar q (h.intos.lt hq) (rows_apart h.intos h.outs (by decide) q hq)) (h.intos.ne h.blk (by decide)), h.fm, ?_, h.fi, ?_, h.hb⟩
    · show Row _ _ _ _ (e.outs ++ [v]).length (nums (e.outs ++ [v]))
      rw [show nums (e.outs ++ [v]) = nums e.outs ++ [.int .i64 v] by simp [nums], List.length_append]
      exact hr.far (fun _ _ => rfl) (hr.ne hbb (by decide))
    · intro q hq
      rcases ho with e1 | e1
      · exact h.fo q (e1 ▸ hq)
      · rw [hq] at e1; have := Option.some.inj e1; simp at this; omega
    · intro q hq hq'
      rcases ho with e1 | e1
      · exact h.mo q hq (e1 ▸ hq')
      · rw [hq'] at e1; have := Option.some.inj e1; simp at this; have := h.mem.lt hq; omega
set_option maxRecDepth 100000 in
set_option maxHeartbeats 2000000 in
theorem give_into (w : World) (b base : Nat) (e : Eff) (M O I : Value) (h : EffAt w b base e M O I) (hbw : base ≤ w.heap.size) (at0 v : Int) (hn : e.intos.length ≤ 100000) :
    Calls Try.prog 37 #[.pointer (some ⟨b, 0, none⟩), .agg #[.int .i64 3, .int .i64 at0, .int .i64 v]] w (GiveOK w b base e 3 at0 v) := by
  obtain ⟨AX, cX, hX, hcX⟩ := h.intos.slice
  subst hX
  have HB0 := Lib.hid (Below.al (Below.refl w.heap.size w) (o := .cells #[.int .i64 3, .int .i64 at0, .int .i64 v] 35))
  have hbx := blk_new w (.cells #[.int .i64 3, .int .i64 at0, .int .i64 v] 35)
  have hk := h.below HB0.out
  generalize hw0 : w.alloc (.cells #[.int .i64 3, .int .i64 at0, .int .i64 v] 35) = w0 at HB0 hbx hk
  have F0 := Lib.hid (blk_cell hk.blk 2)
  have F1 := Lib.hid (blk_cell hbx 1)
  have F2 := Lib.hid (blk_cell hbx 2)
  have HW := Lib.hid hw0
  have HK := Lib.hid hk
  have HX := Lib.hid hbx
  have HBW := Lib.hid hbw
  have HN := Lib.hid hn
  clear h hbx hk hw0 hbw hn
  go_enter Try.func37, Try.ntmps37
  go_wp2
  rw [HW.out]
  have f0 : w0.cell? ⟨b, 2, none⟩ = some (.slice AX e.intos.length cX) := F0.out
  have f1 : w0.cell? ⟨w.heap.size, 1, none⟩ = some (.int .i64 at0) := F1.out
  have f2 : w0.cell? ⟨w.heap.size, 2, none⟩ = some (.int .i64 v) := F2.out
  have hn0 := fun o => (Below.al (Below.refl w0.heap.size w0) (o := o)).cellOf f0
  have hn1 := fun o => (Below.al (Below.refl w0.heap.size w0) (o := o)).cellOf f1
  have hn2 := fun o => (Below.al (Below.refl w0.heap.size w0) (o := o)).cellOf f2
  have HNB := Lib.hid (HK.out.intos.ne HK.out.blk (by decide))
  have hrow : Row w0 96 2 (.slice AX e.intos.length cX) e.intos.length (intoCells e.intos) := HK.out.intos
  have hlaid := Row.laid (w := w0) (g := w0.heap.size) (n := 1) (cs := #[.int .i64 at0, .int .i64 v]) (e := 96) (size := 2) rfl rfl (by decide)
  have HR := Lib.hid (hrow.alloc (.cells #[.int .i64 at0, .int .i64 v] 96))
  have HL := Lib.hid hlaid
  clear hrow hlaid
  go_region_law (first | (refine step_append_rows (by rfl) _ _ 61 (by rfl) 96 (.agg #[.int .i64 0, .int .i64 0]) 2 16 Try.underlying61 info_into rfl (.slice AX e.intos.length cX) _ _ (by rfl) (by first | exact HR.out | exact HR.out.drewed) (.slice (some ⟨w0.heap.size, 0, none⟩) 1 1) 1 [.int .i64 at0, .int .i64 v] (by rfl) (by first | exact HL.out | exact HL.out.drewed) (by simp [Value.oneCell']) (by have := HN.out; unfold maxLen; omega) (by have := HN.out; omega) ?_; intro v' w' hrow' hgrow hown; obtain ⟨A', c', hv', hc'⟩ := hrow'.slice; subst hv'; have hbb := grown_blk hgrow (blk_alloc HK.out.blk _) HNB.out; have fb := blk_cell hbb 2; have ff := blk_free hbb; simp only [effCells] at fb))
  all_goals
    clear f0 f1 f2 hn0 hn1 hn2 fb ff hbb
    go_wp2
    go_ret
    exact into_fin HB0.out HK.out HBW.out (grown_undrew hgrow) hrow' hown
set_option maxRecDepth 100000 in
set_option maxHeartbeats 2000000 in
theorem give_out (w : World) (b base : Nat) (e : Eff) (M O I : Value) (h : EffAt w b base e M O I) (hbw : base ≤ w.heap.size) (at0 v : Int) (hn : e.outs.length ≤ 100000) :
    Calls Try.prog 37 #[.pointer (some ⟨b, 0, none⟩), .agg #[.int .i64 4, .int .i64 at0, .int .i64 v]] w (GiveOK w b base e 4 at0 v) := by
  obtain ⟨AX, cX, hX, hcX⟩ := h.outs.slice
  subst hX
  have HB0 := Lib.hid (Below.al (Below.refl w.heap.size w) (o := .cells #[.int .i64 4, .int .i64 at0, .int .i64 v] 35))
  have hbx := blk_new w (.cells #[.int .i64 4, .int .i64 at0, .int .i64 v] 35)
  have hk := h.below HB0.out
  generalize hw0 : w.alloc (.cells #[.int .i64 4, .int .i64 at0, .int .i64 v] 35) = w0 at HB0 hbx hk
  have F0 := Lib.hid (blk_cell hk.blk 1)
  have F1 := Lib.hid (blk_cell hbx 1)
  have F2 := Lib.hid (blk_cell hbx 2)
  have HW := Lib.hid hw0
  have HK := Lib.hid hk
  have HX := Lib.hid hbx
  have HBW := Lib.hid hbw
  have HN := Lib.hid hn
  clear h hbx hk hw0 hbw hn
  go_enter Try.func37, Try.ntmps37
  go_wp2
  rw [HW.out]
  have f0 : w0.cell? ⟨b, 1, none⟩ = some (.slice AX e.outs.length cX) := F0.out
  have f1 : w0.cell? ⟨w.heap.size, 1, none⟩ = some (.int .i64 at0) := F1.out
  have f2 : w0.cell? ⟨w.heap.size, 2, none⟩ = some (.int .i64 v) := F2.out
  have hn0 := fun o => (Below.al (Below.refl w0.heap.size w0) (o := o)).cellOf f0
  have hn1 := fun o => (Below.al (Below.refl w0.heap.size w0) (o := o)).cellOf f1
  have hn2 := fun o => (Below.al (Below.refl w0.heap.size w0) (o := o)).cellOf f2
  have HNB := Lib.hid (HK.out.outs.ne HK.out.blk (by decide))
  have hrow : Row w0 2 1 (.slice AX e.outs.length cX) e.outs.length (nums e.outs) := HK.out.outs
  have hlaid := Row.laid (w := w0) (g := w0.heap.size) (n := 1) (cs := #[.int .i64 v]) (e := 2) (size := 1) rfl rfl (by decide)
  have HR := Lib.hid (hrow.alloc (.cells #[.int .i64 v] 2))
  have HL := Lib.hid hlaid
  clear hrow hlaid
  go_region_law (first | (refine step_append_rows (by rfl) _ _ 25 (by rfl) 2 (.int .i64 0) 1 8 Try.underlying25 info_i64 rfl (.slice AX e.outs.length cX) _ _ (by rfl) (by first | exact HR.out | exact HR.out.drewed) (.slice (some ⟨w0.heap.size, 0, none⟩) 1 1) 1 [.int .i64 v] (by rfl) (by first | exact HL.out | exact HL.out.drewed) (by simp [Value.oneCell']) (by have := HN.out; unfold maxLen; omega) (by have := HN.out; omega) ?_; intro v' w' hrow' hgrow hown; obtain ⟨A', c', hv', hc'⟩ := hrow'.slice; subst hv'; have hbb := grown_blk hgrow (blk_alloc HK.out.blk _) HNB.out; have fb := blk_cell hbb 1; have ff := blk_free hbb; simp only [effCells] at fb))
  all_goals
    clear f0 f1 f2 hn0 hn1 hn2 fb ff hbb
    go_wp2
    go_ret
    exact out_fin HB0.out HK.out HBW.out (grown_undrew hgrow) hrow' hown
theorem give_none (w : World) (b base : Nat) (e : Eff) (M O I : Value) (h : EffAt w b base e M O I) (at0 v : Int) :
    Calls Try.prog 37 #[.pointer (some ⟨b, 0, none⟩), .agg #[.int .i64 0, .int .i64 at0, .int .i64 v]] w (GiveOK w b base e 0 at0 v) := by
  have HK := Lib.hid h
  clear h
  go_enter Try.func37, Try.ntmps37
  go_wp2
  go_ret
  exact ⟨rfl, Keep.alloc (Keep.refl _ w) _, M, O, I, HK.out.below (Below.refl _ _).al⟩
/-- a want that may be done -/
def okWant (e : Eff) (k at0 : Int) : Prop := k = 0 ∨ ((k = 1 ∨ k = 2) ∧ 0 ≤ at0 ∧ at0 < e.mem.length) ∨ k = 3 ∨ k = 4
theorem give_calls (w : World) (b base : Nat) (e : Eff) (M O I : Value) (h : EffAt w b base e M O I) (hbw : base ≤ w.heap.size) (k at0 v : Int) (hw : okWant e k at0) (hi : e.intos.length ≤ 100000) (ho : e.outs.length ≤ 100000) :
    Calls Try.prog 37 #[.pointer (some ⟨b, 0, none⟩), .agg #[.int .i64 k, .int .i64 at0, .int .i64 v]] w (GiveOK w b base e k at0 v) := by
  rcases hw with rfl | ⟨hk, h0, h1⟩ | rfl | rfl
  · exact give_none w b base e M O I h at0 v
  · obtain ⟨j, rfl⟩ : ∃ j : Nat, at0 = j := ⟨at0.toNat, by omega⟩
    rcases hk with rfl | rfl
    · exact give_load w b base e M O I h j (by omega) v
    · exact give_store w b base e M O I h j (by omega) v
  · exact give_into w b base e M O I h hbw at0 v hi
  · exact give_out w b base e M O I h hbw at0 v ho
end Go.Proofs.Ytnikcdcaaeljmaa.My
