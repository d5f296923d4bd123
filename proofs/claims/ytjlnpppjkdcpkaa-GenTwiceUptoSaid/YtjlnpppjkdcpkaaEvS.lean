/- The evaluator's statements, walked. Conditions: the tree was there in the world W, which is kept; the machine lies in memory. -/
import Derived.Test.YtjlnpppjkdcpkaaEvB
namespace Go.Proofs.Ytjlnpppjkdcpkaa.My
open Go.RowKit Go.Proofs.Ytjlnpppjkdcpkaa.NumA
set_option linter.unusedVariables false
set_option linter.unusedSimpArgs false
theorem exprsV_snoc (S : Ev) (e : Expr) : ∀ l : List Expr, exprsV S (l ++ [e]) = (match exprsV S l with
    | .left h v => .left h v
    | .ok vs => match exprV S e with
      | .left h v => .left h v
      | .ok v => .ok (vs ++ [v]))
  | [] => by simp only [List.nil_append, exprsV]; cases exprV S e <;> rfl
  | x :: l => by
    simp only [List.cons_append, exprsV, exprsV_snoc S e l]
    cases exprV S x with
    | left h v => rfl
    | ok v => cases exprsV S l with
      | left h u => rfl
      | ok vs => cases exprV S e <;> rfl
theorem exprsV_left {S : Ev} {h v : Int} : ∀ {l m : List Expr}, exprsV S l = .left h v → exprsV S (l ++ m) = .left h v
  | [], m, hl => by cases hl
  | x :: l, m, hl => by
    simp only [List.cons_append, exprsV] at hl ⊢
    cases hx : exprV S x with
    | left h' v' => rw [hx] at hl; exact hl
    | ok u =>
      rw [hx] at hl
      simp only at hl ⊢
      cases hy : exprsV S l with
      | left h' v' => rw [hy] at hl; simp only at hl; cases hl; rw [exprsV_left hy]
      | ok vs => rw [hy] at hl; simp only at hl; cases hl
theorem vset (vs : List Int) (k : Nat) (u : Int) (hv : vs.length = k) (hk : k < 2) : (#[.int .i64 (vs.getD 0 0), .int .i64 (vs.getD 1 0)] : Array Value).setIfInBounds k (.int .i64 u) = #[.int .i64 ((vs ++ [u]).getD 0 0), .int .i64 ((vs ++ [u]).getD 1 0)] := by
  match vs, hv with
  | [], h => simp at h; subst h; rfl
  | [a], h => simp at h; subst h; rfl
  | _ :: _ :: _, h => simp at h; omega
/-- what lies elsewhere changes -/
theorem EvAt.apart {w w' : World} {p base : Nat} {B : Int} {S : Ev} {N V M O I : Value} (h : EvAt w p base B S N V M O I) {b : Nat} {cs : Array Value} (hb : w.heap[b]? = some (.cells cs 148 (0, 0))) (k : Keep (fun q => q = b) w w') : EvAt w' p base B S N V M O I :=
  have far : ∀ {v : Value} {z n : Nat} {ty : TypeId} {xs : List Value}, Row w ty z v n xs → ty ≠ 148 → Row w' ty z v n xs := fun hr hne => hr.keep fun g hg => k.block g (hr.lt hg) (fun e => hr.ne hb hne (by rw [hg, e]))
  ⟨k.blk h.blk (fun e => by subst e; have q := h.blk; rw [hb] at q; injection q with q; injection q with _ q; exact absurd q (by decide)), far h.names (by decide), far h.vals (by decide), far h.mem (by decide), far h.outs (by decide), far h.intos (by decide), h.fn, h.fv, h.fm, h.fo, h.fi, h.vm, h.vo, h.mo, h.hb, h.eq⟩
theorem own_noBox {w : World} {e : TypeId} {z n : Nat} {v : Value} {xs : List Value} (h : Row w e z v n xs) (hne : ∀ i : Fin 3, e ≠ bt i) (q : Nat) (cs : Array Value × Fin 3) (ho : v.ownBlock = some q) : w.heap[q]? ≠ some (.cells cs.1 (bt cs.2) (0, 0)) := fun hq => h.ne hq (hne cs.2) ho
theorem EvAt.setVal {w : World} {p base : Nat} {B : Int} {S : Ev} {N M O I : Value} {g c : Nat} (h : EvAt w p base B S N (.slice (some ⟨g, 0, none⟩) S.vals.length c) M O I) (i : Nat) (u : Int) : EvAt (w.setCell ⟨g, i, none⟩ (.int .i64 u)) p base B { S with vals := S.vals.set i u } N (.slice (some ⟨g, 0, none⟩) S.vals.length c) M O I := by
  have hgp : g ≠ p := fun e => h.vals.ne h.blk (by decide) (by rw [e]; rfl)
  have far : ∀ {v : Value} {z n : Nat} {ty : TypeId} {xs : List Value}, Row w ty z v n xs → v.ownBlock ≠ some g → Row (w.setCell ⟨g, i, none⟩ (.int .i64 u)) ty z v n xs := fun hr hne => hr.keep fun q hq => Below.heap_setCell _ _ _ _ (fun e => hne (by rw [hq, e]))
  refine ⟨blk_far h.blk (Ne.symm hgp) _, far h.names (fun e => rows_apart h.names h.vals (by decide) g e rfl), ?_, far h.mem (h.vm g rfl), far h.outs (h.vo g rfl), far h.intos (fun e => rows_apart h.intos h.vals (by decide) g e rfl), h.fn, h.fv, h.fm, h.fo, h.fi, h.vm, h.vo, h.mo, h.hb, by simpa using h.eq⟩
  have q := h.vals.put i (.int .i64 u)
  show Row _ _ _ _ (S.vals.set i u).length (nums (S.vals.set i u))
  rw [List.length_set, show nums (S.vals.set i u) = (nums S.vals).set i (.int .i64 u) by simp [nums, List.map_set]]
  exact q
theorem EvAt.setMem {w : World} {p base : Nat} {B : Int} {S : Ev} {N V O I : Value} {g c : Nat} (h : EvAt w p base B S N V (.slice (some ⟨g, 0, none⟩) S.mem.length c) O I) (i : Nat) (u : Int) : EvAt (w.setCell ⟨g, i, none⟩ (.int .i64 u)) p base B { S with mem := S.mem.set i u } N V (.slice (some ⟨g, 0, none⟩) S.mem.length c) O I := by
  have hgp : g ≠ p := fun e => h.mem.ne h.blk (by decide) (by rw [e]; rfl)
  have far : ∀ {v : Value} {z n : Nat} {ty : TypeId} {xs : List Value}, Row w ty z v n xs → v.ownBlock ≠ some g → Row (w.setCell ⟨g, i, none⟩ (.int .i64 u)) ty z v n xs := fun hr hne => hr.keep fun q hq => Below.heap_setCell _ _ _ _ (fun e => hne (by rw [hq, e]))
  refine ⟨blk_far h.blk (Ne.symm hgp) _, far h.names (fun e => rows_apart h.names h.mem (by decide) g e rfl), far h.vals (fun e => h.vm g e rfl), ?_, far h.outs (h.mo g rfl), far h.intos (fun e => rows_apart h.intos h.mem (by decide) g e rfl), h.fn, h.fv, h.fm, h.fo, h.fi, h.vm, h.vo, h.mo, h.hb, h.eq⟩
  have q := h.mem.put i (.int .i64 u)
  show Row _ _ _ _ (S.mem.set i u).length (nums (S.mem.set i u))
  rw [List.length_set, show nums (S.mem.set i u) = (nums S.mem).set i (.int .i64 u) by simp [nums, List.map_set]]
  exact q
theorem EvAt.pushOut {w w' : World} {p base : Nat} {B : Int} {S : Ev} {N V M I : Value} {AX A' : Option Addr} {cX c' : Nat} {v : Int} {X : Obj} (h : EvAt w p base B S N V M (.slice AX S.outs.length cX) I) (hbw : base ≤ w.heap.size)
    (hg : (w.alloc X).grownBy w' (Value.slice AX S.outs.length cX).ownBlock) (hr : Row w' 2 1 (.slice A' (S.outs.length + 1) c') (S.outs.length + 1) (nums S.outs ++ [.int .i64 v]))
    (ho : (Value.slice A' (S.outs.length + 1) c').ownBlock = (Value.slice AX S.outs.length cX).ownBlock ∨ (Value.slice A' (S.outs.length + 1) c').ownBlock = some (w.alloc X).heap.size) :
    Keep (fun q => q = p ∨ (Value.slice AX S.outs.length cX).ownBlock = some q) w (w'.setCell ⟨p, 3, none⟩ (.slice A' (S.outs.length + 1) c')) ∧ EvAt (w'.setCell ⟨p, 3, none⟩ (.slice A' (S.outs.length + 1) c')) p base B { S with outs := S.outs ++ [v] } N V M (.slice A' (S.outs.length + 1) c') I := by
  have hbb := grown_blk hg (blk_alloc h.blk X) (h.outs.ne h.blk (by decide))
  have hfar : ∀ q, q < w.heap.size → (Value.slice AX S.outs.length cX).ownBlock ≠ some q → w'.heap[q]? = w.heap[q]? := fun q hq hn => (hg.block q (by simp; omega) (fun e1 => hn e1.symm)).trans (Below.heap_alloc w X q hq)
  have hk : Keep (fun q => q = p ∨ (Value.slice AX S.outs.length cX).ownBlock = some q) w w' := Keep.grown (Keep.alloc (Keep.refl _ _) X) hg (fun k hk => .inl (.inr hk))
  have hown : ∀ q, (Value.slice A' (S.outs.length + 1) c').ownBlock = some q → base ≤ q ∧ ((Value.slice AX S.outs.length cX).ownBlock = some q ∨ w.heap.size ≤ q) := fun q hq => by
    rcases ho with e1 | e1
    · exact ⟨h.fo q (e1 ▸ hq), .inl (e1 ▸ hq)⟩
    · rw [hq] at e1; have := Option.some.inj e1; simp at this; exact ⟨by omega, .inr (by omega)⟩
  refine ⟨Keep.set (O := fun q => q = p ∨ (Value.slice AX S.outs.length cX).ownBlock = some q) hk (p := ⟨p, 3, none⟩) (.inl (.inl rfl)) _, ?_⟩
  refine ⟨blk_set hbb 3 _, h.names.far (fun q hq => hfar q (h.names.lt hq) (fun e => rows_apart h.names h.outs (by decide) q hq e)) (h.names.ne h.blk (by decide)), h.vals.far (fun q hq => hfar q (h.vals.lt hq) (h.vo q hq)) (h.vals.ne h.blk (by decide)), h.mem.far (fun q hq => hfar q (h.mem.lt hq) (h.mo q hq)) (h.mem.ne h.blk (by decide)), ?_, h.intos.far (fun q hq => hfar q (h.intos.lt hq) (fun e => rows_apart h.intos h.outs (by decide) q hq e)) (h.intos.ne h.blk (by decide)), h.fn, h.fv, h.fm, ?_, h.fi, h.vm, ?_, ?_, h.hb, h.eq⟩
  · show Row _ _ _ _ (S.outs ++ [v]).length (nums (S.outs ++ [v]))
    rw [show nums (S.outs ++ [v]) = nums S.outs ++ [.int .i64 v] by simp [nums], List.length_append]
    exact hr.far (fun _ _ => rfl) (hr.ne hbb (by decide))
  · exact fun q hq => (hown q hq).1
  · intro q hq hq'
    rcases (hown q hq').2 with e | e
    · exact h.vo q hq e
    · have := h.vals.lt hq; omega
  · intro q hq hq'
    rcases (hown q hq').2 with e | e
    · exact h.mo q hq e
    · have := h.mem.lt hq; omega
theorem EvAt.pushInto {w w' : World} {p base : Nat} {B : Int} {S : Ev} {N V M O : Value} {AX A' : Option Addr} {cX c' : Nat} {a v : Int} {X : Obj} (h : EvAt w p base B S N V M O (.slice AX S.intos.length cX)) (hbw : base ≤ w.heap.size)
    (hg : (w.alloc X).grownBy w' (Value.slice AX S.intos.length cX).ownBlock) (hr : Row w' 98 2 (.slice A' (S.intos.length + 1) c') (S.intos.length + 1) (intoCells S.intos ++ [.int .i64 a, .int .i64 v]))
    (ho : (Value.slice A' (S.intos.length + 1) c').ownBlock = (Value.slice AX S.intos.length cX).ownBlock ∨ (Value.slice A' (S.intos.length + 1) c').ownBlock = some (w.alloc X).heap.size) :
    Keep (fun q => q = p ∨ (Value.slice AX S.intos.length cX).ownBlock = some q) w (w'.setCell ⟨p, 4, none⟩ (.slice A' (S.intos.length + 1) c')) ∧ EvAt (w'.setCell ⟨p, 4, none⟩ (.slice A' (S.intos.length + 1) c')) p base B { S with intos := S.intos ++ [(a, v)] } N V M O (.slice A' (S.intos.length + 1) c') := by
  have hbb := grown_blk hg (blk_alloc h.blk X) (h.intos.ne h.blk (by decide))
  have hfar : ∀ q, q < w.heap.size → (Value.slice AX S.intos.length cX).ownBlock ≠ some q → w'.heap[q]? = w.heap[q]? := fun q hq hn => (hg.block q (by simp; omega) (fun e1 => hn e1.symm)).trans (Below.heap_alloc w X q hq)
  have hk : Keep (fun q => q = p ∨ (Value.slice AX S.intos.length cX).ownBlock = some q) w w' := Keep.grown (Keep.alloc (Keep.refl _ _) X) hg (fun k hk => .inl (.inr hk))
  have hown : ∀ q, (Value.slice A' (S.intos.length + 1) c').ownBlock = some q → base ≤ q ∧ ((Value.slice AX S.intos.length cX).ownBlock = some q ∨ w.heap.size ≤ q) := fun q hq => by
    rcases ho with e1 | e1
    · exact ⟨h.fi q (e1 ▸ hq), .inl (e1 ▸ hq)⟩
    · rw [hq] at e1; have := Option.some.inj e1; simp at this; exact ⟨by omega, .inr (by omega)⟩
  refine ⟨Keep.set (O := fun q => q = p ∨ (Value.slice AX S.intos.length cX).ownBlock = some q) hk (p := ⟨p, 4, none⟩) (.inl (.inl rfl)) _, ?_⟩
  refine ⟨blk_set hbb 4 _, h.names.far (fun q hq => hfar q (h.names.lt hq) (fun e => rows_apart h.names h.intos (by decide) q hq e)) (h.names.ne h.blk (by decide)), h.vals.far (fun q hq => hfar q (h.vals.lt hq) (fun e => rows_apart h.vals h.intos (by decide) q hq e)) (h.vals.ne h.blk (by decide)), h.mem.far (fun q hq => hfar q (h.mem.lt hq) (fun e => rows_apart h.mem h.intos (by decide) q hq e)) (h.mem.ne h.blk (by decide)), h.outs.far (fun q hq => hfar q (h.outs.lt hq) (fun e => rows_apart h.outs h.intos (by decide) q hq e)) (h.outs.ne h.blk (by decide)), ?_, h.fn, h.fv, h.fm, h.fo, ?_, h.vm, h.vo, h.mo, h.hb, h.eq⟩
  · show Row _ _ _ _ (S.intos ++ [(a, v)]).length (intoCells (S.intos ++ [(a, v)]))
    rw [intoCells_snoc, List.length_append]
    exact hr.far (fun _ _ => rfl) (hr.ne hbb (by decide))
  · exact fun q hq => (hown q hq).1
theorem run_storeVar_one {P : Program} (w : World) (b o : Nat) (ty : TypeId) (k : IntKind) (v : Int) (hc : (w.cell? ⟨b, o, none⟩).isSome = true) (hf : w.frozen? ⟨b, o, none⟩ = false) (hi : (P.info? ty).map (·.size) = some 1) :
    (storeVar ty ⟨b, o, none⟩ (.int k v)).run P w = .ok () (w.setCell ⟨b, o, none⟩ (.int k v)) := by
  have h0 : ∀ j, j < [Value.int k v].length → j = 0 := fun j hj => by simpa using hj
  have := run_storeCells_cells (P := P) b o [.int k v] 0 w (fun j hj => by rw [h0 j hj]; simpa using hc) (fun j hj => by rw [h0 j hj]; simpa using hf) (fun v hv => by simp at hv; subst hv; rfl)
  cases hq : P.info? ty with
  | none => simp [hq] at hi
  | some i =>
    have hs : i.size = 1 := by simpa [hq] using hi
    simp only [Nat.add_zero] at this
    simp [storeVar, sizeOf, typeInfo, hq, Value.cells, hs, this, World.setCells]
theorem wpList_store_any {P : Program} {ops : Array Oper} {rest : List Oper} {o : Oper} {a : Act} {w : World} {Q : Exit → Act → World → Prop} (hgd : o.guard = none) (ty : TypeId) (x y : Operand) (ho : o.op = .store ty x y)
    (b i : Nat) (hx : a.eval x = .pointer (some ⟨b, i, none⟩)) (k : IntKind) (v : Int) (hy : a.eval y = .int k v) (hi1 : (P.info? ty).map (·.size) = some 1) (hc : (w.cell? ⟨b, i, none⟩).isSome = true) (hf : w.frozen? ⟨b, i, none⟩ = false)
    (h : wpList P ops Q rest (a.put o.dst undef) (w.setCell ⟨b, i, none⟩ (.int k v))) : wpList P ops Q (o :: rest) a w := by
  refine wpList_plain hgd fun _ hK => ?_
  unfold Oper.wp execOp
  simp only [ho, hx, hy, Instr.storeAt, Instr.sureAddr, Sem.run_bind, Sem.run_pure, Result.andThen_ok, run_storeVar_one w b i ty k v hc hf hi1]
  exact hK _ _ h
end Go.Proofs.Ytjlnpppjkdcpkaa.My
