/- A region whose reads all come ahead of one of its stores: they may be taken first, though that store changes what they read. No program in sight. -/
import Derived.Test.YtjlnpppjkdcpkaaEREvB
namespace Go.Proofs.Ytjlnpppjkdcpkaa.My
open Go.RowKit Go.Proofs.Ytjlnpppjkdcpkaa.NumA
set_option linter.unusedVariables false
set_option linter.unusedSimpArgs false
theorem exprsV_snoc (S : Ev) (e : Expr) : ∀ l : List Expr, exprsV S (l ++ [e]) = (match exprsV S l with
  | .left h v => .left h v
  | .ok vs => match exprV S e with
   | .left h v => .left h v
   | .ok v => .ok (vs ++ [v]))
 | [] => by simp only [List.nil_append, exprsV]; cases exprV S e <;> rfl
 | x :: l => by
  simp only [List.cons_append, exprsV, exprsV_snoc S e l]
  cases exprV S x with
  | left h v => rfl
  | ok v => cases exprsV S l with
   | left h u => rfl
   | ok vs => cases exprV S e <;> rfl
theorem exprsV_left {S : Ev} {h v : Int} : ∀ {l m : List Expr}, exprsV S l = .left h v → exprsV S (l ++ m) = .left h v
 | [], m, hl => by cases hl
 | x :: l, m, hl => by
  simp only [List.cons_append, exprsV] at hl ⊢
  cases hx : exprV S x with
  | left h' v' => rw [hx] at hl; exact hl
  | ok u =>
   rw [hx] at hl; simp only at hl ⊢
   cases hy : exprsV S l with
   | left h' v' => rw [hy] at hl; simp only at hl; cases hl; rw [exprsV_left hy]
   | ok vs => rw [hy] at hl; simp only at hl; cases hl
theorem vset (vs : List Int) (k : Nat) (u : Int) (hv : vs.length = k) (hk : k < 2) : (#[.int .i64 (vs.getD 0 0), .int .i64 (vs.getD 1 0)] : Array Value).setIfInBounds k (.int .i64 u) = #[.int .i64 ((vs ++ [u]).getD 0 0), .int .i64 ((vs ++ [u]).getD 1 0)] := by
 match vs, hv with
 | [], h => simp at h; subst h; rfl
 | [a], h => simp at h; subst h; rfl
 | _ :: _ :: _, h => simp at h; omega
/-- what lies elsewhere changes -/
theorem EvAt.apart {w w' : World} {p base : Nat} {B : Int} {S : Ev} {N V M O I : Value} (h : EvAt w p base B S N V M O I) {b : Nat} {cs : Array Value} (hb : w.heap[b]? = some (.cells cs 148 (0, 0))) (k : Keep (fun q => q = b) w w') : EvAt w' p base B S N V M O I :=
 have far : ∀ {v : Value} {z n : Nat} {ty : TypeId} {xs : List Value}, Row w ty z v n xs → ty ≠ 148 → Row w' ty z v n xs := fun hr hne => hr.keep fun g hg => k.block g (hr.lt hg) (fun e => hr.ne hb hne (by rw [hg, e]))
 ⟨k.blk h.blk (fun e => by subst e; have q := h.blk; rw [hb] at q; injection q with q; injection q with _ q; exact absurd q (by decide)), far h.names (by decide), far h.vals (by decide), far h.mem (by decide), far h.outs (by decide), far h.intos (by decide), h.fn, h.fv, h.fm, h.fo, h.fi, h.vm, h.vo, h.mo, h.hb, h.eq⟩
theorem own_noBox {w : World} {e : TypeId} {z n : Nat} {v : Value} {xs : List Value} (h : Row w e z v n xs) (hne : ∀ i : Fin 3, e ≠ bt i) (q : Nat) (cs : Array Value × Fin 3) (ho : v.ownBlock = some q) : w.heap[q]? ≠ some (.cells cs.1 (bt cs.2) (0, 0)) := fun hq => h.ne hq (hne cs.2) ho
theorem EvAt.setVal {w : World} {p base : Nat} {B : Int} {S : Ev} {N M O I : Value} {g c : Nat} (h : EvAt w p base B S N (.slice (some ⟨g, 0, none⟩) S.vals.length c) M O I) (i : Nat) (u : Int) : EvAt (w.setCell ⟨g, i, none⟩ (.int .i64 u)) p base B { S with vals := S.vals.set i u } N (.slice (some ⟨g, 0, none⟩) S.vals.length c) M O I := by
 have hgp : g ≠ p := fun e => h.vals.ne h.blk (by decide) (by rw [e]; rfl)
 have far : ∀ {v : Value} {z n : Nat} {ty : TypeId} {xs : List Value}, Row w ty z v n xs → v.ownBlock ≠ some g → Row (w.setCell ⟨g, i, none⟩ (.int .i64 u)) ty z v n xs := fun hr hne => hr.keep fun q hq => Below.heap_setCell _ _ _ _ (fun e => hne (by rw [hq, e]))
 refine ⟨blk_far h.blk (Ne.symm hgp) _, far h.names (fun e => rows_apart h.names h.vals (by decide) g e rfl), ?_, far h.mem (h.vm g rfl), far h.outs (h.vo g rfl), far h.intos (fun e => rows_apart h.intos h.vals (by decide) g e rfl), h.fn, h.fv, h.fm, h.fo, h.fi, h.vm, h.vo, h.mo, h.hb, by simpa using h.eq⟩
 have q := h.vals.put i (.int .i64 u); show Row _ _ _ _ (S.vals.set i u).length (nums (S.vals.set i u))
 rw [List.length_set, show nums (S.vals.set i u) = (nums S.vals).set i (.int .i64 u) by simp [nums, List.map_set]]
 exact q
theorem EvAt.setMem {w : World} {p base : Nat} {B : Int} {S : Ev} {N V O I : Value} {g c : Nat} (h : EvAt w p base B S N V (.slice (some ⟨g, 0, none⟩) S.mem.length c) O I) (i : Nat) (u : Int) : EvAt (w.setCell ⟨g, i, none⟩ (.int .i64 u)) p base B { S with mem := S.mem.set i u } N V (.slice (some ⟨g, 0, none⟩) S.mem.length c) O I := by
 have hgp : g ≠ p := fun e => h.mem.ne h.blk (by decide) (by rw [e]; rfl)
 have far : ∀ {v : Value} {z n : Nat} {ty : TypeId} {xs : List Value}, Row w ty z v n xs → v.ownBlock ≠ some g → Row (w.setCell ⟨g, i, none⟩ (.int .i64 u)) ty z v n xs := fun hr hne => hr.keep fun q hq => Below.heap_setCell _ _ _ _ (fun e => hne (by rw [hq, e]))
 refine ⟨blk_far h.blk (Ne.symm hgp) _, far h.names (fun e => rows_apart h.names h.mem (by decide) g e rfl), far h.vals (fun e => h.vm g e rfl), ?_, far h.outs (h.mo g rfl), far h.intos (fun e => rows_apart h.intos h.mem (by decide) g e rfl), h.fn, h.fv, h.fm, h.fo, h.fi, h.vm, h.vo, h.mo, h.hb, h.eq⟩
 have q := h.mem.put i (.int .i64 u); show Row _ _ _ _ (S.mem.set i u).length (nums (S.mem.set i u))
 rw [List.length_set, show nums (S.mem.set i u) = (nums S.mem).set i (.int .i64 u) by simp [nums, List.map_set]]
 exact q
theorem EvAt.pushOut {w w' : World} {p base : Nat} {B : Int} {S : Ev} {N V M I : Value} {AX A' : Option Addr} {cX c' : Nat} {v : Int} {X : Obj} (h : EvAt w p base B S N V M (.slice AX S.outs.length cX) I) (hbw : base ≤ w.heap.size)
  (hg : (w.alloc X).grownBy w' (Value.slice AX S.outs.length cX).ownBlock) (hr : Row w' 2 1 (.slice A' (S.outs.length + 1) c') (S.outs.length + 1) (nums S.outs ++ [.int .i64 v]))
  (ho : (Value.slice A' (S.outs.length + 1) c').ownBlock = (Value.slice AX S.outs.length cX).ownBlock ∨ (Value.slice A' (S.outs.length + 1) c').ownBlock = some (w.alloc X).heap.size) :
  Keep (fun q => q = p ∨ (Value.slice AX S.outs.length cX).ownBlock = some q) w (w'.setCell ⟨p, 3, none⟩ (.slice A' (S.outs.length + 1) c')) ∧ EvAt (w'.setCell ⟨p, 3, none⟩ (.slice A' (S.outs.length + 1) c')) p base B { S with outs := S.outs ++ [v] } N V M (.slice A' (S.outs.length + 1) c') I := by
 have hbb := grown_blk hg (blk_alloc h.blk X) (h.outs.ne h.blk (by decide))
 have hfar : ∀ q, q < w.heap.size → (Value.slice AX S.outs.length cX).ownBlock ≠ some q → w'.heap[q]? = w.heap[q]? := fun q hq hn => (hg.block q (by simp; omega) (fun e1 => hn e1.symm)).trans (Below.heap_alloc w X q hq)
 have hk : Keep (fun q => q = p ∨ (Value.slice AX S.outs.length cX).ownBlock = some q) w w' := Keep.grown (Keep.alloc (Keep.refl _ _) X) hg (fun k hk => .inl (.inr hk))
 have hown : ∀ q, (Value.slice A' (S.outs.length + 1) c').ownBlock = some q → base ≤ q ∧ ((Value.slice AX S.outs.length cX).ownBlock = some q ∨ w.heap.size ≤ q) := fun q hq => by
  rcases ho with e1 | e1
  ·exact ⟨h.fo q (e1 ▸ hq), .inl (e1 ▸ hq)⟩
  ·rw [hq] at e1; have := Option.some.inj e1; simp at this; exact ⟨by omega, .inr (by omega)⟩
 refine ⟨Keep.set (O := fun q => q = p ∨ (Value.slice AX S.outs.length cX).ownBlock = some q) hk (p := ⟨p, 3, none⟩) (.inl (.inl rfl)) _, ?_⟩
 refine ⟨blk_set hbb 3 _, h.names.far (fun q hq => hfar q (h.names.lt hq) (fun e => rows_apart h.names h.outs (by decide) q hq e)) (h.names.ne h.blk (by decide)), h.vals.far (fun q hq => hfar q (h.vals.lt hq) (h.vo q hq)) (h.vals.ne h.blk (by decide)), h.mem.far (fun q hq => hfar q (h.mem.lt hq) (h.mo q hq)) (h.mem.ne h.blk (by decide)), ?_, h.intos.far (fun q hq => hfar q (h.intos.lt hq) (fun e => rows_apart h.intos h.outs (by decide) q hq e)) (h.intos.ne h.blk (by decide)), h.fn, h.fv, h.fm, ?_, h.fi, h.vm, ?_, ?_, h.hb, h.eq⟩
 ·show Row _ _ _ _ (S.outs ++ [v]).length (nums (S.outs ++ [v]))
  rw [show nums (S.outs ++ [v]) = nums S.outs ++ [.int .i64 v] by simp [nums], List.length_append]
  exact hr.far (fun _ _ => rfl) (hr.ne hbb (by decide))
 ·exact fun q hq => (hown q hq).1
 ·intro q hq hq'
  rcases (hown q hq').2 with e | e
  ·exact h.vo q hq e
  ·have := h.vals.lt hq; omega
 ·intro q hq hq'
  rcases (hown q hq').2 with e | e
  ·exact h.mo q hq e
  ·have := h.mem.lt hq; omega
theorem EvAt.pushInto {w w' : World} {p base : Nat} {B : Int} {S : Ev} {N V M O : Value} {AX A' : Option Addr} {cX c' : Nat} {a v : Int} {X : Obj} (h : EvAt w p base B S N V M O (.slice AX S.intos.length cX)) (hbw : base ≤ w.heap.size)
  (hg : (w.alloc X).grownBy w' (Value.slice AX S.intos.length cX).ownBlock) (hr : Row w' 98 2 (.slice A' (S.intos.length + 1) c') (S.intos.length + 1) (intoCells S.intos ++ [.int .i64 a, .int .i64 v]))
  (ho : (Value.slice A' (S.intos.length + 1) c').ownBlock = (Value.slice AX S.intos.length cX).ownBlock ∨ (Value.slice A' (S.intos.length + 1) c').ownBlock = some (w.alloc X).heap.size) :
  Keep (fun q => q = p ∨ (Value.slice AX S.intos.length cX).ownBlock = some q) w (w'.setCell ⟨p, 4, none⟩ (.slice A' (S.intos.length + 1) c')) ∧ EvAt (w'.setCell ⟨p, 4, none⟩ (.slice A' (S.intos.length + 1) c')) p base B { S with intos := S.intos ++ [(a, v)] } N V M O (.slice A' (S.intos.length + 1) c') := by
 have hbb := grown_blk hg (blk_alloc h.blk X) (h.intos.ne h.blk (by decide))
 have hfar : ∀ q, q < w.heap.size → (Value.slice AX S.intos.length cX).ownBlock ≠ some q → w'.heap[q]? = w.heap[q]? := fun q hq hn => (hg.block q (by simp; omega) (fun e1 => hn e1.symm)).trans (Below.heap_alloc w X q hq)
 have hk : Keep (fun q => q = p ∨ (Value.slice AX S.intos.length cX).ownBlock = some q) w w' := Keep.grown (Keep.alloc (Keep.refl _ _) X) hg (fun k hk => .inl (.inr hk))
 have hown : ∀ q, (Value.slice A' (S.intos.length + 1) c').ownBlock = some q → base ≤ q ∧ ((Value.slice AX S.intos.length cX).ownBlock = some q ∨ w.heap.size ≤ q) := fun q hq => by
  rcases ho with e1 | e1
  ·exact ⟨h.fi q (e1 ▸ hq), .inl (e1 ▸ hq)⟩
  ·rw [hq] at e1; have := Option.some.inj e1; simp at this; exact ⟨by omega, .inr (by omega)⟩
 refine ⟨Keep.set (O := fun q => q = p ∨ (Value.slice AX S.intos.length cX).ownBlock = some q) hk (p := ⟨p, 4, none⟩) (.inl (.inl rfl)) _, ?_⟩
 refine ⟨blk_set hbb 4 _, h.names.far (fun q hq => hfar q (h.names.lt hq) (fun e => rows_apart h.names h.intos (by decide) q hq e)) (h.names.ne h.blk (by decide)), h.vals.far (fun q hq => hfar q (h.vals.lt hq) (fun e => rows_apart h.vals h.intos (by decide) q hq e)) (h.vals.ne h.blk (by decide)), h.mem.far (fun q hq => hfar q (h.mem.lt hq) (fun e => rows_apart h.mem h.intos (by decide) q hq e)) (h.mem.ne h.blk (by decide)), h.outs.far (fun q hq => hfar q (h.outs.lt hq) (fun e => rows_apart h.outs h.intos (by decide) q hq e)) (h.outs.ne h.blk (by decide)), ?_, h.fn, h.fv, h.fm, h.fo, ?_, h.vm, h.vo, h.mo, h.hb, h.eq⟩
 ·show Row _ _ _ _ (S.intos ++ [(a, v)]).length (intoCells (S.intos ++ [(a, v)]))
  rw [intoCells_snoc, List.length_append]; exact hr.far (fun _ _ => rfl) (hr.ne hbb (by decide))
 ·exact fun q hq => (hown q hq).1
theorem run_storeVar_one {P : Program} (w : World) (b o : Nat) (ty : TypeId) (k : IntKind) (v : Int) (hc : (w.cell? ⟨b, o, none⟩).isSome = true) (hf : w.frozen? ⟨b, o, none⟩ = false) (hi : (P.info? ty).map (·.size) = some 1) :
  (storeVar ty ⟨b, o, none⟩ (.int k v)).run P w = .ok () (w.setCell ⟨b, o, none⟩ (.int k v)) := by
 have h0 : ∀ j, j < [Value.int k v].length → j = 0 := fun j hj => by simpa using hj
 have := run_storeCells_cells (P := P) b o [.int k v] 0 w (fun j hj => by rw [h0 j hj]; simpa using hc) (fun j hj => by rw [h0 j hj]; simpa using hf) (fun v hv => by simp at hv; subst hv; rfl)
 cases hq : P.info? ty with
 | none => simp [hq] at hi
 | some i =>
  have hs : i.size = 1 := by simpa [hq] using hi
  simp only [Nat.add_zero] at this
  simp [storeVar, sizeOf, typeInfo, hq, Value.cells, hs, this, World.setCells]
theorem wpList_store_any {P : Program} {ops : Array Oper} {rest : List Oper} {o : Oper} {a : Act} {w : World} {Q : Exit → Act → World → Prop} (hgd : o.guard = none) (ty : TypeId) (x y : Operand) (ho : o.op = .store ty x y)
  (b i : Nat) (hx : a.eval x = .pointer (some ⟨b, i, none⟩)) (k : IntKind) (v : Int) (hy : a.eval y = .int k v) (hi1 : (P.info? ty).map (·.size) = some 1) (hc : (w.cell? ⟨b, i, none⟩).isSome = true) (hf : w.frozen? ⟨b, i, none⟩ = false)
  (h : wpList P ops Q rest (a.put o.dst undef) (w.setCell ⟨b, i, none⟩ (.int k v))) : wpList P ops Q (o :: rest) a w := by
 refine wpList_plain hgd fun _ hK => ?_
 unfold Oper.wp execOp
 simp only [ho, hx, hy, Instr.storeAt, Instr.sureAddr, Sem.run_bind, Sem.run_pure, Result.andThen_ok, run_storeVar_one w b i ty k v hc hf hi1]
 exact hK _ _ h
end Go.Proofs.Ytjlnpppjkdcpkaa.My
namespace Go.Proofs.Ytjlnpppjkdcpkaa.My
open Go.RowKit Go.Proofs.Ytjlnpppjkdcpkaa.NumA
set_option linter.unusedVariables false
section
variable {P : Program} {ops : Array Oper} {Q : Exit → Act → World → Prop} {md : Region.Mode} {S : World → Prop} {k : Nat}
/-- S is owed behind each operation as9 long as9 number k has not come up -/
def wpTill (P : Program) (md : Region.Mode) (ops : Array Oper) (Q : Exit → Act → World → Prop) (S : World → Prop) (k : Nat) : Nat → Array Bool → Act → World → Prop
 | 0, listed, a, w => Region.ready md ops listed = [] ∧ Q .normal a w
 | fuel + 1, listed, a, w => (Region.ready md ops listed = [] → Q .normal a w) ∧
  ∀ i ∈ Region.ready md ops listed, wpOp P ops Q i (fun a' w' => ((listed.setIfInBounds i true).getD k true = false → S w') ∧ wpTill P md ops Q S k fuel (listed.setIfInBounds i true) a' w') a w
theorem wpAny_of_till : ∀ (fuel : Nat) (listed : Array Bool) (a : Act) (w : World), wpTill P md ops Q S k fuel listed a w → wpAny P md ops Q fuel listed a w
 | 0, _, _, _, h => h
 | fuel + 1, _, _, _, h => ⟨h.1, fun i hi => wpOp_mono (fun a' w' h' => wpAny_of_till fuel _ a' w' h'.2) (h.2 i hi)⟩
/-- what has come up has all that it waits for behind it -/
def Downward (md : Region.Mode) (ops : Array Oper) (listed : Array Bool) : Prop := ∀ j o, ops[j]? = some o → listed.getD j true = true → ∀ e ∈ o.after, Region.binds md e = true → listed.getD e.on false = true
def downB (md : Region.Mode) (ops : Array Oper) (listed : Array Bool) : Bool := (List.range ops.size).all fun j => match ops[j]? with
 | some o => !(listed.getD j true) || o.after.all fun e => !(Region.binds md e) || listed.getD e.on false
 | none => true
theorem downB_spec {listed : Array Bool} (h : downB md ops listed = true) : Downward md ops listed := fun j o ho hl e he hb => by
 have hj : j < ops.size := (Array.getElem?_eq_some_iff.1 ho).1
 have h1 := List.all_eq_true.1 h j (List.mem_range.2 hj); simp only [ho, hl, Bool.not_true, Bool.false_or] at h1
 have h2 := Array.all_eq_true_iff_forall_mem.1 h1 e he; simpa [hb] using h2
theorem Downward.put {listed : Array Bool} (h : Downward md ops listed) {j : Nat} (hj : j ∈ Region.ready md ops listed) : Downward md ops (listed.setIfInBounds j true) := fun i o ho hl e he hb => by
 obtain ⟨_, oj, hoj, hall⟩ := mem_ready.1 hj; by_cases hij : j = i
 ·subst hij
  rw [hoj] at ho; cases ho
  exact getD_set_true (hall e he hb)
 ·rw [getD_set_ne true hij] at hl
  exact getD_set_true (h i o ho hl e he hb)
/-- k waits for the first of the row, which waits for the next .. -/
def wayB (md : Region.Mode) (ops : Array Oper) : Nat → List Nat → Bool
 | _, [] => true
 | k, x :: l => (match ops[k]? with | some o => o.after.any (fun e => Region.binds md e && e.on == x) | none => false) && decide (x < ops.size) && wayB md ops x l
theorem wayB_spec {listed : Array Bool} (hd : Downward md ops listed) : ∀ (l : List Nat) (k : Nat), wayB md ops k l = true → (∀ o, ops[k]? = some o → ∀ e ∈ o.after, Region.binds md e = true → listed.getD e.on false = true) → ∀ x ∈ l, listed.getD x false = true
 | y :: l, k, hw, hk, x, hx => by
  simp only [wayB, Bool.and_eq_true, decide_eq_true_eq] at hw
  obtain ⟨⟨h1, h2⟩, h3⟩ := hw; have hy : listed.getD y false = true := by
   cases ho : ops[k]? with
   | none => rw [ho] at h1; cases h1
   | some o =>
    rw [ho] at h1; obtain ⟨n, hn, h⟩ := Array.any_eq_true.1 h1; simp only [Bool.and_eq_true, beq_iff_eq] at h
    rw [← h.2]; exact hk o ho _ (Array.getElem_mem hn) h.1
  rcases List.mem_cons.1 hx with rfl | hx
  ·exact hy
  ·refine wayB_spec hd l y h3 (fun o ho => hd y o ho ?_) x hx
   have : y < listed.size := by
    rcases Nat.lt_or_ge y listed.size with h | h
    ·exact h
    ·simp [Array.getElem?_eq_none h] at hy
   simpa [this] using hy
/-- what yields its value in every world that meets S' may be taken first, if S' holds everywhere, or S has it and number k waits for it -/
theorem wpTill_first {S' : World → Prop} {i : Nat} {oi : Oper} {v : Value} (hi : ops[i]? = some oi) (hsel : ∀ (j : Nat) (o : Oper) cs b, ops[j]? = some o → o.op ≠ .select cs b)
  (hQ : ∀ c a w, Q (.panic c) (a.put oi.dst v) w → Q (.panic c) a w) (hik : i ≠ k) (hS' : (∀ w, S' w) ∨ ((∀ w, S w → S' w) ∧ ∃ l, wayB md ops k l = true ∧ i ∈ l)) :
  ∀ (fuel : Nat) (listed : Array Bool) (a : Act) (w : World),
   (∀ j oj, ops[j]? = some oj → j ≠ i → listed.getD j true = false → (∀ e ∈ oj.after, Region.binds md e = true → e.on ≠ i) → oi.apart ops oj = true) →
   i ∈ Region.ready md ops listed → Downward md ops listed → YieldsIf P ops S' oi v a → S' w → (listed.getD k true = false → S w) → ((∀ w, S' w) ∨ listed.getD k true = false) →
   wpTill P md ops Q S k fuel (listed.setIfInBounds i true) (a.put oi.dst v) w → wpTill P md ops Q S k (fuel + 1) listed a w := by
 intro fuel; induction fuel with
 | zero =>
  intro listed a w _ hr hd hy hS hSk hk H; refine ⟨fun h => (by rw [h] at hr; cases hr), fun j hj => ?_⟩
  by_cases hji : j = i
  ·subst hji; exact hy.wpOp hi hS ⟨fun h => hSk (by rwa [getD_set_ne true hik] at h), H⟩
  ·have := ready_mono hj hji
   rw [H.1] at this
   cases this
 | succ fuel ih =>
  intro listed a w hfree hr hd hy hS hSk hk H; refine ⟨fun h => (by rw [h] at hr; cases hr), fun j hj => ?_⟩
  by_cases hji : j = i
  ·subst hji; exact hy.wpOp hi hS ⟨fun h => hSk (by rwa [getD_set_ne true hik] at h), H⟩
  ·have h1 := H.2 j (ready_mono hj hji)
   obtain ⟨hjun, oj, hoj, hall⟩ := mem_ready.1 hj; have hiun : listed.getD i false = false ∨ listed.size ≤ i := by
    have h0 := (mem_ready.1 hr).1; rcases Nat.lt_or_ge i listed.size with h' | h'
    ·left; simpa [h'] using h0
    ·exact .inr h'
   have hiun : listed.getD i false = false := by
    rcases hiun with h | h
    ·exact h
    ·simp [Array.getElem?_eq_none h]
   have hnot : ∀ e ∈ oj.after, Region.binds md e = true → e.on ≠ i := fun e he hb heq => by
    have h1 := hall e he hb; rw [heq, hiun] at h1; cases h1
   have hjk : (∀ w, S' w) ∨ j ≠ k := by
    rcases hS' with h | ⟨_, l, hl, hil⟩
    ·exact .inl h
    ·refine .inr fun e => ?_
     subst e; have := wayB_spec hd l j hl (fun o ho => by rw [hoj] at ho; cases ho; exact hall) i hil
     rw [hiun] at this; cases this
   have h2 := wpOp_putIf hoj (hfree j oj hoj hji hjun hnot) (fun cs b => hsel i oi cs b hi) (fun cs b => hsel j oj cs b hoj) hQ hy h1
   have hfree' : ∀ k ok, ops[k]? = some ok → k ≠ i → (listed.setIfInBounds j true).getD k true = false →
     (∀ e ∈ ok.after, Region.binds md e = true → e.on ≠ i) → oi.apart ops ok = true := fun k ok hk hki hun hno => by
    refine hfree k ok hk hki ?_ hno
    by_cases hjk : j = k
    ·subst hjk; exact hjun
    ·rw [getD_set_ne true hjk] at hun; exact hun
   refine wpOp_mono (fun a' w' h3 => ?_) h2
   obtain ⟨hy', hs', hT⟩ := h3; have hs2 : (listed.setIfInBounds j true).getD k true = false → S w' := fun h => hs' (by
    by_cases hjk : j = k
    ·subst hjk
     have : j < listed.size := by
      rcases Nat.lt_or_ge j listed.size with h' | h'
      ·exact h'
      ·simp [Array.getElem?_eq_none h'] at hjun
     simp [this] at h
    ·rw [getD_set_ne true hjk, getD_set_ne true hik]; rwa [getD_set_ne true hjk] at h)
   have hcase : (∀ w, S' w) ∨ (listed.setIfInBounds j true).getD k true = false := by
    rcases hjk with h | h
    ·exact .inl h
    ·rcases hk with h' | h'
     ·exact .inl h'
     ·exact .inr (by rw [getD_set_ne true h]; exact h')
   refine ⟨hs2, ih (listed.setIfInBounds j true) a' w' hfree' (ready_mono hr (Ne.symm hji)) (hd.put hj) hy' ?_ hs2 hcase ?_⟩
   ·rcases hcase with h | h
    ·exact h w'
    ·rcases hS' with h' | ⟨h', _⟩
     ·exact h' w'
     ·exact h' w' (hs2 h)
   ·rw [Array.setIfInBounds_comm _ _ hji]
    exact hT
/-- a read -/
theorem wpTill_take {i : Nat} {oi : Oper} {v : Value} {fuel : Nat} {listed : Array Bool} {a : Act} {w : World} (l : List Nat) (hi : ops[i]? = some oi)
  (hs : Region.noSelect ops = true) (hf : Region.free md ops listed i = true) (hr : (Region.ready md ops listed).contains i = true) (hd : downB md ops listed = true) (hk : listed.getD k true = false) (hl : (wayB md ops k l && l.contains i && (i != k)) = true)
  (hQ : ∀ c a w, Q (.panic c) (a.put oi.dst v) w → Q (.panic c) a w) (hy : YieldsIf P ops S oi v a) (hS : S w)
  (h : wpTill P md ops Q S k fuel (listed.setIfInBounds i true) (a.put oi.dst v) w) : wpTill P md ops Q S k (fuel + 1) listed a w := by
 simp only [Bool.and_eq_true, bne_iff_ne] at hl
 exact wpTill_first (S' := S) hi (Region.noSelect_spec hs) hQ hl.2 (.inr ⟨fun _ h => h, l, hl.1.1, by simpa using hl.1.2⟩) fuel listed a w (Region.free_spec hi hf) (by simpa using hr) (downB_spec hd) hy hS (fun _ => hS) (.inr hk) h
/-- what looks at no world -/
theorem wpTill_pure {i : Nat} {oi : Oper} {v : Value} {fuel : Nat} {listed : Array Bool} {a : Act} {w : World} (hi : ops[i]? = some oi)
  (hs : Region.noSelect ops = true) (hf : Region.free md ops listed i = true) (hr : (Region.ready md ops listed).contains i = true) (hd : downB md ops listed = true) (hik : (i != k) = true)
  (hQ : ∀ c a w, Q (.panic c) (a.put oi.dst v) w → Q (.panic c) a w) (hy : YieldsIf P ops (fun _ => True) oi v a) (hS : listed.getD k true = false → S w)
  (h : wpTill P md ops Q S k fuel (listed.setIfInBounds i true) (a.put oi.dst v) w) : wpTill P md ops Q S k (fuel + 1) listed a w :=
 wpTill_first (S' := fun _ => True) hi (Region.noSelect_spec hs) hQ (by simpa using hik) (.inl fun _ => trivial) fuel listed a w (Region.free_spec hi hf) (by simpa using hr) (downB_spec hd) hy trivial hS (.inl fun _ => trivial) h
theorem wpTill_done {listed : Array Bool} {a : Act} {w : World} (hr : Region.ready md ops listed = []) (h : Q .normal a w) : ∀ fuel, wpTill P md ops Q S k fuel listed a w
 | 0 => ⟨hr, h⟩
 | _ + 1 => ⟨fun _ => h, by rw [hr]; simp⟩
def TillAll (P : Program) (md : Region.Mode) (ops : Array Oper) (Q : Exit → Act → World → Prop) (S : World → Prop) (k fuel : Nat) (listed : Array Bool) (a : Act) (w : World) (rs : List Nat) : Prop :=
 ∀ i ∈ rs, wpOp P ops Q i (fun a' w' => ((listed.setIfInBounds i true).getD k true = false → S w') ∧ wpTill P md ops Q S k fuel (listed.setIfInBounds i true) a' w') a w
theorem TillAll.nil {fuel : Nat} {listed : Array Bool} {a : Act} {w : World} : TillAll P md ops Q S k fuel listed a w [] := fun _ h => by cases h
theorem TillAll.cons {fuel : Nat} {listed : Array Bool} {a : Act} {w : World} {i : Nat} {o : Oper} {rs : List Nat} (ho : ops[i]? = some o)
  (h : ∀ K' : Act → World → Prop, Shut (∀ a w, ((listed.setIfInBounds i true).getD k true = false → S w) → wpTill P md ops Q S k fuel (listed.setIfInBounds i true) a w → K' a w) → if Region.wanted o (yielded ops a.tmps) = true then Oper.wp P o a w K' Q else K' (a.put o.dst undef) w)
  (hs : TillAll P md ops Q S k fuel listed a w rs) : TillAll P md ops Q S k fuel listed a w (i :: rs) := fun j hj => by
 rcases List.mem_cons.1 hj with rfl | hj
 ·exact wpOp_step ho (fun K' hK => h K' (fun a w hS hW => hK a w ⟨hS, hW⟩))
 ·exact hs j hj
theorem wpTill_ready {rs : List Nat} {fuel : Nat} {listed : Array Bool} {a : Act} {w : World} (hr : Region.ready md ops listed = rs) (hne : rs ≠ [])
  (h : TillAll P md ops Q S k fuel listed a w rs) : wpTill P md ops Q S k (fuel + 1) listed a w := ⟨fun h0 => absurd (hr ▸ h0) hne, hr ▸ h⟩
theorem wp_region_till {id : Nat} {a : Act} {w : World} (S : World → Prop) (k : Nat) (hm : P.follows .mixedOrders = true)
  (h : wpTill P .any ops Q S k ops.size (Array.replicate ops.size false) a w.drew) : (Code.region id ops true).wp P Q a w :=
 wp_region_any hm (wpAny_of_till _ _ _ _ h)
end
/-- a name and its value are put on top of their rows -/
theorem EvAt.pushVar {w w' : World} {p base : Nat} {B : Int} {S : Ev} {N V M O I N' V' : Value} {x : ByteArray} {a : Int} (h : EvAt w p base B S N V M O I) (hbw : base ≤ w.heap.size)
  (hk : Keep (fun q => N.ownBlock = some q ∨ V.ownBlock = some q) w w') (hn : Row w' 9 1 N' (S.names.length + 1) (strs S.names ++ [.string x])) (hv : Row w' 2 1 V' (S.vals.length + 1) (nums S.vals ++ [.int .i64 a]))
  (on : ∀ q, N'.ownBlock = some q → N.ownBlock = some q ∨ w.heap.size ≤ q) (ov : ∀ q, V'.ownBlock = some q → V.ownBlock = some q ∨ w.heap.size ≤ q) :
  Keep (fun q => q = p ∨ N.ownBlock = some q ∨ V.ownBlock = some q) w ((w'.setCell ⟨p, 0, none⟩ N').setCell ⟨p, 1, none⟩ V') ∧ EvAt ((w'.setCell ⟨p, 0, none⟩ N').setCell ⟨p, 1, none⟩ V') p base B { S with names := S.names ++ [x], vals := S.vals ++ [a] } N' V' M O I := by
 have hb : w'.heap[p]? = _ := hk.blk h.blk (fun e => e.elim (h.names.ne h.blk (by decide)) (h.vals.ne h.blk (by decide)))
 have hb1 := blk_set hb 0 N'; have hb2 := blk_set hb1 1 V'; have hk1 : Keep (fun q => q = p ∨ N.ownBlock = some q ∨ V.ownBlock = some q) w w' := ⟨hk.os, hk.tape, hk.output, hk.size, fun q hq hn => hk.block q hq (fun e => hn (.inr e))⟩
 refine ⟨Keep.set (O := fun q => q = p ∨ N.ownBlock = some q ∨ V.ownBlock = some q) (Keep.set (O := fun q => q = p ∨ N.ownBlock = some q ∨ V.ownBlock = some q) hk1 (p := ⟨p, 0, none⟩) (.inl (.inl rfl)) _) (p := ⟨p, 1, none⟩) (.inl (.inl rfl)) _, ?_⟩
 have set2 : ∀ {v : Value} {z n : Nat} {ty : TypeId} {xs : List Value}, Row w' ty z v n xs → ty ≠ 91 → Row ((w'.setCell ⟨p, 0, none⟩ N').setCell ⟨p, 1, none⟩ V') ty z v n xs := fun hr hne =>
  hr.keep fun g hg => by
   have hgp : g ≠ p := fun e => hr.ne hb hne (by rw [hg, e])
   rw [Below.heap_setCell _ _ _ _ hgp, Below.heap_setCell _ _ _ _ hgp]
 have far : ∀ {v : Value} {z n : Nat} {ty : TypeId} {xs : List Value}, Row w ty z v n xs → ty ≠ 91 → (∀ q, v.ownBlock = some q → N.ownBlock ≠ some q) → (∀ q, v.ownBlock = some q → V.ownBlock ≠ some q) → Row ((w'.setCell ⟨p, 0, none⟩ N').setCell ⟨p, 1, none⟩ V') ty z v n xs := fun hr hne h1 h2 =>
  set2 (hr.keep fun g hg => hk.block g (hr.lt hg) (fun e => e.elim (h1 g hg) (h2 g hg))) hne
 refine ⟨hb2, ?_, ?_, far h.mem (by decide) (fun q e => rows_apart h.mem h.names (by decide) q e) (fun q e e' => h.vm q e' e), far h.outs (by decide) (fun q e => rows_apart h.outs h.names (by decide) q e) (fun q e e' => h.vo q e' e), far h.intos (by decide) (fun q e => rows_apart h.intos h.names (by decide) q e) (fun q e => rows_apart h.intos h.vals (by decide) q e), ?_, ?_, h.fm, h.fo, h.fi, ?_, ?_, h.mo, h.hb, by simp [h.eq]⟩
 ·show Row _ _ _ _ (S.names ++ [x]).length (strs (S.names ++ [x]))
  rw [show strs (S.names ++ [x]) = strs S.names ++ [.string x] by simp [strs], List.length_append]
  exact set2 hn (by decide)
 ·show Row _ _ _ _ (S.vals ++ [a]).length (nums (S.vals ++ [a]))
  rw [show nums (S.vals ++ [a]) = nums S.vals ++ [.int .i64 a] by simp [nums], List.length_append]
  exact set2 hv (by decide)
 ·exact fun q hq => (on q hq).elim (h.fn q) (fun e => Nat.le_trans hbw e)
 ·exact fun q hq => (ov q hq).elim (h.fv q) (fun e => Nat.le_trans hbw e)
 ·exact fun q hq e => (ov q hq).elim (fun e' => h.vm q e' e) (fun e' => by have := h.mem.lt e; omega)
 ·exact fun q hq e => (ov q hq).elim (fun e' => h.vo q e' e) (fun e' => by have := h.outs.lt e; omega)
end Go.Proofs.Ytjlnpppjkdcpkaa.My
