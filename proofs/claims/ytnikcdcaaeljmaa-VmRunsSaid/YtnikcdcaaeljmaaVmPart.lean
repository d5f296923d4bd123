/- What a machine's step does, and its parts walked. Conditions: the machine lies in memory. -/
import Derived.Test.YtnikcdcaaeljmaaVmBase
import Derived.StillTailTactics
namespace Go.Proofs.Ytnikcdcaaeljmaa.My
open Go.RowKit
/-! ### states -/
structure St where
  rg : List Int
  at0 : Int
  steps : Int
  over : Int
  value : Int
def St.cells (s : St) : List Value := stv (s.rg.map (Value.int .i64)) s.at0 s.steps s.over s.value
theorem St.len {s : St} (h : s.rg.length = 16) : s.cells.length = 20 := by simp [St.cells, stv, h]
theorem St.one (s : St) : ∀ u ∈ s.cells, u.oneCell' = true := by
  intro u hu
  rcases List.mem_append.1 hu with hu | hu
  · obtain ⟨v, _, rfl⟩ := List.mem_map.1 hu; rfl
  · simp only [List.mem_cons, List.not_mem_nil, or_false] at hu
    rcases hu with rfl | rfl | rfl | rfl <;> rfl
def St.reg (s : St) (i : Nat) : Int := s.rg.getD i 0
theorem St.cell {s : St} (h : s.rg.length = 16) {i : Nat} (hi : i < 16) : s.cells[i]? = some (.int .i64 (s.reg i)) := by
  rw [St.cells, stv, List.getElem?_append_left (by simp [h, hi])]
  simp [St.reg, List.getD, List.getElem?_eq_getElem (show i < s.rg.length by omega)]
theorem St.cell16 {s : St} (h : s.rg.length = 16) : s.cells[16]? = some (.int .i64 s.at0) := by rw [St.cells, stv, List.getElem?_append_right (by simp [h])]; simp [h]
theorem St.cell17 {s : St} (h : s.rg.length = 16) : s.cells[17]? = some (.int .i64 s.steps) := by rw [St.cells, stv, List.getElem?_append_right (by simp [h])]; simp [h]
theorem St.cell18 {s : St} (h : s.rg.length = 16) : s.cells[18]? = some (.int .i64 s.over) := by rw [St.cells, stv, List.getElem?_append_right (by simp [h])]; simp [h]
theorem St.cell19 {s : St} (h : s.rg.length = 16) : s.cells[19]? = some (.int .i64 s.value) := by rw [St.cells, stv, List.getElem?_append_right (by simp [h])]; simp [h]
theorem St.set16 {s : St} (h : s.rg.length = 16) (v : Int) : s.cells.set 16 (.int .i64 v) = { s with at0 := v }.cells := by simp [St.cells, stv, h]
theorem St.set17 {s : St} (h : s.rg.length = 16) (v : Int) : s.cells.set 17 (.int .i64 v) = { s with steps := v }.cells := by simp [St.cells, stv, h]
theorem St.set18 {s : St} (h : s.rg.length = 16) (v : Int) : s.cells.set 18 (.int .i64 v) = { s with over := v }.cells := by simp [St.cells, stv, h]
theorem St.set19 {s : St} (h : s.rg.length = 16) (v : Int) : s.cells.set 19 (.int .i64 v) = { s with value := v }.cells := by simp [St.cells, stv, h]
theorem St.setR {s : St} (h : s.rg.length = 16) {i : Nat} (hi : i < 16) (v : Int) : s.cells.set i (.int .i64 v) = { s with rg := s.rg.set i v }.cells := by simp [St.cells, stv, h, hi, List.map_set]
/-! ### a step -/
def insideB (a words : Int) : Bool := decide (0 ≤ a) && decide (a < words)
def addr (s : St) (x : Ins) : Int := wrap64 (s.reg x.b.toNat + x.n)
def ended (s : St) (how value : Int) : St := { s with over := how, value := value }
def next (s : St) : St := { s with at0 := s.at0 + 1 }
def putR (s : St) (x : Ins) (v : Int) : St := next { s with rg := s.rg.set x.a.toNat v }
def memS (words : Int) (s : St) (x : Ins) (got : Int) : St :=
  if insideB (addr s x) words = true then (if x.kind = 6 then putR s x got else next s) else ended s 3 (addr s x)
def jumpB (s : St) (x : Ins) : Bool := x.kind == 10 || ((s.reg x.a.toNat == 0) == (x.kind == 11))
def branchS (s : St) (x : Ins) : St := if jumpB s x = true then { s with at0 := x.n } else next s
/-! ### a machine in memory -/
theorem vmAt.put {w : World} {p : Nat} {st first : List Value} {code : Value} {words fuel : Int} (h : vmAt w p st code words fuel first) {i : Nat} (hi : i < 20) (u : Value) : vmAt (w.setCell ⟨p, i, none⟩ u) p (st.set i u) code words fuel first := by
  obtain ⟨h1, h2, h3⟩ := h
  refine ⟨?_, by simpa using h2, h3⟩
  rw [blk_set h1 i u]
  have : (vmCells st code words fuel first).setIfInBounds i u = vmCells (st.set i u) code words fuel first := by
    apply Array.toList_inj.1
    rw [Array.toList_setIfInBounds]
    simp [vmCells, h2, hi]
  rw [this]
theorem vmAt.cell {w : World} {p : Nat} {st first : List Value} {code : Value} {words fuel : Int} (h : vmAt w p st code words fuel first) {i : Nat} (hi : i < 20) : w.cell? ⟨p, i, none⟩ = st[i]? := by
  rw [blk_cell h.1]; simp [vmCells, List.getElem?_append, h.2.1, hi]
theorem vmAt.c20 {w : World} {p : Nat} {st first : List Value} {code : Value} {words fuel : Int} (h : vmAt w p st code words fuel first) : w.cell? ⟨p, 20, none⟩ = some code := by
  rw [blk_cell h.1]; simp [vmCells, h.2.1]
theorem vmAt.c21 {w : World} {p : Nat} {st first : List Value} {code : Value} {words fuel : Int} (h : vmAt w p st code words fuel first) : w.cell? ⟨p, 21, none⟩ = some (.int .i64 words) := by
  rw [blk_cell h.1]; simp [vmCells, List.getElem?_append, h.2.1]
theorem vmAt.c22 {w : World} {p : Nat} {st first : List Value} {code : Value} {words fuel : Int} (h : vmAt w p st code words fuel first) : w.cell? ⟨p, 22, none⟩ = some (.int .i64 fuel) := by
  rw [blk_cell h.1]; simp [vmCells, List.getElem?_append, h.2.1]
theorem vmAt.free {w : World} {p : Nat} {st first : List Value} {code : Value} {words fuel : Int} (h : vmAt w p st code words fuel first) (i : Nat) : w.frozen? ⟨p, i, none⟩ = false := blk_free h.1 i
theorem vmAt.lt {w : World} {p : Nat} {st first : List Value} {code : Value} {words fuel : Int} (h : vmAt w p st code words fuel first) : p < w.heap.size := blk_lt h.1
theorem vmAt.far {w w' : World} {p : Nat} {st first : List Value} {code : Value} {words fuel : Int} (h : vmAt w p st code words fuel first) {O : Nat → Prop} (k : Keep O w w') (ho : ¬ O p) : vmAt w' p st code words fuel first := ⟨k.blk h.1 ho, h.2⟩
/-- what a call that works on a machine leaves: its state, and all else as it was -/
def Did (w : World) (p : Nat) (s : St) (code : Value) (words fuel : Int) (first : List Value) (w' : World) : Prop := Keep (fun k => k = p) w w' ∧ vmAt w' p s.cells code words fuel first
/-- a store of a number into one cell -/
theorem run_storeVar_one {P : Program} (w : World) (b o : Nat) (ty : TypeId) (k : IntKind) (v : Int) (hc : (w.cell? ⟨b, o, none⟩).isSome = true) (hf : w.frozen? ⟨b, o, none⟩ = false) (hi : (P.info? ty).map (·.size) = some 1) :
    (storeVar ty ⟨b, o, none⟩ (.int k v)).run P w = .ok () (w.setCell ⟨b, o, none⟩ (.int k v)) := by
  have h0 : ∀ j, j < [Value.int k v].length → j = 0 := fun j hj => by simpa using hj
  have := run_storeCells_cells (P := P) b o [.int k v] 0 w (fun j hj => by rw [h0 j hj]; simpa using hc) (fun j hj => by rw [h0 j hj]; simpa using hf) (fun v hv => by simp at hv; subst hv; rfl)
  cases hq : P.info? ty with
  | none => simp [hq] at hi
  | some i =>
    have hs : i.size = 1 := by simpa [hq] using hi
    simp only [Nat.add_zero] at this
    simp [storeVar, sizeOf, typeInfo, hq, Value.cells, hs, this, World.setCells]
theorem wpList_store_vm {P : Program} {ops : Array Oper} {rest : List Oper} {o : Oper} {a : Act} {w : World} {Q : Exit → Act → World → Prop} (hgd : o.guard = none) (ty : TypeId) (x y : Operand) (ho : o.op = .store ty x y)
    (p i : Nat) (hx : a.eval x = .pointer (some ⟨p, i, none⟩)) (k : IntKind) (v : Int) (hy : a.eval y = .int k v) (hi1 : (P.info? ty).map (·.size) = some 1)
    {st first : List Value} {code : Value} {words fuel : Int} (hm : vmAt w p st code words fuel first) (hi : i < 20)
    (h : ∀ w', vmAt w' p (st.set i (.int k v)) code words fuel first → Keep (fun k => k = p) w w' → wpList P ops Q rest (a.put o.dst undef) w') : wpList P ops Q (o :: rest) a w := by
  refine wpList_plain hgd fun _ hK => ?_
  have hc : (w.cell? ⟨p, i, none⟩).isSome = true := by rw [hm.cell hi, List.getElem?_eq_getElem (by have := hm.2.1; omega)]; rfl
  unfold Oper.wp execOp
  simp only [ho, hx, hy, Instr.storeAt, Instr.sureAddr, Sem.run_bind, Sem.run_pure, Result.andThen_ok, run_storeVar_one w p i ty k v hc (hm.free i) hi1]
  exact hK _ _ (h _ (hm.put hi _) (Keep.set (O := fun k => k = p) (Keep.refl _ w) (p := ⟨p, i, none⟩) (.inl rfl) _))
end Go.Proofs.Ytnikcdcaaeljmaa.My
namespace Go.Proofs.Ytnikcdcaaeljmaa.My
open Go.RowKit
set_option linter.unusedVariables false
set_option linter.unusedSimpArgs false
theorem Did.of {w w' : World} {p : Nat} {s : St} {code : Value} {words fuel : Int} {first : List Value} (h : vmAt w' p s.cells code words fuel first) (k : Keep (fun k => k = p) w w') : Did w p s code words fuel first w' := ⟨k, h⟩
/-- done behind a call that made memory of its own -/
theorem Did.below {w w1 w' : World} {p : Nat} {s : St} {code : Value} {words fuel : Int} {first : List Value} (hb : Below w.heap.size w w1) (h : Did w1 p s code words fuel first w') : Did w p s code words fuel first w' :=
  ⟨(Keep.below (O := fun k => k = p) (Keep.refl _ w) hb).trans h.1 (fun _ _ e => e), h.2⟩
set_option maxRecDepth 100000 in
theorem end_calls (w : World) (p : Nat) (s : St) (code : Value) (words fuel : Int) (first : List Value) (h : vmAt w p s.cells code words fuel first) (hr : s.rg.length = 16) (how value : Int) :
    Calls Try.prog 28 #[.pointer (some ⟨p, 0, none⟩), .int .i64 how, .int .i64 value] w fun e w' => e = .returned (.tuple #[]) ∧ Did w p (ended s how value) code words fuel first w' := by
  have H := Lib.hid h
  have HR := Lib.hid hr
  clear h hr
  go_enter Try.func28, Try.ntmps28
  go_wp2_with (first
    | (refine wpList_store_vm (by rfl) 27 _ _ (by rfl) p 18 (by rfl) .i64 how (by rfl) (by kernel_rfl) H.out (by decide) ?_; intro w1 hw1 hk1; rw [St.set18 HR.out] at hw1; have H1 := Lib.hid hw1; have K1 := Lib.hid hk1; clear hw1 hk1)
    | (refine wpList_store_vm (by rfl) 2 _ _ (by rfl) p 19 (by rfl) .i64 value (by rfl) (by kernel_rfl) H1.out (by decide) ?_; intro w2 hw2 hk2; rw [St.set19 (s := { s with over := how }) HR.out] at hw2; have H2 := Lib.hid hw2; have K2 := Lib.hid hk2; clear hw2 hk2))
  go_end0
  exact ⟨rfl, K1.out.step K2.out, H2.out⟩
def insAgg (x : Ins) : Value := .agg #[.int .i64 x.kind, .int .i64 x.op, .int .i64 x.a, .int .i64 x.b, .int .i64 x.c, .int .i64 x.n]
set_option maxRecDepth 100000 in
set_option maxHeartbeats 1000000 in
theorem address_calls (w : World) (p : Nat) (s : St) (code : Value) (words fuel : Int) (first : List Value) (h : vmAt w p s.cells code words fuel first) (hr : s.rg.length = 16) (x : Ins) (nb : Nat) (hx : x.b = nb) (hb : nb < 16) :
    Calls Try.prog 27 #[.pointer (some ⟨p, 0, none⟩), insAgg x] w fun e w' => e = .returned (.tuple #[.int .i64 (addr s x), .bool (insideB (addr s x) words)]) ∧ Below w.heap.size w w' := by
  have hav : wrap64 (s.reg nb + x.n) = addr s x := by rw [addr, hx]; simp
  obtain ⟨av, hav2⟩ : ∃ av, addr s x = av := ⟨_, rfl⟩
  rw [hav2] at hav ⊢
  obtain ⟨k, op, a, b, c, n⟩ := x
  simp only at hx hav
  subst hx
  simp only [insAgg]
  have HB0 := Lib.hid (Below.al (Below.refl w.heap.size w) (o := .cells #[.int .i64 k, .int .i64 op, .int .i64 a, .int .i64 (nb : Int), .int .i64 c, .int .i64 n] 76))
  have hbx := blk_new w (.cells #[.int .i64 k, .int .i64 op, .int .i64 a, .int .i64 (nb : Int), .int .i64 c, .int .i64 n] 76)
  have hk := h.keep HB0.out
  generalize hw0 : w.alloc (.cells #[.int .i64 k, .int .i64 op, .int .i64 a, .int .i64 (nb : Int), .int .i64 c, .int .i64 n] 76) = w0 at HB0 hbx hk
  have F0 := Lib.hid (show w0.cell? ⟨w.heap.size, 3, none⟩ = some (.int .i64 (nb : Int)) by rw [blk_cell hbx]; rfl)
  have F1 := Lib.hid (show w0.cell? ⟨w.heap.size, 5, none⟩ = some (.int .i64 n) by rw [blk_cell hbx]; rfl)
  have F2 := Lib.hid (show w0.cell? ⟨p, nb, none⟩ = some (.int .i64 (s.reg nb)) by rw [hk.cell (by omega), St.cell hr hb])
  have F3 := Lib.hid (show w0.cell? ⟨p, 21, none⟩ = some (.int .i64 words) from hk.c21)
  have HW := Lib.hid hw0
  have hb0 : (0 : Int) ≤ (nb : Int) := by omega
  have hb1 : (nb : Int) < 16 := by omega
  have hav' : IntKind.i64.wrap (s.reg nb + n) = av := by rw [IntKind.wrap_i64]; unfold wrap64 at hav; exact hav
  clear hbx hk h hr hw0 hav2 hav
  by_cases t0 : 0 ≤ av
  · have d0 : decide (0 ≤ av) = true := by simpa using t0
    by_cases t1 : av < words
    · have d1 : decide (av < words) = true := by simpa using t1
      have HM := Lib.hid (show insideB av words = true by simp [insideB, t0, t1])
      go_enter Try.func27, Try.ntmps27
      go_wp2
      rw [HW.out]
      have f0 := F0.out
      have f1 := F1.out
      have f2 := F2.out
      have f3 := F3.out
      go_quiet ((fail))
      go_wp2
      go_quiet ((fail))
      go_wp2
      go_ret2
      rw [HM.out]
      exact ⟨rfl, below_drewN (below_drewN HB0.out _) _⟩
    · have d1 : decide (av < words) = false := by simpa using t1
      have HM := Lib.hid (show insideB av words = false by simp [insideB, t1])
      go_enter Try.func27, Try.ntmps27
      go_wp2
      rw [HW.out]
      have f0 := F0.out
      have f1 := F1.out
      have f2 := F2.out
      have f3 := F3.out
      go_quiet ((fail))
      go_wp2
      go_quiet ((fail))
      go_wp2
      go_ret2
      rw [HM.out]
      exact ⟨rfl, below_drewN (below_drewN HB0.out _) _⟩
  · have d0 : decide (0 ≤ av) = false := by simpa using t0
    have HM := Lib.hid (show insideB av words = false by simp [insideB, t0])
    go_enter Try.func27, Try.ntmps27
    go_wp2
    rw [HW.out]
    have f0 := F0.out
    have f1 := F1.out
    have f2 := F2.out
    have f3 := F3.out
    go_quiet ((fail))
    go_wp2
    go_quiet ((fail))
    go_wp2
    go_ret2
    rw [HM.out]
    exact ⟨rfl, below_drewN (below_drewN HB0.out _) _⟩
end Go.Proofs.Ytnikcdcaaeljmaa.My
namespace Go.Proofs.Ytnikcdcaaeljmaa.My
open Go.RowKit
set_option linter.unusedVariables false
set_option linter.unusedSimpArgs false
theorem vm_drew {w : World} {p : Nat} {st first : List Value} {code : Value} {words fuel : Int} (h : vmAt w p st code words fuel first) : vmAt w.drew p st code words fuel first := h
theorem Did.boxed {w w' : World} {o : Obj} {w1 : World} {p : Nat} {s : St} {code : Value} {words fuel : Int} {first : List Value} (hb : Below (w.alloc o).heap.size (w.alloc o) w1) (h : Did w1 p s code words fuel first w') : Did w p s code words fuel first w' :=
  Did.below (((Below.refl w.heap.size w).al).trans (hb.mono (by simp))) h
set_option maxRecDepth 100000 in
set_option maxHeartbeats 1000000 in
theorem memory_calls (w : World) (p : Nat) (s : St) (code : Value) (words fuel : Int) (first : List Value) (h : vmAt w p s.cells code words fuel first) (hr : s.rg.length = 16) (x : Ins) (na nb : Nat) (hxa : x.a = na) (ha : na < 16) (hxb : x.b = nb) (hb : nb < 16)
    (h0 : 0 ≤ s.at0) (h1 : s.at0 ≤ 100000) (got : Int) :
    Calls Try.prog 29 #[.pointer (some ⟨p, 0, none⟩), insAgg x, .int .i64 got] w fun e w' => e = .returned (.tuple #[]) ∧ Did w p (memS words s x got) code words fuel first w' := by
  have hA := fun w1 hw1 => address_calls w1 p s code words fuel first hw1 hr x nb hxb hb
  obtain ⟨av, hav⟩ : ∃ av, addr s x = av := ⟨_, rfl⟩
  simp only [hav] at hA
  have HS := Lib.hid (show memS words s x got = if insideB av words = true then (if x.kind = 6 then putR s x got else next s) else ended s 3 av by rw [memS, hav])
  have HA := Lib.hid hA
  obtain ⟨k, op, a, b, c, n⟩ := x
  simp only at hxa hxb
  subst hxa hxb
  simp only [insAgg]
  have HX := Lib.hid (blk_new w (.cells #[.int .i64 k, .int .i64 op, .int .i64 (na : Int), .int .i64 (nb : Int), .int .i64 c, .int .i64 n] 76))
  have HV := Lib.hid (h.keep (Below.al (Below.refl w.heap.size w) (o := .cells #[.int .i64 k, .int .i64 op, .int .i64 (na : Int), .int .i64 (nb : Int), .int .i64 c, .int .i64 n] 76)))
  have HR := Lib.hid hr
  have HN := Lib.hid (show na < 16 from ha)
  have hb0 : (0 : Int) ≤ (na : Int) := by omega
  have hb1 : (na : Int) < 16 := by omega
  clear h hr hA hav hb
  cases hi : insideB av words
  · have HF := Lib.hid (HS.out.trans (if_neg (by simp [hi])))
    clear HS
    go_enter Try.func29, Try.ntmps29
    go_wp2_with (first
      | (go_at_call 28; go_must (refine (end_calls _ p s code words fuel first (HV.out.keep hb1.out) HR.out _ _).mono ?_); rintro y w2 ⟨rfl, hd⟩; have HD := Lib.hid hd; clear hd)
      | (go_at_call 27; go_must (refine (HA.out _ HV.out).mono ?_); rintro y w1 ⟨rfl, hb1⟩; rw [hi]; have hb1 := Lib.hid hb1))
    first | go_end0 | refine bodyPost_ret (results_none rfl _ _ _) rfl ?_
    rw [HF.out]
    exact ⟨rfl, Did.boxed hb1.out HD.out⟩
  · have HF := Lib.hid (HS.out.trans (if_pos hi))
    clear HS
    by_cases hk : k = 6
    · subst hk
      have HG := Lib.hid (HF.out.trans (if_pos rfl))
      clear HF
      go_enter Try.func29, Try.ntmps29
      go_wp2_with (go_at_call 27; go_must (refine (HA.out _ HV.out).mono ?_); rintro y w1 ⟨rfl, hb1⟩; rw [hi]; have hx1 := below_blk hb1 HX.out (blk_lt HX.out); have f0 := blk_cell hx1 0; have f2 := blk_cell hx1 2; have HV1 := Lib.hid (HV.out.keep hb1); have hb1 := Lib.hid hb1; clear hx1)
      go_still_tail 8, (by kernel_rfl)
      refine wpList_store_vm (by rfl) 2 _ _ (by rfl) p na (by rfl) .i64 got (by rfl) (by kernel_rfl) (vm_drew HV1.out) (by have := HN.out; omega) ?_
      intro w2 hw2 hk2
      rw [St.setR HR.out HN.out] at hw2
      have c16 := (hw2.cell (i := 16) (by decide)).trans (St.cell16 (s := { s with rg := s.rg.set na got }) (by simp [HR.out]))
      have H2 := Lib.hid hw2
      have K2 := Lib.hid (Keep.trans (O := fun k => k = p) (Keep.drew (Keep.refl _ w1)) hk2 (fun _ _ e => e))
      clear hw2 hk2 f0 f2
      go_wp2_with (refine wpList_store_vm (by rfl) 3 _ _ (by rfl) p 16 (by rfl) .i64 (s.at0 + 1) (by rfl) (by kernel_rfl) H2.out (by decide) ?_; intro w3 hw3 hk3; rw [St.set16 (s := { s with rg := s.rg.set na got }) (by simp [HR.out])] at hw3; have H3 := Lib.hid hw3; have K3 := Lib.hid hk3; clear hw3 hk3)
      go_end0
      rw [HG.out]
      exact ⟨rfl, Did.boxed hb1.out ⟨K2.out.step K3.out, H3.out⟩⟩
    · have hk' : (k == 6) = false := by simp [hk]
      have HG := Lib.hid (HF.out.trans (if_neg hk))
      clear HF
      go_enter Try.func29, Try.ntmps29
      go_wp2_with (first
       | (refine wpList_store_vm (by rfl) 3 _ _ (by rfl) p 16 (by rfl) .i64 (s.at0 + 1) (by rfl) (by kernel_rfl) HV1.out (by decide) ?_; intro w3 hw3 hk3; rw [St.set16 HR.out] at hw3; have H3 := Lib.hid hw3; have K3 := Lib.hid hk3; clear hw3 hk3)
       | (go_at_call 27; go_must (refine (HA.out _ HV.out).mono ?_); rintro y w1 ⟨rfl, hb1⟩; rw [hi]; have hx1 := below_blk hb1 HX.out (blk_lt HX.out); have f0 := blk_cell hx1 0; have c16 := ((HV.out.keep hb1).cell (i := 16) (by decide)).trans (St.cell16 HR.out); have HV1 := Lib.hid (HV.out.keep hb1); have hb1 := Lib.hid hb1; clear hx1))
      go_end0
      rw [HG.out]
      exact ⟨rfl, Did.boxed hb1.out ⟨K3.out, H3.out⟩⟩
end Go.Proofs.Ytnikcdcaaeljmaa.My
namespace Go.Proofs.Ytnikcdcaaeljmaa.My
open Go.RowKit
set_option linter.unusedVariables false
set_option linter.unusedSimpArgs false
set_option maxRecDepth 100000 in
set_option maxHeartbeats 2000000 in
theorem branch_calls (w : World) (p : Nat) (s : St) (code : Value) (words fuel : Int) (first : List Value) (h : vmAt w p s.cells code words fuel first) (hr : s.rg.length = 16) (x : Ins) (na : Nat) (hxa : x.a = na) (ha : na < 16)
    (h0 : 0 ≤ s.at0) (h1 : s.at0 ≤ 100000) :
    Calls Try.prog 30 #[.pointer (some ⟨p, 0, none⟩), insAgg x] w fun e w' => e = .returned (.tuple #[]) ∧ Did w p (branchS s x) code words fuel first w' := by
  obtain ⟨k, op, a, b, c, n⟩ := x
  simp only at hxa
  subst hxa
  have hrg := St.cell hr ha
  have HS0 : branchS s ⟨k, op, na, b, c, n⟩ = if (k == 10 || ((s.reg na == 0) == (k == 11))) = true then { s with at0 := n } else next s := by simp [branchS, jumpB]
  generalize s.reg na = r at hrg HS0
  have HS := Lib.hid HS0
  simp only [insAgg]
  have HB0 := Lib.hid (Below.al (Below.refl w.heap.size w) (o := .cells #[.int .i64 k, .int .i64 op, .int .i64 (na : Int), .int .i64 b, .int .i64 c, .int .i64 n] 76))
  have hbx := blk_new w (.cells #[.int .i64 k, .int .i64 op, .int .i64 (na : Int), .int .i64 b, .int .i64 c, .int .i64 n] 76)
  have hk := h.keep HB0.out
  generalize hw0 : w.alloc (.cells #[.int .i64 k, .int .i64 op, .int .i64 (na : Int), .int .i64 b, .int .i64 c, .int .i64 n] 76) = w0 at HB0 hbx hk
  have F0 := Lib.hid (show w0.cell? ⟨w.heap.size, 0, none⟩ = some (.int .i64 k) by rw [blk_cell hbx]; rfl)
  have F1 := Lib.hid (show w0.cell? ⟨w.heap.size, 2, none⟩ = some (.int .i64 (na : Int)) by rw [blk_cell hbx]; rfl)
  have F2 := Lib.hid (show w0.cell? ⟨w.heap.size, 5, none⟩ = some (.int .i64 n) by rw [blk_cell hbx]; rfl)
  have F3 := Lib.hid (show w0.cell? ⟨p, na, none⟩ = some (.int .i64 r) by rw [hk.cell (by omega), hrg])
  have F4 := Lib.hid (show w0.cell? ⟨p, 16, none⟩ = some (.int .i64 s.at0) by rw [hk.cell (by omega), St.cell16 hr])
  have HW := Lib.hid hw0
  have HV := Lib.hid hk
  have HR := Lib.hid hr
  have hb0 : (0 : Int) ≤ (na : Int) := by omega
  have hb1 : (na : Int) < 16 := by omega
  clear hbx hk h hr hw0 hrg HS0
  by_cases h10 : k = 10
  · subst h10
    have HG := Lib.hid (HS.out.trans (if_pos (by simp [*])))
    clear HS
    go_enter Try.func30, Try.ntmps30
    go_wp2
    rw [HW.out]
    have f0 := F0.out
    have f1 := F1.out
    have f2 := F2.out
    have f3 := F3.out
    have f4 := F4.out
    go_quiet ((fail))
    go_wp2_with (refine wpList_store_vm (by rfl) 3 _ _ (by rfl) p 16 (by rfl) .i64 n (by rfl) (by kernel_rfl) (vm_drewN HV.out _) (by decide) ?_; intro w3 hw3 hk3; rw [St.set16 HR.out] at hw3; have H3 := Lib.hid hw3; have K3 := Lib.hid hk3; clear hw3 hk3)
    first | go_end0 | refine bodyPost_ret (results_none rfl _ _ _) rfl ?_
    rw [HG.out]
    exact ⟨rfl, Did.below HB0.out (Did.of H3.out ((Keep.drewN (Keep.refl _ w0) _).step K3.out))⟩
  · have e10 : (k == 10) = false := by simp [h10]
    by_cases hz : r = 0
    · have ez : (r == 0) = true := by simp [hz]
      by_cases h11 : k = 11
      · subst h11
        have HG := Lib.hid (HS.out.trans (if_pos (by simp [*])))
        clear HS
        go_enter Try.func30, Try.ntmps30
        go_wp2
        rw [HW.out]
        have f0 := F0.out
        have f1 := F1.out
        have f2 := F2.out
        have f3 := F3.out
        have f4 := F4.out
        go_quiet ((fail))
        go_wp2_with (refine wpList_store_vm (by rfl) 3 _ _ (by rfl) p 16 (by rfl) .i64 n (by rfl) (by kernel_rfl) (vm_drewN HV.out _) (by decide) ?_; intro w3 hw3 hk3; rw [St.set16 HR.out] at hw3; have H3 := Lib.hid hw3; have K3 := Lib.hid hk3; clear hw3 hk3)
        first | go_end0 | refine bodyPost_ret (results_none rfl _ _ _) rfl ?_
        rw [HG.out]
        exact ⟨rfl, Did.below HB0.out (Did.of H3.out ((Keep.drewN (Keep.refl _ w0) _).step K3.out))⟩
      · have e11 : (k == 11) = false := by simp [h11]
        have HG := Lib.hid (HS.out.trans (if_neg (by simp [*])))
        clear HS
        go_enter Try.func30, Try.ntmps30
        go_wp2
        rw [HW.out]
        have f0 := F0.out
        have f1 := F1.out
        have f2 := F2.out
        have f3 := F3.out
        have f4 := F4.out
        go_quiet ((fail))
        go_wp2_with (refine wpList_store_vm (by rfl) 3 _ _ (by rfl) p 16 (by rfl) .i64 (s.at0 + 1) (by rfl) (by kernel_rfl) (vm_drewN HV.out _) (by decide) ?_; intro w3 hw3 hk3; rw [St.set16 HR.out] at hw3; have H3 := Lib.hid hw3; have K3 := Lib.hid hk3; clear hw3 hk3)
        first | go_end0 | refine bodyPost_ret (results_none rfl _ _ _) rfl ?_
        rw [HG.out]
        exact ⟨rfl, Did.below HB0.out (Did.of H3.out ((Keep.drewN (Keep.refl _ w0) _).step K3.out))⟩
    · have ez : (r == 0) = false := by simp [hz]
      by_cases h11 : k = 11
      · subst h11
        have HG := Lib.hid (HS.out.trans (if_neg (by simp [*])))
        clear HS
        go_enter Try.func30, Try.ntmps30
        go_wp2
        rw [HW.out]
        have f0 := F0.out
        have f1 := F1.out
        have f2 := F2.out
        have f3 := F3.out
        have f4 := F4.out
        go_quiet ((fail))
        go_wp2_with (refine wpList_store_vm (by rfl) 3 _ _ (by rfl) p 16 (by rfl) .i64 (s.at0 + 1) (by rfl) (by kernel_rfl) (vm_drewN HV.out _) (by decide) ?_; intro w3 hw3 hk3; rw [St.set16 HR.out] at hw3; have H3 := Lib.hid hw3; have K3 := Lib.hid hk3; clear hw3 hk3)
        first | go_end0 | refine bodyPost_ret (results_none rfl _ _ _) rfl ?_
        rw [HG.out]
        exact ⟨rfl, Did.below HB0.out (Did.of H3.out ((Keep.drewN (Keep.refl _ w0) _).step K3.out))⟩
      · have e11 : (k == 11) = false := by simp [h11]
        have HG := Lib.hid (HS.out.trans (if_pos (by simp [*])))
        clear HS
        go_enter Try.func30, Try.ntmps30
        go_wp2
        rw [HW.out]
        have f0 := F0.out
        have f1 := F1.out
        have f2 := F2.out
        have f3 := F3.out
        have f4 := F4.out
        go_quiet ((fail))
        go_wp2_with (refine wpList_store_vm (by rfl) 3 _ _ (by rfl) p 16 (by rfl) .i64 n (by rfl) (by kernel_rfl) (vm_drewN HV.out _) (by decide) ?_; intro w3 hw3 hk3; rw [St.set16 HR.out] at hw3; have H3 := Lib.hid hw3; have K3 := Lib.hid hk3; clear hw3 hk3)
        first | go_end0 | refine bodyPost_ret (results_none rfl _ _ _) rfl ?_
        rw [HG.out]
        exact ⟨rfl, Did.below HB0.out (Did.of H3.out ((Keep.drewN (Keep.refl _ w0) _).step K3.out))⟩
end Go.Proofs.Ytnikcdcaaeljmaa.My
