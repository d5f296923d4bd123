/- The reading of the arguments: what a slice of statements is as9 a tree, and its size. Also: a call that keeps what was there leaves the arguments as9 they read. -/
import Derived.Test.YtjlnpppjkdcpkaaRows
import Derived.Test.YtjlnpppjkdcpkaaEREv64
import Derived.Test.YtjlnpppjkdcpkaaEREvR
import Derived.ProofKit
import Derived.OpenShut
import Derived.JoinedCond
import Derived.Deep.Fields
import Derived.Carry
namespace Go.Proofs.Ytjlnpppjkdcpkaa.My
open Go.ChangeShapes Go.WideShapes Go.ChangeAt Go.RowKit Go.Deep
section
variable {H : Type} {enc : TypeId × Value → H} {w : World}
theorem bulk_pos (d : DataW H) : 1 ≤ Rows.uptoBulk d := by
 cases d with
 | lit l => cases l <;> simp [Rows.uptoBulk]
 | _ => simp [Rows.uptoBulk]
theorem open_sl {P : Program} {t e : TypeId} (ht : P.underlying t = some (.slice e)) (hc : 0 < P.cellsOf e) {fuel : Nat} {cs : List Value} {x : DataW H × List MemPlace} (h : DataW.trod enc P w 0 (fun _ => true) true fuel t cs = some x) :
  cs = [.slice none 0 0] ∨ ∃ (A : Option Addr) (len cap : Nat) (ys : List (DataW H × List MemPlace)) (n : Nat), cs = [.slice A len cap] ∧ (len ≤ cap ∧ cap ≤ maxLen) ∧ ys.length = len ∧ Rows.uptoBulkAll (ys.map (·.1)) + 1 ≤ Rows.uptoBulk x.1 ∧
   ∀ i, i < len → ∃ b o cs' y, A = some ⟨b, o, none⟩ ∧ ys[i]? = some y ∧ cs'.length = P.cellsOf e ∧ DataW.trod enc P w 0 (fun _ => true) true n e cs' = some y ∧ ∀ m u, cs'[m]? = some u → w.cell? ⟨b, o + i * P.cellsOf e + m, none⟩ = some u := by
 rcases DataW.trod_slice ht h with h0 | ⟨a, len, cap, elems, rest, n, _, rfl, rfl, hb, hl, hm, hlen, hel, _, _⟩
 ·exact .inl h0.1
 refine .inr ⟨some a, len, cap, elems, n, rfl, ⟨hl, hm⟩, hlen, ?_, fun i hi => ?_⟩
 ·simp only [Rows.uptoBulk]; omega
 ·have g := hel i hi
  rw [List.getElem?_eq_getElem (by omega)] at g
  obtain ⟨cs', h1, h2⟩ := Option.bind_eq_some_iff.1 g; obtain ⟨_, hlen', hcell⟩ := World.cells?_some h1; obtain ⟨b, o, spot⟩ := a; have hspot : spot = none := by
   have h1 := hel 0 (by omega)
   have h1' : (w.cells? 0 ((⟨b, o, spot⟩ : Addr).add (0 * P.cellsOf e)) (P.cellsOf e)).bind (DataW.trod enc P w 0 (fun _ => true) true n e) = some (elems[0]'(by omega)) := by rw [h1, List.getElem?_eq_getElem (by omega)]
   obtain ⟨cs0, h1, _⟩ := Option.bind_eq_some_iff.1 h1'; obtain ⟨_, hl0, hc0⟩ := World.cells?_some h1; have h0 := hc0 0 hc; rw [List.getElem?_eq_getElem (by omega)] at h0
   simpa [Addr.add] using World.cell?_spot h0
  subst hspot; refine ⟨b, o, cs', _, rfl, List.getElem?_eq_getElem (by omega), hlen', h2, fun m u hu => ?_⟩
  have hm' : m < cs'.length := (List.getElem?_eq_some_iff.1 hu).1
  have := hcell m (by omega)
  rw [add_add, add_plain, hu] at this; rw [Nat.add_assoc]; exact this
theorem open_st {P : Program} {t : TypeId} {fs : Array Field} (hs : P.underlying t = some (.struct fs)) (hone : ∀ (i : Nat) (f : Field), fs[i]? = some f → f.offset = i ∧ P.cellsOf f.type = 1) (hC : P.cellsOf t = fs.size) {fuel : Nat} {cs : List Value} {x : DataW H × List MemPlace}
  (h : DataW.trod enc P w 0 (fun _ => true) true fuel t cs = some x) : cs.length = fs.size ∧ ∃ (xs : List (DataW H × List MemPlace)) (n : Nat), x.1 = .agg (xs.map (·.1)) ∧ xs.length = fs.size ∧ ∀ (i : Nat) (f : Field), fs[i]? = some f → DataW.trod enc P w 0 (fun _ => true) true n f.type [cs.getD i undef] = xs[i]? := by
 obtain ⟨xs, n, _, rfl, hl, hxl, hf⟩ := DataW.trod_struct hs h; rw [hC] at hl; refine ⟨hl, xs, n, rfl, hxl, fun i f hi => ?_⟩
 have hlt : i < fs.size := (Array.getElem?_eq_some_iff.1 hi).1
 obtain ⟨ho, hc1⟩ := hone i f hi; have g := hf i f hi; rw [ho, hc1, take1_drop cs i undef (by omega)] at g
 exact g
theorem wf64 {n : Int} (h : (Lit.int .i64 n).wf = true) : n64 n := by
 simp [Lit.wf, IntKind.min, IntKind.max, IntKind.signed, IntKind.bits] at h
 exact h
theorem open_expr {fuel : Nat} {cs : List Value} {x : DataW H × List MemPlace} (h : DataW.trod enc Try.prog w 0 (fun _ => true) true fuel 66 cs = some x) :
  ∃ (k nn : Int) (s : ByteArray) (o : Int) (v : Value) (n : Nat) (y : DataW H × List MemPlace), cs = [.int .i64 k, .int .i64 nn, .string s, .int .i64 o, v] ∧ s.size ≤ maxLen ∧ DataW.trod enc Try.prog w 0 (fun _ => true) true n 34 [v] = some y ∧ Rows.uptoBulk y.1 + 1 ≤ Rows.uptoBulk x.1 ∧ n64 k ∧ n64 nn ∧ n64 o := by
 obtain ⟨hl, xs, n, hx, hxl, hf⟩ := open_st Try.underlying66 (hone_of (by kernel_rfl)) (by kernel_rfl) h
 match cs, xs, hl, hxl with
 | [c0, c1, c2, c3, c4], [x0, x1, x2, x3, x4], _, _ =>
  have h0 := hf 0 _ rfl; have h1 := hf 1 _ rfl; have h2 := hf 2 _ rfl; have h3 := hf 3 _ rfl; have h4 := hf 4 _ rfl; simp only [List.getD_cons_zero, List.getD_cons_succ, List.getElem?_cons_zero, List.getElem?_cons_succ] at h0 h1 h2 h3 h4
  obtain ⟨k, e0, _, w0⟩ := DataW.trod_int (k := .i64) (by kernel_rfl) h0
  obtain ⟨nn, e1, _, w1⟩ := DataW.trod_int (k := .i64) (by kernel_rfl) h1
  obtain ⟨s, e2, _, hs⟩ := DataW.trod_string (by kernel_rfl) h2
  obtain ⟨o, e3, _, w3⟩ := DataW.trod_int (k := .i64) (by kernel_rfl) h3
  simp only [List.cons.injEq, and_true] at e0 e1 e2 e3
  subst e0 e1 e2 e3; refine ⟨k, nn, s, o, c4, n, x4, rfl, hs, h4, ?_, wf64 w0, wf64 w1, wf64 w3⟩
  rw [hx]; simp only [Rows.uptoBulk, Rows.uptoBulkAll, List.map_cons, List.map_nil]
  omega
theorem Expr.rds_mk {w : World} : ∀ (l : List Expr) (A : Option Addr) (i : Nat), (∀ j (hj : j < l.length), ∃ b o cs, A = some ⟨b, o, none⟩ ∧ (l[j]).rd w cs ∧ ∀ m u, cs[m]? = some u → w.cell? ⟨b, o + (i + j) * 5 + m, none⟩ = some u) → Expr.rds w l A i
 | [], _, _, _ => by simp [Expr.rds]
 | e :: l, A, i, h => by
  simp only [Expr.rds]
  refine ⟨h 0 (by simp), Expr.rds_mk l A (i + 1) fun j hj => ?_⟩
  obtain ⟨b, o, cs, h1, h2, h3⟩ := h (j + 1) (by simpa using hj)
  exact ⟨b, o, cs, h1, h2, by rw [show i + 1 + j = i + (j + 1) by omega]; exact h3⟩
theorem Stmt.rds_mk {w : World} : ∀ (l : List Stmt) (A : Option Addr) (i : Nat), (∀ j (hj : j < l.length), ∃ b o cs, A = some ⟨b, o, none⟩ ∧ (l[j]).rd w cs ∧ ∀ m u, cs[m]? = some u → w.cell? ⟨b, o + (i + j) * 6 + m, none⟩ = some u) → Stmt.rds w l A i
 | [], _, _, _ => by simp [Stmt.rds]
 | e :: l, A, i, h => by
  simp only [Stmt.rds]
  refine ⟨h 0 (by simp), Stmt.rds_mk l A (i + 1) fun j hj => ?_⟩
  obtain ⟨b, o, cs, h1, h2, h3⟩ := h (j + 1) (by simpa using hj)
  exact ⟨b, o, cs, h1, h2, by rw [show i + 1 + j = i + (j + 1) by omega]; exact h3⟩
theorem Expr.sum_le : ∀ (ys : List (DataW H)) (E : Nat → Expr) (off : Nat), (∀ i (hi : i < ys.length), (E (off + i)).nodes ≤ Rows.uptoBulk ys[i]) → Expr.nodesL ((List.range ys.length).map fun i => E (off + i)) ≤ Rows.uptoBulkAll ys
 | [], _, _, _ => by simp [Expr.nodesL]
 | y :: ys, E, off, h => by
  have h0 := h 0 (by simp)
  have ih := Expr.sum_le ys E (off + 1) fun i hi => by
   have := h (i + 1) (by simpa using hi)
   rw [show off + 1 + i = off + (i + 1) by omega]
   simpa using this
  rw [List.length_cons, List.range_succ_eq_map, List.map_cons, List.map_map]; simp only [Expr.nodesL, Rows.uptoBulkAll]
  have e : (List.range ys.length).map ((fun i => E (off + i)) ∘ Nat.succ) = (List.range ys.length).map fun i => E (off + 1 + i) := by
   apply List.map_congr_left; intro i _; show E (off + (i + 1)) = _; rw [show off + (i + 1) = off + 1 + i by omega]
  rw [e]; simp only [List.getElem_cons_zero, Nat.add_zero] at h0 ⊢
  omega
theorem Stmt.sum_le : ∀ (ys : List (DataW H)) (E : Nat → Stmt) (off : Nat), (∀ i (hi : i < ys.length), (E (off + i)).nodes ≤ Rows.uptoBulk ys[i]) → Stmt.nodesL ((List.range ys.length).map fun i => E (off + i)) ≤ Rows.uptoBulkAll ys
 | [], _, _, _ => by simp [Stmt.nodesL]
 | y :: ys, E, off, h => by
  have h0 := h 0 (by simp)
  have ih := Stmt.sum_le ys E (off + 1) fun i hi => by
   have := h (i + 1) (by simpa using hi)
   rw [show off + 1 + i = off + (i + 1) by omega]
   simpa using this
  rw [List.length_cons, List.range_succ_eq_map, List.map_cons, List.map_map]; simp only [Stmt.nodesL, Rows.uptoBulkAll]
  have e : (List.range ys.length).map ((fun i => E (off + i)) ∘ Nat.succ) = (List.range ys.length).map fun i => E (off + 1 + i) := by
   apply List.map_congr_left; intro i _; show E (off + (i + 1)) = _; rw [show off + (i + 1) = off + 1 + i by omega]
  rw [e]; simp only [List.getElem_cons_zero, Nat.add_zero] at h0 ⊢
  omega
theorem open_exprs (N : Nat) : ∀ (fuel : Nat) (cs : List Value) (x : DataW H × List MemPlace), DataW.trod enc Try.prog w 0 (fun _ => true) true fuel 34 cs = some x → Rows.uptoBulk x.1 ≤ N →
  ∃ (l : List Expr) (A : Option Addr) (c : Nat), cs = [.slice A l.length c] ∧ l.length ≤ c ∧ Expr.rds w l A 0 ∧ Expr.nodesL l ≤ Rows.uptoBulk x.1 ∧ Expr.in64L l := by
 induction N with
 | zero => intro fuel cs x _ hN; have := bulk_pos x.1; omega
 | succ N ih =>
  intro fuel cs x h hN; rcases open_sl Try.underlying34 (by rw [show Try.prog.cellsOf 66 = 5 by kernel_rfl]; decide) h with rfl | ⟨A, len, cap, ys, n, rfl, hle, hyl, hbk, hel⟩
  ·exact ⟨[], none, 0, rfl, Nat.le_refl _, by simp [Expr.rds], by simp [Expr.nodesL], by simp [Expr.in64L]⟩
  ·rw [show Try.prog.cellsOf 66 = 5 by kernel_rfl] at hel
   have hpick : ∀ i, i < len → ∃ e : Expr, (∃ b o cs', A = some ⟨b, o, none⟩ ∧ e.rd w cs' ∧ ∀ m u, cs'[m]? = some u → w.cell? ⟨b, o + i * 5 + m, none⟩ = some u) ∧ e.nodes ≤ Rows.uptoBulk (ys.getD i default).1 ∧ e.in64 := by
    intro i hi; obtain ⟨b, o, cs', y, hA, hy, hcl, htr, hcell⟩ := hel i hi; obtain ⟨k, nn, s, p, v, n', z, rfl, hs, hz, hzb, hw⟩ := open_expr htr; have hyb : Rows.uptoBulk y.1 ≤ Rows.uptoBulkAll (ys.map (·.1)) := by
     have hm : y.1 ∈ ys.map (·.1) := List.mem_map_of_mem (List.mem_of_getElem? hy)
     clear hbk hel hzb; generalize ys.map (·.1) = zs at hm ⊢
     induction zs with
     | nil => cases hm
     | cons a r ihr =>
      simp only [Rows.uptoBulkAll]
      rcases List.mem_cons.1 hm with e | e
      ·subst e; omega
      ·have := ihr e; omega
    obtain ⟨l, A', c', hv, hl', hr', hn', hq'⟩ := ih n' [v] z hz (by omega)
    simp only [List.cons.injEq, and_true] at hv
    subst hv; refine ⟨.mk k nn s p l, ⟨b, o, _, hA, ?_, hcell⟩, ?_, by simp only [Expr.in64]; exact ⟨hw.1, hw.2.1, hw.2.2, hq'⟩⟩
    ·simp only [Expr.rd]
     exact ⟨A', c', rfl, hl', hs, hr'⟩
    ·have e : ys.getD i default = y := by simp [List.getD, hy]
     rw [e]; simp only [Expr.nodes]
     omega
   obtain ⟨E, hE⟩ := choose_lt hpick; refine ⟨(List.range len).map E, A, cap, by simp, by simpa using hle.1, ?_, ?_, Expr.in64_of fun e he => by obtain ⟨j, hj, rfl⟩ := List.mem_map.1 he; exact (hE j (by simpa using hj)).2.2⟩
   ·refine Expr.rds_mk _ _ _ fun j hj => ?_
    have hj' : j < len := by simpa using hj
    obtain ⟨b, o, cs', h1, h2, h3⟩ := (hE j hj').1; refine ⟨b, o, cs', h1, ?_, by rw [Nat.zero_add]; exact h3⟩
    simpa using h2
   ·have h1 := Expr.sum_le (ys.map (·.1)) E 0 fun i hi => by
     have hi' : i < len := by simpa [hyl] using hi
     have := (hE i hi').2.1
     rw [Nat.zero_add]; have e : ys.getD i default = ys[i]'(by omega) := by simp [List.getD, hyl, hi']
     rw [e] at this; simpa using this
    rw [List.length_map, hyl] at h1; simp only [Nat.zero_add] at h1
    have e : (List.range len).map (fun i => E i) = (List.range len).map E := rfl
    rw [e] at h1; omega
theorem bulk_mem {d : DataW H} {l : List (DataW H)} (h : d ∈ l) : Rows.uptoBulk d ≤ Rows.uptoBulkAll l := by
 induction l with
 | nil => cases h
 | cons a r ihr =>
  simp only [Rows.uptoBulkAll]
  rcases List.mem_cons.1 h with e | e
  ·subst e; omega
  ·have := ihr e; omega
theorem open_stmt {fuel : Nat} {cs : List Value} {x : DataW H × List MemPlace} (h : DataW.trod enc Try.prog w 0 (fun _ => true) true fuel 36 cs = some x) :
  ∃ (k : Int) (s : ByteArray) (c : Int) (v0 v1 v2 : Value) (n : Nat) (y0 y1 y2 : DataW H × List MemPlace), (n64 k ∧ n64 c) ∧ cs = [.int .i64 k, .string s, .int .i64 c, v0, v1, v2] ∧ s.size ≤ maxLen ∧ DataW.trod enc Try.prog w 0 (fun _ => true) true n 34 [v0] = some y0 ∧ DataW.trod enc Try.prog w 0 (fun _ => true) true n 22 [v1] = some y1 ∧ DataW.trod enc Try.prog w 0 (fun _ => true) true n 22 [v2] = some y2 ∧
   Rows.uptoBulk y0.1 + Rows.uptoBulk y1.1 + Rows.uptoBulk y2.1 + 1 ≤ Rows.uptoBulk x.1 := by
 obtain ⟨hl, xs, n, hx, hxl, hf⟩ := open_st Try.underlying36 (hone_of (by kernel_rfl)) (by kernel_rfl) h
 match cs, xs, hl, hxl with
 | [c0, c1, c2, c3, c4, c5], [x0, x1, x2, x3, x4, x5], _, _ =>
  have h0 := hf 0 _ rfl; have h1 := hf 1 _ rfl; have h2 := hf 2 _ rfl; have h3 := hf 3 _ rfl; have h4 := hf 4 _ rfl; have h5 := hf 5 _ rfl; simp only [List.getD_cons_zero, List.getD_cons_succ, List.getElem?_cons_zero, List.getElem?_cons_succ] at h0 h1 h2 h3 h4 h5
  obtain ⟨k, e0, _, w0⟩ := DataW.trod_int (k := .i64) (by kernel_rfl) h0
  obtain ⟨s, e1, _, hs⟩ := DataW.trod_string (by kernel_rfl) h1
  obtain ⟨c, e2, _, w2⟩ := DataW.trod_int (k := .i64) (by kernel_rfl) h2
  simp only [List.cons.injEq, and_true] at e0 e1 e2
  subst e0 e1 e2; refine ⟨k, s, c, c3, c4, c5, n, x3, x4, x5, ⟨wf64 w0, wf64 w2⟩, rfl, hs, h3, h4, h5, ?_⟩
  rw [hx]; simp only [Rows.uptoBulk, Rows.uptoBulkAll, List.map_cons, List.map_nil]
  omega
theorem open_stmts (N : Nat) : ∀ (fuel : Nat) (cs : List Value) (x : DataW H × List MemPlace), DataW.trod enc Try.prog w 0 (fun _ => true) true fuel 22 cs = some x → Rows.uptoBulk x.1 ≤ N →
  ∃ (l : List Stmt) (A : Option Addr) (c : Nat), cs = [.slice A l.length c] ∧ l.length ≤ c ∧ Stmt.rds w l A 0 ∧ Stmt.nodesL l ≤ Rows.uptoBulk x.1 ∧ Stmt.in64L l := by
 induction N with
 | zero => intro fuel cs x _ hN; have := bulk_pos x.1; omega
 | succ N ih =>
  intro fuel cs x h hN; rcases open_sl Try.underlying22 (by rw [show Try.prog.cellsOf 36 = 6 by kernel_rfl]; decide) h with rfl | ⟨A, len, cap, ys, n, rfl, hle, hyl, hbk, hel⟩
  ·exact ⟨[], none, 0, rfl, Nat.le_refl _, by simp [Stmt.rds], by simp [Stmt.nodesL], by simp [Stmt.in64L]⟩
  ·rw [show Try.prog.cellsOf 36 = 6 by kernel_rfl] at hel
   have hpick : ∀ i, i < len → ∃ e : Stmt, (∃ b o cs', A = some ⟨b, o, none⟩ ∧ e.rd w cs' ∧ ∀ m u, cs'[m]? = some u → w.cell? ⟨b, o + i * 6 + m, none⟩ = some u) ∧ e.nodes ≤ Rows.uptoBulk (ys.getD i default).1 ∧ e.in64 := by
    intro i hi; obtain ⟨b, o, cs', y, hA, hy, hcl, htr, hcell⟩ := hel i hi; obtain ⟨k, s, c, v0, v1, v2, n', z0, z1, z2, hw, rfl, hs, hz0, hz1, hz2, hzb⟩ := open_stmt htr; have hyb : Rows.uptoBulk y.1 ≤ Rows.uptoBulkAll (ys.map (·.1)) := bulk_mem (List.mem_map_of_mem (List.mem_of_getElem? hy))
    obtain ⟨l0, A0, c0, hv0, hl0, hr0, hn0, hq0⟩ := open_exprs _ n' [v0] z0 hz0 (Nat.le_refl _); obtain ⟨l1, A1, c1, hv1, hl1, hr1, hn1, hq1⟩ := ih n' [v1] z1 hz1 (by omega)
    obtain ⟨l2, A2, c2, hv2, hl2, hr2, hn2, hq2⟩ := ih n' [v2] z2 hz2 (by omega)
    simp only [List.cons.injEq, and_true] at hv0 hv1 hv2
    subst hv0 hv1 hv2; refine ⟨.mk k s c l0 l1 l2, ⟨b, o, _, hA, ?_, hcell⟩, ?_, by simp only [Stmt.in64]; exact ⟨hw.1, hw.2, hq0, hq1, hq2⟩⟩
    ·simp only [Stmt.rd]
     exact ⟨A0, c0, A1, c1, A2, c2, rfl, hl0, hl1, hl2, hs, hr0, hr1, hr2⟩
    ·have e : ys.getD i default = y := by simp [List.getD, hy]
     rw [e]; simp only [Stmt.nodes]
     omega
   obtain ⟨E, hE⟩ := choose_lt hpick; refine ⟨(List.range len).map E, A, cap, by simp, by simpa using hle.1, ?_, ?_, Stmt.in64_of fun e he => by obtain ⟨j, hj, rfl⟩ := List.mem_map.1 he; exact (hE j (by simpa using hj)).2.2⟩
   ·refine Stmt.rds_mk _ _ _ fun j hj => ?_
    have hj' : j < len := by simpa using hj
    obtain ⟨b, o, cs', h1, h2, h3⟩ := (hE j hj').1; refine ⟨b, o, cs', h1, ?_, by rw [Nat.zero_add]; exact h3⟩
    simpa using h2
   ·have h1 := Stmt.sum_le (ys.map (·.1)) E 0 fun i hi => by
     have hi' : i < len := by simpa [hyl] using hi
     have := (hE i hi').2.1
     rw [Nat.zero_add]; have e : ys.getD i default = ys[i]'(by omega) := by simp [List.getD, hyl, hi']
     rw [e] at this; simpa using this
    rw [List.length_map, hyl] at h1; simp only [Nat.zero_add] at h1
    have e : (List.range len).map (fun i => E i) = (List.range len).map E := rfl
    rw [e] at h1; omega
/-- a row of numbers -/
theorem open_nums {fuel : Nat} {cs : List Value} {x : DataW H × List MemPlace} (h : DataW.trod enc Try.prog w 0 (fun _ => true) true fuel 46 cs = some x) :
  ∃ (l : List Int) (A : Option Addr) (c : Nat), cs = [.slice A l.length c] ∧ (l.length ≤ c ∧ c ≤ maxLen) ∧ numRow w l A ∧ (∀ y ∈ l, n64 y) ∧ l.length ≤ Rows.uptoBulk x.1 := by
 rcases open_sl Try.underlying46 (by rw [show Try.prog.cellsOf 2 = 1 by kernel_rfl]; decide) h with rfl | ⟨A, len, cap, ys, n, rfl, hle, hyl, hbk, hel⟩
 ·exact ⟨[], none, 0, rfl, ⟨Nat.le_refl _, Nat.zero_le _⟩, fun j hj => absurd hj (Nat.not_lt_zero _), fun y hy => (by cases hy), Nat.zero_le _⟩
 ·rw [show Try.prog.cellsOf 2 = 1 by kernel_rfl] at hel
  have hpick : ∀ i, i < len → ∃ y : Int, (∃ b o, A = some ⟨b, o, none⟩ ∧ w.cell? ⟨b, o + i, none⟩ = some (.int .i64 y)) ∧ n64 y := by
   intro i hi; obtain ⟨b, o, cs', y, hA, hy, hcl, htr, hcell⟩ := hel i hi; obtain ⟨z, rfl, _, hz⟩ := DataW.trod_int (k := .i64) (by kernel_rfl) htr
   refine ⟨z, ⟨b, o, hA, ?_⟩, wf64 hz⟩
   simpa using hcell 0 _ rfl
  obtain ⟨E, hE⟩ := choose_lt hpick; have hbl : ∀ (zs : List (DataW H)), zs.length ≤ Rows.uptoBulkAll zs := by
   intro zs; induction zs with
   | nil => simp
   | cons a r ih => have := bulk_pos a; simp only [Rows.uptoBulkAll, List.length_cons]; omega
  have hb2 := hbl (ys.map (·.1))
  rw [List.length_map, hyl] at hb2; refine ⟨(List.range len).map E, A, cap, by simp, by simpa using hle, fun j hj => ?_, fun y hy => ?_, by simp; omega⟩
  ·have hj' : j < len := by simpa using hj
   obtain ⟨b, o, h1, h2⟩ := (hE j hj').1; exact ⟨b, o, h1, by simpa using h2⟩
  ·obtain ⟨j, hj, rfl⟩ := List.mem_map.1 hy
   exact (hE j (by simpa using hj)).2
theorem take1_some {cs : List Value} (q : Nat) {v : Value} (e : (cs.drop q).take 1 = [v]) : cs[q]? = some v := by
 have := congrArg (fun l => l[0]?) e
 simpa [List.getElem?_take, List.getElem?_drop] using this
theorem take_some {cs vs : List Value} (q m : Nat) (e : (cs.drop q).take m = vs) {j : Nat} (hj : j < m) : cs[q + j]? = vs[j]? := by
 rw [← e, List.getElem?_take, if_pos hj, List.getElem?_drop]
theorem open_input {fuel : Nat} {cs : List Value} {x : DataW H × List MemPlace} (h : DataW.trod enc Try.prog w 0 (fun _ => true) true fuel 48 cs = some x) :
  ∃ (g : List Int) (B : Option Addr) (gc : Nat) (n i k : Int), cs = [.slice B g.length gc, .int .i64 n, .int .i64 i, .int .i64 k] ∧ (g.length ≤ gc ∧ gc ≤ maxLen) ∧ numRow w g B ∧ (∀ y ∈ g, n64 y) ∧ n64 n ∧ n64 i ∧ n64 k ∧ g.length + 1 ≤ Rows.uptoBulk x.1 := by
 obtain ⟨hl, xs, n, hx, hxl, hf⟩ := open_st Try.underlying48 (hone_of (by kernel_rfl)) (by kernel_rfl) h
 match cs, xs, hl, hxl with
 | [c0, c1, c2, c3], [x0, x1, x2, x3], _, _ =>
  have h0 := hf 0 _ rfl; have h1 := hf 1 _ rfl; have h2 := hf 2 _ rfl; have h3 := hf 3 _ rfl; simp only [List.getD_cons_zero, List.getD_cons_succ, List.getElem?_cons_zero, List.getElem?_cons_succ] at h0 h1 h2 h3
  obtain ⟨g, B, gc, e0, r0⟩ := open_nums h0; obtain ⟨a1, e1, _, w1⟩ := DataW.trod_int (k := .i64) (by kernel_rfl) h1
  obtain ⟨a2, e2, _, w2⟩ := DataW.trod_int (k := .i64) (by kernel_rfl) h2
  obtain ⟨a3, e3, _, w3⟩ := DataW.trod_int (k := .i64) (by kernel_rfl) h3
  simp only [List.cons.injEq, and_true] at e0 e1 e2 e3
  subst e0 e1 e2 e3; refine ⟨g, B, gc, a1, a2, a3, rfl, r0.1, r0.2.1, r0.2.2.1, wf64 w1, wf64 w2, wf64 w3, ?_⟩
  have := r0.2.2.2
  rw [hx]; simp only [Rows.uptoBulk, Rows.uptoBulkAll, List.map_cons, List.map_nil]
  omega
theorem open_case {fuel : Nat} {cs : List Value} {x : DataW H × List MemPlace} (h : DataW.trod enc Try.prog w 0 (fun _ => true) true fuel 50 cs = some x) :
  ∃ (l : List Stmt) (A : Option Addr) (c : Nat) (L : Int) (g : List Int) (B : Option Addr) (gc : Nat) (n i k bd : Int), cs = [.slice A l.length c, .int .i64 L, .slice B g.length gc, .int .i64 n, .int .i64 i, .int .i64 k, .int .i64 bd] ∧
   (l.length ≤ c ∧ Stmt.rds w l A 0 ∧ Stmt.nodesL l + g.length ≤ Rows.uptoBulk x.1 ∧ Stmt.in64L l) ∧ (g.length ≤ gc ∧ gc ≤ maxLen) ∧ numRow w g B ∧ (∀ y ∈ g, n64 y) ∧ n64 n ∧ n64 i ∧ n64 k ∧ n64 L ∧ n64 bd := by
 obtain ⟨xs, n, hx0, hx, hl, hxl, hf⟩ := DataW.trod_struct Try.underlying50 h; rw [show Try.prog.cellsOf 50 = 7 by kernel_rfl] at hl
 have h0 : DataW.trod enc Try.prog w 0 (fun _ => true) true n 22 ((cs.drop 0).take (Try.prog.cellsOf 22)) = xs[0]? := hf 0 _ rfl
 have h1 : DataW.trod enc Try.prog w 0 (fun _ => true) true n 3 ((cs.drop 1).take (Try.prog.cellsOf 3)) = xs[1]? := hf 1 _ rfl
 have h2 : DataW.trod enc Try.prog w 0 (fun _ => true) true n 48 ((cs.drop 2).take (Try.prog.cellsOf 48)) = xs[2]? := hf 2 _ rfl
 have h3 : DataW.trod enc Try.prog w 0 (fun _ => true) true n 3 ((cs.drop 6).take (Try.prog.cellsOf 3)) = xs[3]? := hf 3 _ rfl
 match xs, hxl with
 | [x0, x1, x2, x3], _ =>
  simp only [List.getElem?_cons_zero, List.getElem?_cons_succ] at h0 h1 h2 h3
  rw [show Try.prog.cellsOf 22 = 1 by kernel_rfl] at h0
  rw [show Try.prog.cellsOf 3 = 1 by kernel_rfl] at h1 h3
  rw [show Try.prog.cellsOf 48 = 4 by kernel_rfl] at h2
  obtain ⟨l, A, c, e0, r0⟩ := open_stmts _ n _ _ h0 (Nat.le_refl _); obtain ⟨a1, e1, _, w1⟩ := DataW.trod_int (k := .i64) (by kernel_rfl) h1
  obtain ⟨g, B, gc, nn, i, k, e2, r2⟩ := open_input h2; obtain ⟨a3, e3, _, w3⟩ := DataW.trod_int (k := .i64) (by kernel_rfl) h3
  have hbk : Stmt.nodesL l + g.length ≤ Rows.uptoBulk x.1 := by
   have q0 := r0.2.2.1; have q2 := r2.2.2.2.2.2.2; rw [hx]; simp only [Rows.uptoBulk, Rows.uptoBulkAll, List.map_cons, List.map_nil]
   omega
  refine ⟨l, A, c, a1, g, B, gc, nn, i, k, a3, ?_, ⟨r0.1, r0.2.1, hbk, r0.2.2.2⟩, r2.1, r2.2.1, r2.2.2.1, r2.2.2.2.1, r2.2.2.2.2.1, r2.2.2.2.2.2.1, wf64 w1, wf64 w3⟩
  apply List.ext_getElem?
  intro j; by_cases hj : j < 2
  ·have : j = 0 ∨ j = 1 := by omega
   rcases this with rfl | rfl
   ·rw [take1_some 0 e0]; rfl
   ·rw [take1_some 1 e1]; rfl
  ·by_cases h6 : j < 6
   ·obtain ⟨q, rfl⟩ : ∃ q, j = 2 + q := ⟨j - 2, by omega⟩
    rw [take_some 2 4 e2 (by omega)]
    have : q = 0 ∨ q = 1 ∨ q = 2 ∨ q = 3 := by omega
    rcases this with rfl | rfl | rfl | rfl <;> rfl
   ·by_cases h7 : j < 7
    ·obtain rfl : j = 6 := by omega
     rw [take1_some 6 e3]; rfl
    ·rw [List.getElem?_eq_none (by omega), List.getElem?_eq_none (by simp; omega)]
/-- a struct given by value -/
theorem open_agg {P : Program} {t : TypeId} {fs : Array Field} (hs : P.underlying t = some (.struct fs)) {v : Value} {d : DataW H} {ps : List MemPlace} {r : Reach} {b0 : Nat} (hval : Value.okWide P w r b0 t v) (h : DataW.Trod enc P w 0 (fun _ => true) true t v d ps) :
  ∃ (cs : Array Value) (fuel : Nat), v = .agg cs ∧ DataW.trod enc P w 0 (fun _ => true) true fuel t cs.toList = some (d, ps) := by
 obtain ⟨fuel, h⟩ := h; obtain ⟨cs, rfl, _⟩ := okWide_struct hs hval; exact ⟨cs, fuel, rfl, by simpa [Value.cells] using h⟩
theorem all_stays {P : Program} (hl : laidOutB P = true) {W W' : World} {sp : Nat → Bool} : ∀ (ts : List TypeId) (vs : List Value) (ds : List (DataW H)) (ps : List MemPlace), ts.all (fun t => P.readableRec t && decide (t < P.types.size)) = true →
  DataW.TrodAll enc P W 0 (fun _ => true) true ts vs ds ps → (∀ p ∈ ps, W.sameAt W' p) → (∀ p ∈ ps, sp p.block = true) → DataW.TrodAll enc P W' 0 sp true ts vs ds ps
 | [], [], [], _, _, h, _, _ => h
 | t :: ts, v :: vs, d :: ds, _, hr, ⟨p, q, h1, h2, rfl⟩, hsame, hs => by
  simp only [List.all_cons, Bool.and_eq_true, decide_eq_true_eq] at hr
  exact ⟨p, q, WideElems.Trod_stays hl hr.1.1 hr.1.2 h1 (fun x hx => hsame x (List.mem_append_left _ hx)) (fun x hx => hs x (List.mem_append_left _ hx)),
   all_stays hl ts vs ds q hr.2 h2 (fun x hx => hsame x (List.mem_append_right _ hx)) (fun x hx => hs x (List.mem_append_right _ hx)), rfl⟩
 | [], _ :: _, _, _, _, h, _, _ => by simp [DataW.TrodAll] at h
 | [], [], _ :: _, _, _, h, _, _ => by simp [DataW.TrodAll] at h
 | _ :: _, [], _, _, _, h, _, _ => by simp [DataW.TrodAll] at h
 | _ :: _, _ :: _, [], _, _, h, _, _ => by simp [DataW.TrodAll] at h
/-- a call that gives true and keeps what was there meets the law's statement -/
theorem true_post {P : Program} {f : Func} {s : ChangeSpec} {apart fresh handsOn again : Bool} {W W' : World} {args : Array Value} {ds gs : List (DataW H)} {before : List MemPlace} (hlo : laidOutB P = true) (hty : f.params.toList.all (fun t => P.readableRec t && decide (t < P.types.size)) = true) (hvars : s.vars = [])
  (hfn : s.fn H (ds ++ gs) = { results := [.lit (.bool true)], args := ds }) {tb : TypeId} (hres : f.resultTypes = #[tb]) (hb : P.underlying tb = some .bool) (hW : DataW.Whole enc P f.params.toList s.vars apart W args.toList ds gs before) (hB : Below W.heap.size W W') : s.post enc P f apart fresh handsOn again W args (.bool true) W' := by
 have hlt : ∀ p ∈ before, p.block < W.heap.size := fun p hp => hW.lt p hp
 have hsame : ∀ p ∈ before, W.sameAt W' p := fun p hp => hB.same (hlt p hp)
 have hr1 : ∀ (b : Nat) (sp : Nat → Bool) (hd : Bool), DataW.TrodAll enc P W' b sp hd f.resultTypes.toList ((Value.bool true).resultList f.resultTypes.size) (s.fn H (ds ++ gs)).results [] := by
  intro b sp hd; rw [hres, hfn]; exact trodAll_cons_mk (shut_bool hb _) trodAll_mk0
 have hW' := hW; obtain ⟨p, q, hA, hV, rfl, hz, hn⟩ := hW; rw [hvars] at hV; obtain ⟨rfl, rfl⟩ := trodVars_none hV; have hpe : p ++ [] = p := List.append_nil p
 rw [hpe] at hlt hsame hW' hz hn; have ha : ∀ sp : Nat → Bool, (∀ x ∈ p, sp x.block = true) → DataW.TrodAll enc P W' 0 sp true f.params.toList args.toList (s.fn H (ds ++ [])).args p := by
  intro sp hsp; rw [hfn]; exact all_stays hlo _ _ _ _ hty hA hsame hsp
 have hvn : (s.fn H (ds ++ [])).vars = [] := by rw [hfn]
 have hv : ∀ sp : Nat → Bool, DataW.TrodVars enc P W' sp s.vars (s.fn H (ds ++ [])).vars [] := by
  intro sp; rw [hvars, hvn]; simp [DataW.TrodVars]
 refine ⟨ds, [], p, [], p, [], hW', hr1 _ _ _, ha _ (fun x hx => by simpa using hlt x hx), hv _, World.keptBut_mono (fun x hx => ⟨hx, .inr (.inl hx)⟩) (hB.frame (· ∈ p)), fun _ => ⟨?_, ?_⟩⟩
 ·exact ok_one hres rfl (okWide_bool_mk hb _)
 ·refine ⟨_, _, p, ⟨p, [], trodAll_append (ha _ (fun _ _ => rfl)) (hr1 _ _ _), hv _, by simp, ?_, hn⟩, fun x hx _ => hx⟩
  intro b off hx; rw [hB.frozen (hlt _ hx)]; exact hz b off hx
end
end Go.Proofs.Ytjlnpppjkdcpkaa.My
