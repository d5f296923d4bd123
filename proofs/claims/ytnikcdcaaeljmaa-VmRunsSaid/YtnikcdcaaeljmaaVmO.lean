/- The reading of the arguments of the laws of machines: a case, a state, a play. -/
import Derived.Test.YtnikcdcaaeljmaaOpen
import Derived.Test.YtnikcdcaaeljmaaVmMach
namespace Go.Proofs.Ytnikcdcaaeljmaa.My
open Go.ChangeShapes Go.WideShapes Go.ChangeAt Go.RowKit Go.Deep
section
variable {H : Type} {enc : TypeId × Value → H} {w : World}
theorem open_case {fuel : Nat} {cs : List Value} {x : DataW H × List MemPlace} (h : DataW.trod enc Try.prog w 0 (fun _ => true) true fuel 24 cs = some x) :
    ∃ (l : List Ins) (A : Option Addr) (c : Nat) (cells words fu n i k : Int), cs = [.slice A l.length c, .int .i64 cells, .int .i64 words, .int .i64 fu, .int .i64 n, .int .i64 i, .int .i64 k] ∧ l.length ≤ c ∧ c ≤ maxLen ∧ insRow w l A ∧ (∀ y ∈ l, y.in64) ∧ in64 n ∧ in64 i ∧ in64 k := by
  obtain ⟨hl, xs, n, hx, hxl, hf⟩ := open_st Try.underlying24 (hone_of (by kernel_rfl)) (by kernel_rfl) h
  match cs, xs, hl, hxl with
  | [c0, c1, c2, c3, c4, c5, c6], [x0, x1, x2, x3, x4, x5, x6], _, _ =>
    have h0 := hf 0 _ rfl
    have h1 := hf 1 _ rfl
    have h2 := hf 2 _ rfl
    have h3 := hf 3 _ rfl
    have h4 := hf 4 _ rfl
    have h5 := hf 5 _ rfl
    have h6 := hf 6 _ rfl
    simp only [List.getD_cons_zero, List.getD_cons_succ, List.getElem?_cons_zero, List.getElem?_cons_succ] at h0 h1 h2 h3 h4 h5 h6
    obtain ⟨l, A, c, e0, r0⟩ := open_inss h0
    obtain ⟨a1, e1, _, _⟩ := DataW.trod_int (k := .i64) (by kernel_rfl) h1
    obtain ⟨a2, e2, _, _⟩ := DataW.trod_int (k := .i64) (by kernel_rfl) h2
    obtain ⟨a3, e3, _, _⟩ := DataW.trod_int (k := .i64) (by kernel_rfl) h3
    obtain ⟨a4, e4, _, w4⟩ := DataW.trod_int (k := .i64) (by kernel_rfl) h4
    obtain ⟨a5, e5, _, w5⟩ := DataW.trod_int (k := .i64) (by kernel_rfl) h5
    obtain ⟨a6, e6, _, w6⟩ := DataW.trod_int (k := .i64) (by kernel_rfl) h6
    simp only [List.cons.injEq, and_true] at e0 e1 e2 e3 e4 e5 e6
    subst e0 e1 e2 e3 e4 e5 e6
    exact ⟨l, A, c, a1, a2, a3, a4, a5, a6, rfl, r0.1, r0.2.1, r0.2.2.1, r0.2.2.2, wf64 w4, wf64 w5, wf64 w6⟩
theorem take1_some {cs : List Value} (q : Nat) {v : Value} (e : (cs.drop q).take 1 = [v]) : cs[q]? = some v := by
  have := congrArg (fun l => l[0]?) e
  simpa [List.getElem?_take, List.getElem?_drop] using this
theorem take_some {cs vs : List Value} (q m : Nat) (e : (cs.drop q).take m = vs) {j : Nat} (hj : j < m) : cs[q + j]? = vs[j]? := by
  rw [← e, List.getElem?_take, if_pos hj, List.getElem?_drop]
/-- an input: a memory and three numbers -/
theorem open_input {fuel : Nat} {cs : List Value} {x : DataW H × List MemPlace} (h : DataW.trod enc Try.prog w 0 (fun _ => true) true fuel 58 cs = some x) :
    ∃ (g : List Int) (B : Option Addr) (gc : Nat) (n i k : Int), cs = [.slice B g.length gc, .int .i64 n, .int .i64 i, .int .i64 k] ∧ g.length ≤ gc ∧ gc ≤ maxLen ∧ numRow w g B ∧ (∀ y ∈ g, in64 y) ∧ in64 n ∧ in64 i ∧ in64 k := by
  obtain ⟨hl, xs, n, hx, hxl, hf⟩ := open_st Try.underlying58 (hone_of (by kernel_rfl)) (by kernel_rfl) h
  match cs, xs, hl, hxl with
  | [c0, c1, c2, c3], [x0, x1, x2, x3], _, _ =>
    have h0 := hf 0 _ rfl
    have h1 := hf 1 _ rfl
    have h2 := hf 2 _ rfl
    have h3 := hf 3 _ rfl
    simp only [List.getD_cons_zero, List.getD_cons_succ, List.getElem?_cons_zero, List.getElem?_cons_succ] at h0 h1 h2 h3
    obtain ⟨g, B, gc, e0, r0⟩ := open_nums h0
    obtain ⟨a1, e1, _, w1⟩ := DataW.trod_int (k := .i64) (by kernel_rfl) h1
    obtain ⟨a2, e2, _, w2⟩ := DataW.trod_int (k := .i64) (by kernel_rfl) h2
    obtain ⟨a3, e3, _, w3⟩ := DataW.trod_int (k := .i64) (by kernel_rfl) h3
    simp only [List.cons.injEq, and_true] at e0 e1 e2 e3
    subst e0 e1 e2 e3
    exact ⟨g, B, gc, a1, a2, a3, rfl, r0.1, r0.2.1, r0.2.2.1, r0.2.2.2, wf64 w1, wf64 w2, wf64 w3⟩
theorem open_run {fuel : Nat} {cs : List Value} {x : DataW H × List MemPlace} (h : DataW.trod enc Try.prog w 0 (fun _ => true) true fuel 60 cs = some x) :
    ∃ (l : List Ins) (A : Option Addr) (c : Nat) (cells fu more : Int) (g : List Int) (B : Option Addr) (gc : Nat) (n i k : Int), cs = [.slice A l.length c, .int .i64 cells, .int .i64 fu, .int .i64 more, .slice B g.length gc, .int .i64 n, .int .i64 i, .int .i64 k] ∧
      l.length ≤ c ∧ c ≤ maxLen ∧ insRow w l A ∧ (∀ y ∈ l, y.in64) ∧ g.length ≤ gc ∧ gc ≤ maxLen ∧ numRow w g B ∧ (∀ y ∈ g, in64 y) ∧ in64 n ∧ in64 i ∧ in64 k := by
  obtain ⟨xs, n, _, hx, hl, hxl, hf⟩ := DataW.trod_struct Try.underlying60 h
  rw [show Try.prog.cellsOf 60 = 8 by kernel_rfl] at hl
  have h0 : DataW.trod enc Try.prog w 0 (fun _ => true) true n 22 ((cs.drop 0).take (Try.prog.cellsOf 22)) = xs[0]? := hf 0 _ rfl
  have h1 : DataW.trod enc Try.prog w 0 (fun _ => true) true n 3 ((cs.drop 1).take (Try.prog.cellsOf 3)) = xs[1]? := hf 1 _ rfl
  have h2 : DataW.trod enc Try.prog w 0 (fun _ => true) true n 3 ((cs.drop 2).take (Try.prog.cellsOf 3)) = xs[2]? := hf 2 _ rfl
  have h3 : DataW.trod enc Try.prog w 0 (fun _ => true) true n 3 ((cs.drop 3).take (Try.prog.cellsOf 3)) = xs[3]? := hf 3 _ rfl
  have h4 : DataW.trod enc Try.prog w 0 (fun _ => true) true n 58 ((cs.drop 4).take (Try.prog.cellsOf 58)) = xs[4]? := hf 4 _ rfl
  match xs, hxl with
  | [x0, x1, x2, x3, x4], _ =>
    simp only [List.getElem?_cons_zero, List.getElem?_cons_succ] at h0 h1 h2 h3 h4
    rw [show Try.prog.cellsOf 22 = 1 by kernel_rfl] at h0
    rw [show Try.prog.cellsOf 3 = 1 by kernel_rfl] at h1 h2 h3
    rw [show Try.prog.cellsOf 58 = 4 by kernel_rfl] at h4
    obtain ⟨l, A, c, e0, r0⟩ := open_inss h0
    obtain ⟨a1, e1, _, _⟩ := DataW.trod_int (k := .i64) (by kernel_rfl) h1
    obtain ⟨a2, e2, _, _⟩ := DataW.trod_int (k := .i64) (by kernel_rfl) h2
    obtain ⟨a3, e3, _, _⟩ := DataW.trod_int (k := .i64) (by kernel_rfl) h3
    obtain ⟨g, B, gc, nn, i, k, e4, r⟩ := open_input h4
    refine ⟨l, A, c, a1, a2, a3, g, B, gc, nn, i, k, ?_, r0.1, r0.2.1, r0.2.2.1, r0.2.2.2, r⟩
    apply List.ext_getElem?
    intro j
    by_cases hj : j < 4
    · have : j = 0 ∨ j = 1 ∨ j = 2 ∨ j = 3 := by omega
      rcases this with rfl | rfl | rfl | rfl
      · rw [take1_some 0 e0]; rfl
      · rw [take1_some 1 e1]; rfl
      · rw [take1_some 2 e2]; rfl
      · rw [take1_some 3 e3]; rfl
    · by_cases h8 : j < 8
      · obtain ⟨q, rfl⟩ : ∃ q, j = 4 + q := ⟨j - 4, by omega⟩
        rw [take_some 4 4 e4 (by omega)]
        have : q = 0 ∨ q = 1 ∨ q = 2 ∨ q = 3 := by omega
        rcases this with rfl | rfl | rfl | rfl <;> rfl
      · rw [List.getElem?_eq_none (by omega), List.getElem?_eq_none (by simp; omega)]
/-- a struct given by value -/
theorem open_agg {P : Program} {t : TypeId} {fs : Array Field} (hs : P.underlying t = some (.struct fs)) {v : Value} {d : DataW H} {ps : List MemPlace} {r : Reach} {b0 : Nat} (hval : Value.okWide P w r b0 t v) (h : DataW.Trod enc P w 0 (fun _ => true) true t v d ps) :
    ∃ (cs : Array Value) (fuel : Nat), v = .agg cs ∧ DataW.trod enc P w 0 (fun _ => true) true fuel t cs.toList = some (d, ps) := by
  obtain ⟨fuel, h⟩ := h
  obtain ⟨cs, rfl, _⟩ := okWide_struct hs hval
  exact ⟨cs, fuel, rfl, by simpa [Value.cells] using h⟩
end
end Go.Proofs.Ytnikcdcaaeljmaa.My
