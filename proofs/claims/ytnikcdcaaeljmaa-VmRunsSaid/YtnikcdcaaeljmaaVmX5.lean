/- The law VmRuns, walked: what instructions do on a memory, to their end. Conditions: the text and the numbers lie in memory; numbers of 64 bits. -/
import Derived.Test.YtnikcdcaaeljmaaVmRr
namespace Go.Proofs.Ytnikcdcaaeljmaa.My
open Go.RowKit Go.Proofs.Ytnikcdcaaeljmaa.NumA
set_option linter.unusedVariables false
set_option linter.unusedSimpArgs false
theorem e_at {w : World} {g : Nat} {t : TypeId} (h : w.heap[g]? = some (.cells #[.slice none 0 0, .slice none 0 0, .slice none 0 0, .int .i64 0, .int .i64 0, .int .i64 0] t (0, 0))) (v0 v1 v2 v3 v4 v5 : Value) : (w.setCells g 0 [v0, v1, v2, v3, v4, v5]).heap[g]? = some (.cells #[v0, v1, v2, v3, v4, v5] t (0, 0)) := by
  simp only [World.setCells]
  have h1 := (blk_set (blk_set (blk_set (blk_set (blk_set (blk_set h 0 v0) 1 v1) 2 v2) 3 v3) 4 v4) 5 v5)
  refine h1.trans ?_
  kernel_rfl
/-- what a run ends with: the effect, how, the value, the ticks -/
def effOf (l : List Ins) (cells fuel : Int) (g : List Int) (n i k : Int) : Eff × Int × Int × Int :=
  if newE l cells g.length fuel = 0 then ((runEnd l fuel g n i k).2, (runEnd l fuel g n i k).1.over, (runEnd l fuel g n i k).1.value, (runEnd l fuel g n i k).1.steps) else (⟨[], [], []⟩, 0, 0, 0)
theorem RunOK.says {w w' : World} {l : List Ins} {cells fuel : Int} {g : List Int} {n i k : Int} {E : Ending} (h : RunOK w l cells fuel g n i k E w') {e : Eff} {ov va st e0 : Int} (hx : effOf l cells fuel g n i k = (e, ov, va, st)) (he : newE l cells g.length fuel = e0) :
    Below w.heap.size w w' ∧ ∃ AM cM AO cO AI cI, E = .returned (.tuple #[.agg #[.slice AM e.mem.length cM, .slice AO e.outs.length cO, .slice AI e.intos.length cI, .int .i64 ov, .int .i64 va, .int .i64 st], .int .i64 e0]) ∧ Rows3 w' e (.slice AM e.mem.length cM) (.slice AO e.outs.length cO) (.slice AI e.intos.length cI) := by
  obtain ⟨hB, h⟩ := h
  refine ⟨hB, ?_⟩
  unfold effOf at hx
  by_cases hz : newE l cells g.length fuel = 0
  · rw [if_pos hz] at h hx
    simp only [Prod.mk.injEq] at hx
    obtain ⟨rfl, rfl, rfl, rfl⟩ := hx
    obtain ⟨M, O, I, rfl, h1, h2, h3⟩ := h
    obtain ⟨AM, cM, rfl, _⟩ := h1.slice
    obtain ⟨AO, cO, rfl, _⟩ := h2.slice
    obtain ⟨AI, cI, rfl, _⟩ := h3.slice
    exact ⟨AM, cM, AO, cO, AI, cI, by rw [← he, hz], ⟨h1, h2, h3⟩⟩
  · rw [if_neg hz] at h hx
    simp only [Prod.mk.injEq] at hx
    obtain ⟨rfl, rfl, rfl, rfl⟩ := hx
    exact ⟨none, 0, none, 0, none, 0, by rw [h, he]; rfl, ⟨Row.nil _ _ _, Row.nil _ _ _, Row.nil _ _ _⟩⟩
theorem Row.numbers {w : World} {l : List Int} {A : Option Addr} {c : Nat} (h : Row w 2 1 (.slice A l.length c) l.length (nums l)) : numRow w l A := fun j hj => by
  obtain ⟨b, e1, e2⟩ := h.cellA (nums_get hj)
  refine ⟨b, 0, e1, ?_⟩
  rw [Nat.zero_add, e2, List.getD, List.getElem?_eq_getElem hj]
  rfl
set_option maxRecDepth 100000 in
set_option maxHeartbeats 1000000 in
theorem numrow_same (w : World) (l : List Int) (A1 A2 : Option Addr) (c1 c2 : Nat) (hml : l.length ≤ 100000000) (h1 : numRow w l A1) (h2 : numRow w l A2) :
    Calls Try.prog 24 #[.slice A1 l.length c1, .slice A2 l.length c2] w fun e w' => e = .returned (.bool true) ∧ Below w.heap.size w w' := by
  have H1 := Lib.hid h1
  have H2 := Lib.hid h2
  clear h1 h2
  have hnn : ((l.length : Int) != (l.length : Int)) = false := by simp
  go_enter Try.func24, Try.ntmps24
  go_wp2
  go_loopw [5] (fun i wr => ∃ k : Nat, i = .int .i64 (k : Int) ∧ k ≤ l.length ∧ Hid (Below w.heap.size w wr)) (fun i _ => l.length - (intOf i).toNat)
  case atStart => exact ⟨0, rfl, Nat.zero_le _, Lib.hid (Below.refl _ _)⟩
  case round =>
    obtain ⟨k, rfl, hk, HB⟩ := hrel
    by_cases hlt : k < l.length
    · have hlt' : (k : Int) < (l.length : Int) := by omega
      have hk0 : (0 : Int) ≤ (k : Int) := by omega
      obtain ⟨g1, o1, e1, x1⟩ := H1.out k hlt
      obtain ⟨g2, o2, e2, x2⟩ := H2.out k hlt
      have y1 := HB.out.cellOf x1
      have y2 := HB.out.cellOf x2
      clear x1 x2
      subst e1; subst e2
      generalize hv : l[k] = v at y1 y2
      go_wp2
      go_quiet ((fail))
      go_wp2
      go_roundw
      case rel => exact ⟨k + 1, by go_num, by omega, Lib.hid (below_drewN HB.out _)⟩
      case measure => simp [intOf]; omega
    · have hk' : k = l.length := by omega
      subst hk'
      go_wp2
      go_ret
      exact ⟨rfl, HB.out⟩
set_option maxRecDepth 100000 in
set_option maxHeartbeats 4000000 in
theorem vmRuns_calls (l : List Ins) (A : Option Addr) (c : Nat) (cells fuel more : Int) (g : List Int) (B : Option Addr) (gc : Nat) (n i k : Int) (W : World) (hrd : insRow W l A) (hlm : l.length ≤ maxLen) (hin : ∀ y ∈ l, y.in64) (hg : numRow W g B) (hgl : g.length ≤ maxLen) (hgc : g.length ≤ gc) (hgi : ∀ y ∈ g, in64 y) (hn : in64 n) (hi : in64 i) (hk : in64 k) :
    Calls Try.prog 6 #[.agg #[.slice A l.length c, .int .i64 cells, .int .i64 fuel, .int .i64 more, .slice B g.length gc, .int .i64 n, .int .i64 i, .int .i64 k]] W fun e W' => e = .returned (.bool true) ∧ Below W.heap.size W W' := by
  unfold maxLen at hlm hgl
  have HRD := Lib.hid hrd
  have HG := Lib.hid hg
  have HN : Hid (∀ x ∈ l, b64 x.n) := Lib.hid hin
  have HGI : Hid (∀ v ∈ g, b64 v) := Lib.hid hgi
  have HR0 : Hid (reg64 (s0 n i k)) := Lib.hid (by
    intro v hv
    have h0 : b64 0 := ⟨by decide, by decide⟩
    simp only [s0, List.mem_cons, List.not_mem_nil, or_false] at hv
    rcases hv with rfl | rfl | rfl | hv
    · exact hn
    · exact hi
    · exact hk
    · have : v = 0 := by simp_all
      subst this; exact h0)
  have HB0 := Lib.hid (Below.al (Below.refl W.heap.size W) (o := (.cells #[.slice A l.length c, .int .i64 cells, .int .i64 fuel, .int .i64 more, .slice B g.length gc, .int .i64 n, .int .i64 i, .int .i64 k] 60)))
  have hbx := blk_new W (.cells #[.slice A l.length c, .int .i64 cells, .int .i64 fuel, .int .i64 more, .slice B g.length gc, .int .i64 n, .int .i64 i, .int .i64 k] 60)
  generalize hw0 : W.alloc (.cells #[.slice A l.length c, .int .i64 cells, .int .i64 fuel, .int .i64 more, .slice B g.length gc, .int .i64 n, .int .i64 i, .int .i64 k] 60) = w0 at HB0 hbx
  have HW0 := Lib.hid hw0
  have HX0 := Lib.hid hbx
  clear hrd hg hw0 hbx hin hgi hn hi hk
  by_cases hl : 1000 < l.length
  · have hl' : (l.length : Int) > 1000 := by omega
    go_enter Try.func6, Try.ntmps6
    go_wp2
    rw [HW0.out]
    have f0 : w0.cell? ⟨W.heap.size, 0, none⟩ = some (.slice A l.length c) := by rw [blk_cell HX0.out]; rfl
    have hn0 := World.new_ne w0 _ f0
    have f1 : w0.cell? ⟨W.heap.size, 1, none⟩ = some (.int .i64 cells) := by rw [blk_cell HX0.out]; rfl
    have hn1 := World.new_ne w0 _ f1
    have f2 : w0.cell? ⟨W.heap.size, 2, none⟩ = some (.int .i64 fuel) := by rw [blk_cell HX0.out]; rfl
    have hn2 := World.new_ne w0 _ f2
    have f4 : w0.cell? ⟨W.heap.size, 4, none⟩ = some (.slice B g.length gc) := by rw [blk_cell HX0.out]; rfl
    have hn4 := World.new_ne w0 _ f4
    have f5 : w0.cell? ⟨W.heap.size, 5, none⟩ = some (.int .i64 n) := by rw [blk_cell HX0.out]; rfl
    have hn5 := World.new_ne w0 _ f5
    have f6 : w0.cell? ⟨W.heap.size, 6, none⟩ = some (.int .i64 i) := by rw [blk_cell HX0.out]; rfl
    have hn6 := World.new_ne w0 _ f6
    have f7 : w0.cell? ⟨W.heap.size, 7, none⟩ = some (.int .i64 k) := by rw [blk_cell HX0.out]; rfl
    have hn7 := World.new_ne w0 _ f7
    go_region_held3 (fun V => V.cell? ⟨W.heap.size, 0, none⟩ = some (.slice A l.length c) ∧ V.cell? ⟨W.heap.size, 1, none⟩ = some (.int .i64 cells) ∧ V.cell? ⟨W.heap.size, 2, none⟩ = some (.int .i64 fuel) ∧ V.cell? ⟨W.heap.size, 4, none⟩ = some (.slice B g.length gc) ∧ V.cell? ⟨W.heap.size, 5, none⟩ = some (.int .i64 n) ∧ V.cell? ⟨W.heap.size, 6, none⟩ = some (.int .i64 i) ∧ V.cell? ⟨W.heap.size, 7, none⟩ = some (.int .i64 k)) (go_keep) (fail)
    clear f0 hn0 f1 hn1 f2 hn2 f4 hn4 f5 hn5 f6 hn6 f7 hn7
    have hb1 : Below w0.heap.size w0 (w0.alloc (.cells #[.slice B g.length gc, .int .i64 n, .int .i64 i, .int .i64 k] 58)).drew := ((Below.refl w0.heap.size w0).al).drew
    have hx1 : (w0.alloc (.cells #[.slice B g.length gc, .int .i64 n, .int .i64 i, .int .i64 k] 58)).drew.heap[w0.heap.size]? = some (.cells #[.slice B g.length gc, .int .i64 n, .int .i64 i, .int .i64 k] 58 (0, 0)) := blk_new w0 _
    generalize (w0.alloc (.cells #[.slice B g.length gc, .int .i64 n, .int .i64 i, .int .i64 k] 58)).drew = w1 at *
    have HW1 := Lib.hid (HB0.out.trans (hb1.mono HB0.out.size))
    have HX1 := Lib.hid hx1
    clear hb1 hx1
    have f0 := blk_cell HX1.out 0
    have f1 := blk_cell HX1.out 1
    have f2 := blk_cell HX1.out 2
    have f3 := blk_cell HX1.out 3
    go_wp2
    go_ret
    exact ⟨rfl, HW1.out⟩
  have hl' : ¬ ((l.length : Int) > 1000) := by omega
  by_cases hgg : 100 < g.length
  · have hg' : (g.length : Int) > 100 := by omega
    go_enter Try.func6, Try.ntmps6
    go_wp2
    rw [HW0.out]
    have f0 : w0.cell? ⟨W.heap.size, 0, none⟩ = some (.slice A l.length c) := by rw [blk_cell HX0.out]; rfl
    have hn0 := World.new_ne w0 _ f0
    have f1 : w0.cell? ⟨W.heap.size, 1, none⟩ = some (.int .i64 cells) := by rw [blk_cell HX0.out]; rfl
    have hn1 := World.new_ne w0 _ f1
    have f2 : w0.cell? ⟨W.heap.size, 2, none⟩ = some (.int .i64 fuel) := by rw [blk_cell HX0.out]; rfl
    have hn2 := World.new_ne w0 _ f2
    have f4 : w0.cell? ⟨W.heap.size, 4, none⟩ = some (.slice B g.length gc) := by rw [blk_cell HX0.out]; rfl
    have hn4 := World.new_ne w0 _ f4
    have f5 : w0.cell? ⟨W.heap.size, 5, none⟩ = some (.int .i64 n) := by rw [blk_cell HX0.out]; rfl
    have hn5 := World.new_ne w0 _ f5
    have f6 : w0.cell? ⟨W.heap.size, 6, none⟩ = some (.int .i64 i) := by rw [blk_cell HX0.out]; rfl
    have hn6 := World.new_ne w0 _ f6
    have f7 : w0.cell? ⟨W.heap.size, 7, none⟩ = some (.int .i64 k) := by rw [blk_cell HX0.out]; rfl
    have hn7 := World.new_ne w0 _ f7
    go_region_held3 (fun V => V.cell? ⟨W.heap.size, 0, none⟩ = some (.slice A l.length c) ∧ V.cell? ⟨W.heap.size, 1, none⟩ = some (.int .i64 cells) ∧ V.cell? ⟨W.heap.size, 2, none⟩ = some (.int .i64 fuel) ∧ V.cell? ⟨W.heap.size, 4, none⟩ = some (.slice B g.length gc) ∧ V.cell? ⟨W.heap.size, 5, none⟩ = some (.int .i64 n) ∧ V.cell? ⟨W.heap.size, 6, none⟩ = some (.int .i64 i) ∧ V.cell? ⟨W.heap.size, 7, none⟩ = some (.int .i64 k)) (go_keep) (fail)
    clear f0 hn0 f1 hn1 f2 hn2 f4 hn4 f5 hn5 f6 hn6 f7 hn7
    have hb1 : Below w0.heap.size w0 (w0.alloc (.cells #[.slice B g.length gc, .int .i64 n, .int .i64 i, .int .i64 k] 58)).drew := ((Below.refl w0.heap.size w0).al).drew
    have hx1 : (w0.alloc (.cells #[.slice B g.length gc, .int .i64 n, .int .i64 i, .int .i64 k] 58)).drew.heap[w0.heap.size]? = some (.cells #[.slice B g.length gc, .int .i64 n, .int .i64 i, .int .i64 k] 58 (0, 0)) := blk_new w0 _
    generalize (w0.alloc (.cells #[.slice B g.length gc, .int .i64 n, .int .i64 i, .int .i64 k] 58)).drew = w1 at *
    have HW1 := Lib.hid (HB0.out.trans (hb1.mono HB0.out.size))
    have HX1 := Lib.hid hx1
    clear hb1 hx1
    have f0 := blk_cell HX1.out 0
    have f1 := blk_cell HX1.out 1
    have f2 := blk_cell HX1.out 2
    have f3 := blk_cell HX1.out 3
    go_wp2
    go_ret
    exact ⟨rfl, HW1.out⟩
  have hg' : ¬ ((g.length : Int) > 100) := by omega
  have hlm : l.length ≤ 100000000 := by omega
  have hgm : g.length ≤ 100000000 := by omega
  obtain ⟨e0, he0⟩ : ∃ e0, newE l cells g.length fuel = e0 := ⟨_, rfl⟩
  obtain ⟨⟨e, ov, va, st⟩, hx⟩ : ∃ x, effOf l cells fuel g n i k = x := ⟨_, rfl⟩
  have HE0 := Lib.hid he0
  have HEF := Lib.hid hx
  clear he0 hx
  go_enter Try.func6, Try.ntmps6
  go_wp2
  rw [HW0.out]
  have f0 : w0.cell? ⟨W.heap.size, 0, none⟩ = some (.slice A l.length c) := by rw [blk_cell HX0.out]; rfl
  have hn0 := World.new_ne w0 _ f0
  have f1 : w0.cell? ⟨W.heap.size, 1, none⟩ = some (.int .i64 cells) := by rw [blk_cell HX0.out]; rfl
  have hn1 := World.new_ne w0 _ f1
  have f2 : w0.cell? ⟨W.heap.size, 2, none⟩ = some (.int .i64 fuel) := by rw [blk_cell HX0.out]; rfl
  have hn2 := World.new_ne w0 _ f2
  have f4 : w0.cell? ⟨W.heap.size, 4, none⟩ = some (.slice B g.length gc) := by rw [blk_cell HX0.out]; rfl
  have hn4 := World.new_ne w0 _ f4
  have f5 : w0.cell? ⟨W.heap.size, 5, none⟩ = some (.int .i64 n) := by rw [blk_cell HX0.out]; rfl
  have hn5 := World.new_ne w0 _ f5
  have f6 : w0.cell? ⟨W.heap.size, 6, none⟩ = some (.int .i64 i) := by rw [blk_cell HX0.out]; rfl
  have hn6 := World.new_ne w0 _ f6
  have f7 : w0.cell? ⟨W.heap.size, 7, none⟩ = some (.int .i64 k) := by rw [blk_cell HX0.out]; rfl
  have hn7 := World.new_ne w0 _ f7
  go_region_held3 (fun V => V.cell? ⟨W.heap.size, 0, none⟩ = some (.slice A l.length c) ∧ V.cell? ⟨W.heap.size, 1, none⟩ = some (.int .i64 cells) ∧ V.cell? ⟨W.heap.size, 2, none⟩ = some (.int .i64 fuel) ∧ V.cell? ⟨W.heap.size, 4, none⟩ = some (.slice B g.length gc) ∧ V.cell? ⟨W.heap.size, 5, none⟩ = some (.int .i64 n) ∧ V.cell? ⟨W.heap.size, 6, none⟩ = some (.int .i64 i) ∧ V.cell? ⟨W.heap.size, 7, none⟩ = some (.int .i64 k)) (go_keep) (fail)
  clear f0 hn0 f1 hn1 f2 hn2 f4 hn4 f5 hn5 f6 hn6 f7 hn7
  have hb1 : Below w0.heap.size w0 (w0.alloc (.cells #[.slice B g.length gc, .int .i64 n, .int .i64 i, .int .i64 k] 58)).drew := ((Below.refl w0.heap.size w0).al).drew
  have hx1 : (w0.alloc (.cells #[.slice B g.length gc, .int .i64 n, .int .i64 i, .int .i64 k] 58)).drew.heap[w0.heap.size]? = some (.cells #[.slice B g.length gc, .int .i64 n, .int .i64 i, .int .i64 k] 58 (0, 0)) := blk_new w0 _
  generalize (w0.alloc (.cells #[.slice B g.length gc, .int .i64 n, .int .i64 i, .int .i64 k] 58)).drew = w1 at *
  have HW1 := Lib.hid (HB0.out.trans (hb1.mono HB0.out.size))
  have HX1 := Lib.hid hx1
  clear hb1 hx1
  have f0 := blk_cell HX1.out 0
  have f1 := blk_cell HX1.out 1
  have f2 := blk_cell HX1.out 2
  have f3 := blk_cell HX1.out 3
  have hb3 : Below w1.heap.size w1 ((w1.alloc (.cells #[.slice B g.length gc, .int .i64 n, .int .i64 i, .int .i64 k] 58)).alloc (.cells #[] 2)) := ((Below.refl _ _).al).al
  have hx3 := blk_alloc (blk_new w1 (.cells #[.slice B g.length gc, .int .i64 n, .int .i64 i, .int .i64 k] 58)) (.cells #[] 2)
  have he3 := blk_new (w1.alloc (.cells #[.slice B g.length gc, .int .i64 n, .int .i64 i, .int .i64 k] 58)) (.cells #[] 2)
  rw [size_al] at he3
  have t0 : ((w1.alloc (.cells #[.slice B g.length gc, .int .i64 n, .int .i64 i, .int .i64 k] 58)).alloc (.cells #[] 2)).cell? ⟨w0.heap.size, 0, none⟩ = some (.slice B g.length gc) := hb3.cellOf (blk_cell HX1.out 0)
  obtain ⟨w3, hw3⟩ : ∃ w3, ((w1.alloc (.cells #[.slice B g.length gc, .int .i64 n, .int .i64 i, .int .i64 k] 58)).alloc (.cells #[] 2)) = w3 := ⟨_, rfl⟩
  have hsz3 : w3.heap.size = w1.heap.size + 1 + 1 := by rw [← hw3, size_al, size_al]
  rw [hw3] at hb3 hx3 he3
  have HWT := Lib.hid hw3
  have HB3 := Lib.hid hb3
  have HX3 := Lib.hid hx3
  have HRE : Hid (Row w3 2 1 (.slice (some ⟨w1.heap.size + 1, 0, none⟩) 0 0) 0 []) := Lib.hid ⟨rfl, .inr ⟨_, 0, #[], rfl, he3, Nat.le_refl _, Nat.zero_le _, by simp, rfl⟩⟩
  have HG3 := Lib.hid (HG.out.keep (HW1.out.trans (hb3.mono HW1.out.size)))
  have HSZ := Lib.hid hsz3
  clear hw3 hb3 hx3 he3 hsz3
  go_wp2_with (first | (have tk := HW4; clear tk; rw [HW4.out]; clear HW4 fb ff; have p0 := blk_cell HX4.out 0; have p1 := blk_cell HX4.out 1; have p2 := blk_cell HX4.out 2; have p3 := blk_cell HX4.out 3) | (have tk := HWT; clear tk; rw [HWT.out]; refine wpList_append_nums (by rfl) _ _ (by rfl) g B gc HG3.out hgm (w1.heap.size + 1) HRE.out (by rfl) (by rfl) ?_; intro v' w' hr' hg' hn'; obtain ⟨A', c', hv', hc'⟩ := hr'.slice; subst hv'; have hbb := grown_blk hg' HX3.out (by simp); have fb : w'.cell? ⟨w1.heap.size, 0, none⟩ = some (.slice B g.length gc) := blk_cell hbb 0; have ff := blk_free hbb; have hk4 : Keep (fun q => w1.heap.size ≤ q) w1 (w'.setCell ⟨w1.heap.size, 0, none⟩ (.slice A' g.length c')) := Keep.set (O := fun q => w1.heap.size ≤ q) (Keep.grown (Keep.below (Keep.refl _ w1) HB3.out) hg' (fun q hq => .inr (by have := Option.some.inj hq; omega))) (p := ⟨w1.heap.size, 0, none⟩) (.inl (Nat.le_refl _)) _; have hx4 := blk_set hbb 0 (.slice A' g.length c'); have hr4 := hr'.far (b := w1.heap.size) (i := 0) (u := .slice A' g.length c') (fun _ _ => rfl) (hr'.ne hbb (by decide)); obtain ⟨w4, hw4⟩ : ∃ w4, w'.setCell ⟨w1.heap.size, 0, none⟩ (.slice A' g.length c') = w4 := ⟨_, rfl⟩; rw [hw4] at hk4 hx4 hr4; have HW4 := Lib.hid hw4; have HK4 := Lib.hid (hk4.toBelow (Nat.le_refl _) (fun q hq => hq)); have HX4 : Hid (w4.heap[w1.heap.size]? = some (.cells #[.slice A' g.length c', .int .i64 n, .int .i64 i, .int .i64 k] 58 (0, 0))) := Lib.hid hx4; have HM4 := Lib.hid (hr4.numbers); clear hr' hg' hn' hbb hk4 hx4 hr4 hw4 t0 HWT HRE HG3))
  have HB4 := Lib.hid (HW1.out.trans (HK4.out.mono HW1.out.size))
  have HY4 := Lib.hid (below_blk HK4.out HX1.out (blk_lt HX1.out))
  refine (vmRun_calls w4 l A c cells fuel g A' c' n i k (HRD.out.keep HB4.out) hlm HM4.out hgm w4 (Below.refl _ _)).mono ?_
  intro y w5 hd
  obtain ⟨hb, AM1, cM1, AO1, cO1, AI1, cI1, rfl, hs⟩ := hd.says HEF.out HE0.out
  have HB5 := Lib.hid (HB4.out.trans (hb.mono HB4.out.size))
  have HX5 := Lib.hid (below_blk hb HX4.out (blk_lt HX4.out))
  have HY5 := Lib.hid (below_blk hb HY4.out (blk_lt HY4.out))
  have HM5 := Lib.hid (HM4.out.keep hb)
  have HS5 := Lib.hid hs
  clear hd hb hs f0 f1 f2 f3 p0 p1 p2 p3 hc'
  go_wp2_with (refine wpList_store_mid (by rfl) 63 _ _ (by rfl) w5.heap.size 0 #[.slice AM1 e.mem.length cM1, .slice AO1 e.outs.length cO1, .slice AI1 e.intos.length cI1, .int .i64 ov, .int .i64 va, .int .i64 st] (by rfl) (by rfl) (there_new 6 (by decide)) (by kernel_rfl) (by simp [Value.oneCell']) ?_; have hx := e_at (blk_new w5 (.cells #[.slice none 0 0, .slice none 0 0, .slice none 0 0, .int .i64 0, .int .i64 0, .int .i64 0] 63)) (.slice AM1 e.mem.length cM1) (.slice AO1 e.outs.length cO1) (.slice AI1 e.intos.length cI1) (.int .i64 ov) (.int .i64 va) (.int .i64 st); have hb : Below w5.heap.size w5 ((w5.alloc (.cells #[.slice none 0 0, .slice none 0 0, .slice none 0 0, .int .i64 0, .int .i64 0, .int .i64 0] 63)).setCells w5.heap.size 0 [.slice AM1 e.mem.length cM1, .slice AO1 e.outs.length cO1, .slice AI1 e.intos.length cI1, .int .i64 ov, .int .i64 va, .int .i64 st]) := below_sets (Nat.le_refl _) _ 0 ((Below.refl _ _).al); have hw : (w5.alloc (.cells #[.slice none 0 0, .slice none 0 0, .slice none 0 0, .int .i64 0, .int .i64 0, .int .i64 0] 63)).setCells w5.heap.size 0 [.slice AM1 e.mem.length cM1, .slice AO1 e.outs.length cO1, .slice AI1 e.intos.length cI1, .int .i64 ov, .int .i64 va, .int .i64 st] = (w5.alloc (.cells #[.slice none 0 0, .slice none 0 0, .slice none 0 0, .int .i64 0, .int .i64 0, .int .i64 0] 63)).setCells w5.heap.size 0 (#[.slice AM1 e.mem.length cM1, .slice AO1 e.outs.length cO1, .slice AI1 e.intos.length cI1, .int .i64 ov, .int .i64 va, .int .i64 st]).toList := rfl; rw [hw] at hx hb; clear hw; generalize (w5.alloc (.cells #[.slice none 0 0, .slice none 0 0, .slice none 0 0, .int .i64 0, .int .i64 0, .int .i64 0] 63)).setCells w5.heap.size 0 (#[.slice AM1 e.mem.length cM1, .slice AO1 e.outs.length cO1, .slice AI1 e.intos.length cI1, .int .i64 ov, .int .i64 va, .int .i64 st]).toList = w6 at *; have HA6 := Lib.hid hx; have HB6 := Lib.hid (HB5.out.trans (hb.mono HB5.out.size)); have HX6 := Lib.hid (below_blk hb HX5.out (blk_lt HX5.out)); have HY6 := Lib.hid (below_blk hb HY5.out (blk_lt HY5.out)); have HM6 := Lib.hid (HM5.out.keep hb); have HS6 := Lib.hid (HS5.out.below hb); clear hx hb; have f0 := blk_cell HY6.out 0; have f1 := blk_cell HY6.out 1; have f2 := blk_cell HY6.out 2; have f3 := blk_cell HY6.out 3)
  refine (refRun_calls W l A c cells fuel g B gc n i k HRD.out hlm HG.out hgm HN.out HR0.out HGI.out w6 HB6.out).mono ?_
  intro y w7 hd
  obtain ⟨hb, AM2, cM2, AO2, cO2, AI2, cI2, rfl, hs⟩ := hd.says HEF.out HE0.out
  have HB7 := Lib.hid (HB6.out.trans (hb.mono HB6.out.size))
  have HX7 := Lib.hid (below_blk hb HX6.out (blk_lt HX6.out))
  have HY7 := Lib.hid (below_blk hb HY6.out (blk_lt HY6.out))
  have HA7 := Lib.hid (below_blk hb HA6.out (blk_lt HA6.out))
  have HM7 := Lib.hid (HM6.out.keep hb)
  have HR7 := Lib.hid (HS6.out.below hb)
  have HS7 := Lib.hid hs
  clear hd hb hs f0 f1 f2 f3
  go_wp2_with (refine wpList_store_mid (by rfl) 63 _ _ (by rfl) w7.heap.size 0 #[.slice AM2 e.mem.length cM2, .slice AO2 e.outs.length cO2, .slice AI2 e.intos.length cI2, .int .i64 ov, .int .i64 va, .int .i64 st] (by rfl) (by rfl) (there_new 6 (by decide)) (by kernel_rfl) (by simp [Value.oneCell']) ?_; have hx := e_at (blk_new w7 (.cells #[.slice none 0 0, .slice none 0 0, .slice none 0 0, .int .i64 0, .int .i64 0, .int .i64 0] 63)) (.slice AM2 e.mem.length cM2) (.slice AO2 e.outs.length cO2) (.slice AI2 e.intos.length cI2) (.int .i64 ov) (.int .i64 va) (.int .i64 st); have hb : Below w7.heap.size w7 ((w7.alloc (.cells #[.slice none 0 0, .slice none 0 0, .slice none 0 0, .int .i64 0, .int .i64 0, .int .i64 0] 63)).setCells w7.heap.size 0 [.slice AM2 e.mem.length cM2, .slice AO2 e.outs.length cO2, .slice AI2 e.intos.length cI2, .int .i64 ov, .int .i64 va, .int .i64 st]) := below_sets (Nat.le_refl _) _ 0 ((Below.refl _ _).al); have hw : (w7.alloc (.cells #[.slice none 0 0, .slice none 0 0, .slice none 0 0, .int .i64 0, .int .i64 0, .int .i64 0] 63)).setCells w7.heap.size 0 [.slice AM2 e.mem.length cM2, .slice AO2 e.outs.length cO2, .slice AI2 e.intos.length cI2, .int .i64 ov, .int .i64 va, .int .i64 st] = (w7.alloc (.cells #[.slice none 0 0, .slice none 0 0, .slice none 0 0, .int .i64 0, .int .i64 0, .int .i64 0] 63)).setCells w7.heap.size 0 (#[.slice AM2 e.mem.length cM2, .slice AO2 e.outs.length cO2, .slice AI2 e.intos.length cI2, .int .i64 ov, .int .i64 va, .int .i64 st]).toList := rfl; rw [hw] at hx hb; clear hw; generalize (w7.alloc (.cells #[.slice none 0 0, .slice none 0 0, .slice none 0 0, .int .i64 0, .int .i64 0, .int .i64 0] 63)).setCells w7.heap.size 0 (#[.slice AM2 e.mem.length cM2, .slice AO2 e.outs.length cO2, .slice AI2 e.intos.length cI2, .int .i64 ov, .int .i64 va, .int .i64 st]).toList = w8 at *; have HZ8 := Lib.hid hx; have HB8 := Lib.hid (HB7.out.trans (hb.mono HB7.out.size)); have HX8 := Lib.hid (below_blk hb HX7.out (blk_lt HX7.out)); have HY8 := Lib.hid (below_blk hb HY7.out (blk_lt HY7.out)); have HA8 := Lib.hid (below_blk hb HA7.out (blk_lt HA7.out)); have HM8 := Lib.hid (HM7.out.keep hb); have HR8 := Lib.hid (HR7.out.below hb); have HS8 := Lib.hid (HS7.out.below hb); clear hx hb; have p0 := blk_cell HA8.out 0; have q0 := blk_cell HZ8.out 0; have p1 := blk_cell HA8.out 1; have q1 := blk_cell HZ8.out 1; have p2 := blk_cell HA8.out 2; have q2 := blk_cell HZ8.out 2; have p3 := blk_cell HA8.out 3; have q3 := blk_cell HZ8.out 3; have p4 := blk_cell HA8.out 4; have q4 := blk_cell HZ8.out 4; have p5 := blk_cell HA8.out 5; have q5 := blk_cell HZ8.out 5)
  refine (same_calls w8 e _ _ _ _ _ _ ov va st HR8.out HS8.out).mono ?_
  rintro y w9 ⟨rfl, hb⟩
  have HB9 := Lib.hid (HB8.out.trans (hb.mono HB8.out.size))
  have HM9 := Lib.hid (HM8.out.keep hb)
  have HX9 := Lib.hid (below_blk hb HX8.out (blk_lt HX8.out))
  have HY9 := Lib.hid (below_blk hb HY8.out (blk_lt HY8.out))
  clear hb p0 p1 p2 p3 p4 p5 q0 q1 q2 q3 q4 q5
  have f0 := blk_cell HY9.out 0
  have p0 := blk_cell HX9.out 0
  go_wp2_with fail
  refine (numrow_same w9 g A' B c' gc hgm HM9.out (HG.out.keep HB9.out)).mono ?_
  rintro y wa ⟨rfl, hb⟩
  have HBa := Lib.hid (HB9.out.trans (hb.mono HB9.out.size))
  clear hb f0 p0
  go_wp2_with fail
  refine (alive_calls wa).mono ?_
  rintro y wb ⟨rfl, hb⟩
  have HBb := Lib.hid (HBa.out.trans (hb.mono HBa.out.size))
  clear hb
  go_wp2
  go_ret
  exact ⟨rfl, HBb.out⟩
end Go.Proofs.Ytnikcdcaaeljmaa.My
