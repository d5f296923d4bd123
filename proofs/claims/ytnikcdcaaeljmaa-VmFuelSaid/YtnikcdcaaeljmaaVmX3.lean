/- The law VmFuel, walked: more fuel changes nothing where the fuel was enough. Conditions: the text and the numbers lie in memory. -/
import Derived.Test.YtnikcdcaaeljmaaVmS
import Derived.Test.YtnikcdcaaeljmaaVmF
namespace Go.Proofs.Ytnikcdcaaeljmaa.My
open Go.RowKit Go.Proofs.Ytnikcdcaaeljmaa.NumA
set_option linter.unusedVariables false
set_option linter.unusedSimpArgs false
/-- what a run says, its cells by letter -/
def RunSaid (w : World) (l : List Ins) (cells fuel : Int) (g : List Int) (n i k : Int) (E : Ending) (w' : World) : Prop :=
  ∃ AM nM cM AO nO cO AI nI cI ov va st, E = .returned (.tuple #[.agg #[.slice AM nM cM, .slice AO nO cO, .slice AI nI cI, .int .i64 ov, .int .i64 va, .int .i64 st], .int .i64 (newE l cells g.length fuel)]) ∧ Below w.heap.size w w' ∧
    (newE l cells g.length fuel = 0 → Rows3 w' (runEnd l fuel g n i k).2 (.slice AM nM cM) (.slice AO nO cO) (.slice AI nI cI) ∧ ov = (runEnd l fuel g n i k).1.over ∧ va = (runEnd l fuel g n i k).1.value ∧ st = (runEnd l fuel g n i k).1.steps)
theorem RunOK.said {w w' : World} {l : List Ins} {cells fuel : Int} {g : List Int} {n i k : Int} {E : Ending} (h : RunOK w l cells fuel g n i k E w') : RunSaid w l cells fuel g n i k E w' := by
  obtain ⟨hB, h⟩ := h
  split at h
  · rename_i hz
    obtain ⟨M, O, I, rfl, h1, h2, h3⟩ := h
    obtain ⟨AM, cM, rfl, _⟩ := h1.slice
    obtain ⟨AO, cO, rfl, _⟩ := h2.slice
    obtain ⟨AI, cI, rfl, _⟩ := h3.slice
    exact ⟨_, _, _, _, _, _, _, _, _, _, _, _, by rw [hz], hB, fun _ => ⟨⟨h1, h2, h3⟩, rfl, rfl, rfl⟩⟩
  · rename_i hz
    exact ⟨none, 0, 0, none, 0, 0, none, 0, 0, 0, 0, 0, h, hB, fun e => absurd e hz⟩
theorem e_at {w : World} {g : Nat} {t : TypeId} (h : w.heap[g]? = some (.cells #[.slice none 0 0, .slice none 0 0, .slice none 0 0, .int .i64 0, .int .i64 0, .int .i64 0] t (0, 0))) (v0 v1 v2 v3 v4 v5 : Value) : (w.setCells g 0 [v0, v1, v2, v3, v4, v5]).heap[g]? = some (.cells #[v0, v1, v2, v3, v4, v5] t (0, 0)) := by
  simp only [World.setCells]
  have h1 := (blk_set (blk_set (blk_set (blk_set (blk_set (blk_set h 0 v0) 1 v1) 2 v2) 3 v3) 4 v4) 5 v5)
  refine h1.trans ?_
  kernel_rfl
set_option maxRecDepth 100000 in
set_option maxHeartbeats 4000000 in
theorem vmFuel_calls (l : List Ins) (A : Option Addr) (c : Nat) (cells fuel more : Int) (g : List Int) (B : Option Addr) (gc : Nat) (n i k : Int) (W : World) (hrd : insRow W l A) (hlm : l.length ≤ maxLen) (hg : numRow W g B) (hgl : g.length ≤ maxLen) (hgc : g.length ≤ gc) :
    Calls Try.prog 7 #[.agg #[.slice A l.length c, .int .i64 cells, .int .i64 fuel, .int .i64 more, .slice B g.length gc, .int .i64 n, .int .i64 i, .int .i64 k]] W fun e W' => e = .returned (.bool true) ∧ Below W.heap.size W W' := by
  unfold maxLen at hlm hgl
  have HRD := Lib.hid hrd
  have HG := Lib.hid hg
  have HB0 := Lib.hid (Below.al (Below.refl W.heap.size W) (o := (.cells #[.slice A l.length c, .int .i64 cells, .int .i64 fuel, .int .i64 more, .slice B g.length gc, .int .i64 n, .int .i64 i, .int .i64 k] 60)))
  have hbx := blk_new W (.cells #[.slice A l.length c, .int .i64 cells, .int .i64 fuel, .int .i64 more, .slice B g.length gc, .int .i64 n, .int .i64 i, .int .i64 k] 60)
  generalize hw0 : W.alloc (.cells #[.slice A l.length c, .int .i64 cells, .int .i64 fuel, .int .i64 more, .slice B g.length gc, .int .i64 n, .int .i64 i, .int .i64 k] 60) = w0 at HB0 hbx
  have HW0 := Lib.hid hw0
  have HX0 := Lib.hid hbx
  clear hrd hg hw0 hbx
  by_cases hl : 1000 < l.length
  · have hl' : (l.length : Int) > 1000 := by omega
    go_enter Try.func7, Try.ntmps7
    go_wp2
    rw [HW0.out]
    have f0 : w0.cell? ⟨W.heap.size, 0, none⟩ = some (.slice A l.length c) := by rw [blk_cell HX0.out]; rfl
    have hn0 := World.new_ne w0 _ f0
    have f1 : w0.cell? ⟨W.heap.size, 1, none⟩ = some (.int .i64 cells) := by rw [blk_cell HX0.out]; rfl
    have hn1 := World.new_ne w0 _ f1
    have f2 : w0.cell? ⟨W.heap.size, 2, none⟩ = some (.int .i64 fuel) := by rw [blk_cell HX0.out]; rfl
    have hn2 := World.new_ne w0 _ f2
    have f3 : w0.cell? ⟨W.heap.size, 3, none⟩ = some (.int .i64 more) := by rw [blk_cell HX0.out]; rfl
    have hn3 := World.new_ne w0 _ f3
    have f4 : w0.cell? ⟨W.heap.size, 4, none⟩ = some (.slice B g.length gc) := by rw [blk_cell HX0.out]; rfl
    have hn4 := World.new_ne w0 _ f4
    have f5 : w0.cell? ⟨W.heap.size, 5, none⟩ = some (.int .i64 n) := by rw [blk_cell HX0.out]; rfl
    have hn5 := World.new_ne w0 _ f5
    have f6 : w0.cell? ⟨W.heap.size, 6, none⟩ = some (.int .i64 i) := by rw [blk_cell HX0.out]; rfl
    have hn6 := World.new_ne w0 _ f6
    have f7 : w0.cell? ⟨W.heap.size, 7, none⟩ = some (.int .i64 k) := by rw [blk_cell HX0.out]; rfl
    have hn7 := World.new_ne w0 _ f7
    go_region_held3 (fun V => V.cell? ⟨W.heap.size, 0, none⟩ = some (.slice A l.length c) ∧ V.cell? ⟨W.heap.size, 1, none⟩ = some (.int .i64 cells) ∧ V.cell? ⟨W.heap.size, 2, none⟩ = some (.int .i64 fuel) ∧ V.cell? ⟨W.heap.size, 3, none⟩ = some (.int .i64 more) ∧ V.cell? ⟨W.heap.size, 4, none⟩ = some (.slice B g.length gc) ∧ V.cell? ⟨W.heap.size, 5, none⟩ = some (.int .i64 n) ∧ V.cell? ⟨W.heap.size, 6, none⟩ = some (.int .i64 i) ∧ V.cell? ⟨W.heap.size, 7, none⟩ = some (.int .i64 k)) (go_keep) (fail)
    clear f0 hn0 f1 hn1 f2 hn2 f3 hn3 f4 hn4 f5 hn5 f6 hn6 f7 hn7
    have hb1 : Below w0.heap.size w0 (w0.alloc (.cells #[.slice B g.length gc, .int .i64 n, .int .i64 i, .int .i64 k] 58)).drew := ((Below.refl w0.heap.size w0).al).drew
    have hx1 : (w0.alloc (.cells #[.slice B g.length gc, .int .i64 n, .int .i64 i, .int .i64 k] 58)).drew.heap[w0.heap.size]? = some (.cells #[.slice B g.length gc, .int .i64 n, .int .i64 i, .int .i64 k] 58 (0, 0)) := blk_new w0 _
    generalize (w0.alloc (.cells #[.slice B g.length gc, .int .i64 n, .int .i64 i, .int .i64 k] 58)).drew = w1 at *
    have HW1 := Lib.hid (HB0.out.trans (hb1.mono HB0.out.size))
    have HX1 := Lib.hid hx1
    clear hb1 hx1
    have f0 := blk_cell HX1.out 0
    have f1 := blk_cell HX1.out 1
    have f2 := blk_cell HX1.out 2
    have f3 := blk_cell HX1.out 3
    go_wp2
    go_ret
    exact ⟨rfl, HW1.out⟩
  have hl' : ¬ ((l.length : Int) > 1000) := by omega
  by_cases hgg : 100 < g.length
  · have hg' : (g.length : Int) > 100 := by omega
    go_enter Try.func7, Try.ntmps7
    go_wp2
    rw [HW0.out]
    have f0 : w0.cell? ⟨W.heap.size, 0, none⟩ = some (.slice A l.length c) := by rw [blk_cell HX0.out]; rfl
    have hn0 := World.new_ne w0 _ f0
    have f1 : w0.cell? ⟨W.heap.size, 1, none⟩ = some (.int .i64 cells) := by rw [blk_cell HX0.out]; rfl
    have hn1 := World.new_ne w0 _ f1
    have f2 : w0.cell? ⟨W.heap.size, 2, none⟩ = some (.int .i64 fuel) := by rw [blk_cell HX0.out]; rfl
    have hn2 := World.new_ne w0 _ f2
    have f3 : w0.cell? ⟨W.heap.size, 3, none⟩ = some (.int .i64 more) := by rw [blk_cell HX0.out]; rfl
    have hn3 := World.new_ne w0 _ f3
    have f4 : w0.cell? ⟨W.heap.size, 4, none⟩ = some (.slice B g.length gc) := by rw [blk_cell HX0.out]; rfl
    have hn4 := World.new_ne w0 _ f4
    have f5 : w0.cell? ⟨W.heap.size, 5, none⟩ = some (.int .i64 n) := by rw [blk_cell HX0.out]; rfl
    have hn5 := World.new_ne w0 _ f5
    have f6 : w0.cell? ⟨W.heap.size, 6, none⟩ = some (.int .i64 i) := by rw [blk_cell HX0.out]; rfl
    have hn6 := World.new_ne w0 _ f6
    have f7 : w0.cell? ⟨W.heap.size, 7, none⟩ = some (.int .i64 k) := by rw [blk_cell HX0.out]; rfl
    have hn7 := World.new_ne w0 _ f7
    go_region_held3 (fun V => V.cell? ⟨W.heap.size, 0, none⟩ = some (.slice A l.length c) ∧ V.cell? ⟨W.heap.size, 1, none⟩ = some (.int .i64 cells) ∧ V.cell? ⟨W.heap.size, 2, none⟩ = some (.int .i64 fuel) ∧ V.cell? ⟨W.heap.size, 3, none⟩ = some (.int .i64 more) ∧ V.cell? ⟨W.heap.size, 4, none⟩ = some (.slice B g.length gc) ∧ V.cell? ⟨W.heap.size, 5, none⟩ = some (.int .i64 n) ∧ V.cell? ⟨W.heap.size, 6, none⟩ = some (.int .i64 i) ∧ V.cell? ⟨W.heap.size, 7, none⟩ = some (.int .i64 k)) (go_keep) (fail)
    clear f0 hn0 f1 hn1 f2 hn2 f3 hn3 f4 hn4 f5 hn5 f6 hn6 f7 hn7
    have hb1 : Below w0.heap.size w0 (w0.alloc (.cells #[.slice B g.length gc, .int .i64 n, .int .i64 i, .int .i64 k] 58)).drew := ((Below.refl w0.heap.size w0).al).drew
    have hx1 : (w0.alloc (.cells #[.slice B g.length gc, .int .i64 n, .int .i64 i, .int .i64 k] 58)).drew.heap[w0.heap.size]? = some (.cells #[.slice B g.length gc, .int .i64 n, .int .i64 i, .int .i64 k] 58 (0, 0)) := blk_new w0 _
    generalize (w0.alloc (.cells #[.slice B g.length gc, .int .i64 n, .int .i64 i, .int .i64 k] 58)).drew = w1 at *
    have HW1 := Lib.hid (HB0.out.trans (hb1.mono HB0.out.size))
    have HX1 := Lib.hid hx1
    clear hb1 hx1
    have f0 := blk_cell HX1.out 0
    have f1 := blk_cell HX1.out 1
    have f2 := blk_cell HX1.out 2
    have f3 := blk_cell HX1.out 3
    go_wp2
    go_ret
    exact ⟨rfl, HW1.out⟩
  have hg' : ¬ ((g.length : Int) > 100) := by omega
  by_cases hmf : more < fuel
  · go_enter Try.func7, Try.ntmps7
    go_wp2
    rw [HW0.out]
    have f0 : w0.cell? ⟨W.heap.size, 0, none⟩ = some (.slice A l.length c) := by rw [blk_cell HX0.out]; rfl
    have hn0 := World.new_ne w0 _ f0
    have f1 : w0.cell? ⟨W.heap.size, 1, none⟩ = some (.int .i64 cells) := by rw [blk_cell HX0.out]; rfl
    have hn1 := World.new_ne w0 _ f1
    have f2 : w0.cell? ⟨W.heap.size, 2, none⟩ = some (.int .i64 fuel) := by rw [blk_cell HX0.out]; rfl
    have hn2 := World.new_ne w0 _ f2
    have f3 : w0.cell? ⟨W.heap.size, 3, none⟩ = some (.int .i64 more) := by rw [blk_cell HX0.out]; rfl
    have hn3 := World.new_ne w0 _ f3
    have f4 : w0.cell? ⟨W.heap.size, 4, none⟩ = some (.slice B g.length gc) := by rw [blk_cell HX0.out]; rfl
    have hn4 := World.new_ne w0 _ f4
    have f5 : w0.cell? ⟨W.heap.size, 5, none⟩ = some (.int .i64 n) := by rw [blk_cell HX0.out]; rfl
    have hn5 := World.new_ne w0 _ f5
    have f6 : w0.cell? ⟨W.heap.size, 6, none⟩ = some (.int .i64 i) := by rw [blk_cell HX0.out]; rfl
    have hn6 := World.new_ne w0 _ f6
    have f7 : w0.cell? ⟨W.heap.size, 7, none⟩ = some (.int .i64 k) := by rw [blk_cell HX0.out]; rfl
    have hn7 := World.new_ne w0 _ f7
    go_region_held3 (fun V => V.cell? ⟨W.heap.size, 0, none⟩ = some (.slice A l.length c) ∧ V.cell? ⟨W.heap.size, 1, none⟩ = some (.int .i64 cells) ∧ V.cell? ⟨W.heap.size, 2, none⟩ = some (.int .i64 fuel) ∧ V.cell? ⟨W.heap.size, 3, none⟩ = some (.int .i64 more) ∧ V.cell? ⟨W.heap.size, 4, none⟩ = some (.slice B g.length gc) ∧ V.cell? ⟨W.heap.size, 5, none⟩ = some (.int .i64 n) ∧ V.cell? ⟨W.heap.size, 6, none⟩ = some (.int .i64 i) ∧ V.cell? ⟨W.heap.size, 7, none⟩ = some (.int .i64 k)) (go_keep) (fail)
    clear f0 hn0 f1 hn1 f2 hn2 f3 hn3 f4 hn4 f5 hn5 f6 hn6 f7 hn7
    have hb1 : Below w0.heap.size w0 (w0.alloc (.cells #[.slice B g.length gc, .int .i64 n, .int .i64 i, .int .i64 k] 58)).drew := ((Below.refl w0.heap.size w0).al).drew
    have hx1 : (w0.alloc (.cells #[.slice B g.length gc, .int .i64 n, .int .i64 i, .int .i64 k] 58)).drew.heap[w0.heap.size]? = some (.cells #[.slice B g.length gc, .int .i64 n, .int .i64 i, .int .i64 k] 58 (0, 0)) := blk_new w0 _
    generalize (w0.alloc (.cells #[.slice B g.length gc, .int .i64 n, .int .i64 i, .int .i64 k] 58)).drew = w1 at *
    have HW1 := Lib.hid (HB0.out.trans (hb1.mono HB0.out.size))
    have HX1 := Lib.hid hx1
    clear hb1 hx1
    have f0 := blk_cell HX1.out 0
    have f1 := blk_cell HX1.out 1
    have f2 := blk_cell HX1.out 2
    have f3 := blk_cell HX1.out 3
    go_wp2
    go_ret
    exact ⟨rfl, HW1.out⟩
  have hlm : l.length ≤ 100000000 := by omega
  have hgm : g.length ≤ 100000000 := by omega
  obtain ⟨E1, hE1⟩ : ∃ E1, newE l cells g.length fuel = E1 := ⟨_, rfl⟩
  obtain ⟨E2, hE2⟩ : ∃ E2, newE l cells g.length more = E2 := ⟨_, rfl⟩
  have HE1 := Lib.hid hE1
  have HE2 := Lib.hid hE2
  clear hE1 hE2
  go_enter Try.func7, Try.ntmps7
  go_wp2
  rw [HW0.out]
  have f0 : w0.cell? ⟨W.heap.size, 0, none⟩ = some (.slice A l.length c) := by rw [blk_cell HX0.out]; rfl
  have hn0 := World.new_ne w0 _ f0
  have f1 : w0.cell? ⟨W.heap.size, 1, none⟩ = some (.int .i64 cells) := by rw [blk_cell HX0.out]; rfl
  have hn1 := World.new_ne w0 _ f1
  have f2 : w0.cell? ⟨W.heap.size, 2, none⟩ = some (.int .i64 fuel) := by rw [blk_cell HX0.out]; rfl
  have hn2 := World.new_ne w0 _ f2
  have f3 : w0.cell? ⟨W.heap.size, 3, none⟩ = some (.int .i64 more) := by rw [blk_cell HX0.out]; rfl
  have hn3 := World.new_ne w0 _ f3
  have f4 : w0.cell? ⟨W.heap.size, 4, none⟩ = some (.slice B g.length gc) := by rw [blk_cell HX0.out]; rfl
  have hn4 := World.new_ne w0 _ f4
  have f5 : w0.cell? ⟨W.heap.size, 5, none⟩ = some (.int .i64 n) := by rw [blk_cell HX0.out]; rfl
  have hn5 := World.new_ne w0 _ f5
  have f6 : w0.cell? ⟨W.heap.size, 6, none⟩ = some (.int .i64 i) := by rw [blk_cell HX0.out]; rfl
  have hn6 := World.new_ne w0 _ f6
  have f7 : w0.cell? ⟨W.heap.size, 7, none⟩ = some (.int .i64 k) := by rw [blk_cell HX0.out]; rfl
  have hn7 := World.new_ne w0 _ f7
  go_region_held3 (fun V => V.cell? ⟨W.heap.size, 0, none⟩ = some (.slice A l.length c) ∧ V.cell? ⟨W.heap.size, 1, none⟩ = some (.int .i64 cells) ∧ V.cell? ⟨W.heap.size, 2, none⟩ = some (.int .i64 fuel) ∧ V.cell? ⟨W.heap.size, 3, none⟩ = some (.int .i64 more) ∧ V.cell? ⟨W.heap.size, 4, none⟩ = some (.slice B g.length gc) ∧ V.cell? ⟨W.heap.size, 5, none⟩ = some (.int .i64 n) ∧ V.cell? ⟨W.heap.size, 6, none⟩ = some (.int .i64 i) ∧ V.cell? ⟨W.heap.size, 7, none⟩ = some (.int .i64 k)) (go_keep) (fail)
  clear f0 hn0 f1 hn1 f2 hn2 f3 hn3 f4 hn4 f5 hn5 f6 hn6 f7 hn7
  have hb1 : Below w0.heap.size w0 (w0.alloc (.cells #[.slice B g.length gc, .int .i64 n, .int .i64 i, .int .i64 k] 58)).drew := ((Below.refl w0.heap.size w0).al).drew
  have hx1 : (w0.alloc (.cells #[.slice B g.length gc, .int .i64 n, .int .i64 i, .int .i64 k] 58)).drew.heap[w0.heap.size]? = some (.cells #[.slice B g.length gc, .int .i64 n, .int .i64 i, .int .i64 k] 58 (0, 0)) := blk_new w0 _
  generalize (w0.alloc (.cells #[.slice B g.length gc, .int .i64 n, .int .i64 i, .int .i64 k] 58)).drew = w1 at *
  have HW1 := Lib.hid (HB0.out.trans (hb1.mono HB0.out.size))
  have HX1 := Lib.hid hx1
  clear hb1 hx1
  have f0 := blk_cell HX1.out 0
  have f1 := blk_cell HX1.out 1
  have f2 := blk_cell HX1.out 2
  have f3 := blk_cell HX1.out 3
  go_wp2_with fail
  refine (vmRun_calls W l A c cells fuel g B gc n i k HRD.out hlm HG.out hgm w1 HW1.out).mono ?_
  intro y w2 hd
  obtain ⟨AM1, nM1, cM1, AO1, nO1, cO1, AI1, nI1, cI1, ov1, va1, st1, rfl, hb, hs⟩ := hd.said
  rw [HE1.out] at hs ⊢
  have HW2 := Lib.hid (HW1.out.trans (hb.mono HW1.out.size))
  have HS2 := Lib.hid hs
  have HX2 := Lib.hid (below_blk hb HX1.out (blk_lt HX1.out))
  clear hd hb hs f0 f1 f2 f3
  go_wp2_with (refine wpList_store_mid (by rfl) 63 _ _ (by rfl) w2.heap.size 0 #[.slice AM1 nM1 cM1, .slice AO1 nO1 cO1, .slice AI1 nI1 cI1, .int .i64 ov1, .int .i64 va1, .int .i64 st1] (by rfl) (by rfl) (there_new 6 (by decide)) (by kernel_rfl) (by simp [Value.oneCell']) ?_; have hx := e_at (blk_new w2 (.cells #[.slice none 0 0, .slice none 0 0, .slice none 0 0, .int .i64 0, .int .i64 0, .int .i64 0] 63)) (.slice AM1 nM1 cM1) (.slice AO1 nO1 cO1) (.slice AI1 nI1 cI1) (.int .i64 ov1) (.int .i64 va1) (.int .i64 st1); have hb : Below w2.heap.size w2 ((w2.alloc (.cells #[.slice none 0 0, .slice none 0 0, .slice none 0 0, .int .i64 0, .int .i64 0, .int .i64 0] 63)).setCells w2.heap.size 0 [.slice AM1 nM1 cM1, .slice AO1 nO1 cO1, .slice AI1 nI1 cI1, .int .i64 ov1, .int .i64 va1, .int .i64 st1]) := below_sets (Nat.le_refl _) _ 0 ((Below.refl _ _).al); have hw : (w2.alloc (.cells #[.slice none 0 0, .slice none 0 0, .slice none 0 0, .int .i64 0, .int .i64 0, .int .i64 0] 63)).setCells w2.heap.size 0 [.slice AM1 nM1 cM1, .slice AO1 nO1 cO1, .slice AI1 nI1 cI1, .int .i64 ov1, .int .i64 va1, .int .i64 st1] = (w2.alloc (.cells #[.slice none 0 0, .slice none 0 0, .slice none 0 0, .int .i64 0, .int .i64 0, .int .i64 0] 63)).setCells w2.heap.size 0 (#[.slice AM1 nM1 cM1, .slice AO1 nO1 cO1, .slice AI1 nI1 cI1, .int .i64 ov1, .int .i64 va1, .int .i64 st1]).toList := rfl; rw [hw] at hx hb; clear hw; generalize (w2.alloc (.cells #[.slice none 0 0, .slice none 0 0, .slice none 0 0, .int .i64 0, .int .i64 0, .int .i64 0] 63)).setCells w2.heap.size 0 (#[.slice AM1 nM1 cM1, .slice AO1 nO1 cO1, .slice AI1 nI1 cI1, .int .i64 ov1, .int .i64 va1, .int .i64 st1]).toList = w3 at *; have f0 := (below_blk hb HX2.out (blk_lt HX2.out)); have HX3 := Lib.hid f0; clear f0; have f0 := blk_cell HX3.out 0; have f1 := blk_cell HX3.out 1; have f2 := blk_cell HX3.out 2; have f3 := blk_cell HX3.out 3)
  have HA3 := Lib.hid hx
  have HW3 := Lib.hid (HW2.out.trans (hb.mono HW2.out.size))
  have HS3 := Lib.hid (fun e => ((HS2.out e).1.below hb))
  have HL3 := Lib.hid (blk_lt hx)
  clear hx hb
  refine (vmRun_calls W l A c cells more g B gc n i k HRD.out hlm HG.out hgm w3 HW3.out).mono ?_
  intro y w4 hd
  obtain ⟨AM2, nM2, cM2, AO2, nO2, cO2, AI2, nI2, cI2, ov2, va2, st2, rfl, hb, hs⟩ := hd.said
  rw [HE2.out] at hs ⊢
  have HW4 := Lib.hid (HW3.out.trans (hb.mono HW3.out.size))
  have HS4 := Lib.hid hs
  have HX4 := Lib.hid (below_blk hb HX3.out (blk_lt HX3.out))
  have HA4 := Lib.hid (below_blk hb HA3.out (blk_lt HA3.out))
  have HR4 := Lib.hid (fun e => (HS3.out e).below hb)
  clear hd hb hs f0 f1 f2 f3
  by_cases h1 : E1 = 0
  · have hf1 : 1 ≤ fuel := (newE_good (HE1.out.trans h1)).2.2.2.1
    have h2 := newE_more (l := l) (cells := cells) (words := g.length) (f := fuel) (g := more) (by omega) (HE1.out.trans h1)
    rw [HE2.out] at h2
    rcases h2 with h2 | h2
    · have h10 := h1
      have h20 := h2
      obtain ⟨k1, k2, k3, k4, k5, k6⟩ := fuel_law (l := l) (f := fuel) (g := more) (m := g) (n := n) (i := i) (k := k) hf1 (by omega)
      obtain ⟨_, ra2, ra3, ra4⟩ := HS2.out h10
      obtain ⟨_, rb2, rb3, rb4⟩ := HS4.out h20
      by_cases h5 : ov1 = 5
      · obtain ⟨k7, k8⟩ := k5 (by omega)
        have j1 : ¬ (st1 > fuel) := by omega
        have j2 : ¬ (st2 > more) := by omega
        have j3 : (ov1 == 0) = false := by simp [h5]
        have j4 : (ov2 == 0) = false := by rw [beq_eq_false_iff_ne]; omega
        have j5 : (ov1 == 5) = true := by simp [h5]
        have j6 : (st1 == fuel) = true := by rw [beq_iff_eq]; omega
        have j7 : st2 ≥ fuel := by omega
        clear k1 k2 k3 k4 k5 k6 k7 k8 ra2 ra3 ra4 rb2 rb3 rb4 hf1 h5 h10 h20
        have z1 : (E1 != 0) = false := by simp [h1]
        have z2 : (E2 != 0) = false := by simp [h2]
        clear h1 h2
        go_wp2_with (refine wpList_store_mid (by rfl) 63 _ _ (by rfl) w4.heap.size 0 #[.slice AM2 nM2 cM2, .slice AO2 nO2 cO2, .slice AI2 nI2 cI2, .int .i64 ov2, .int .i64 va2, .int .i64 st2] (by rfl) (by rfl) (there_new 6 (by decide)) (by kernel_rfl) (by simp [Value.oneCell']) ?_; have hx := e_at (blk_new w4 (.cells #[.slice none 0 0, .slice none 0 0, .slice none 0 0, .int .i64 0, .int .i64 0, .int .i64 0] 63)) (.slice AM2 nM2 cM2) (.slice AO2 nO2 cO2) (.slice AI2 nI2 cI2) (.int .i64 ov2) (.int .i64 va2) (.int .i64 st2); have hb : Below w4.heap.size w4 ((w4.alloc (.cells #[.slice none 0 0, .slice none 0 0, .slice none 0 0, .int .i64 0, .int .i64 0, .int .i64 0] 63)).setCells w4.heap.size 0 [.slice AM2 nM2 cM2, .slice AO2 nO2 cO2, .slice AI2 nI2 cI2, .int .i64 ov2, .int .i64 va2, .int .i64 st2]) := below_sets (Nat.le_refl _) _ 0 ((Below.refl _ _).al); have hw : (w4.alloc (.cells #[.slice none 0 0, .slice none 0 0, .slice none 0 0, .int .i64 0, .int .i64 0, .int .i64 0] 63)).setCells w4.heap.size 0 [.slice AM2 nM2 cM2, .slice AO2 nO2 cO2, .slice AI2 nI2 cI2, .int .i64 ov2, .int .i64 va2, .int .i64 st2] = (w4.alloc (.cells #[.slice none 0 0, .slice none 0 0, .slice none 0 0, .int .i64 0, .int .i64 0, .int .i64 0] 63)).setCells w4.heap.size 0 (#[.slice AM2 nM2 cM2, .slice AO2 nO2 cO2, .slice AI2 nI2 cI2, .int .i64 ov2, .int .i64 va2, .int .i64 st2]).toList := rfl; rw [hw] at hx hb; clear hw; generalize (w4.alloc (.cells #[.slice none 0 0, .slice none 0 0, .slice none 0 0, .int .i64 0, .int .i64 0, .int .i64 0] 63)).setCells w4.heap.size 0 (#[.slice AM2 nM2 cM2, .slice AO2 nO2 cO2, .slice AI2 nI2 cI2, .int .i64 ov2, .int .i64 va2, .int .i64 st2]).toList = w5 at *; have f0 := (below_blk hb HX4.out (blk_lt HX4.out)); have HX5 := Lib.hid f0; clear f0; have f0 := blk_cell HX5.out 0; have f1 := blk_cell HX5.out 1; have f2 := blk_cell HX5.out 2; have f3 := blk_cell HX5.out 3; have HA5 := Lib.hid (below_blk hb HA4.out (blk_lt HA4.out)); have HB5 := Lib.hid hx; have HW5 := Lib.hid (HW4.out.trans (hb.mono HW4.out.size)); have HR5 := Lib.hid (fun e => (HR4.out e).below hb); have HS5 := Lib.hid (fun e => (HS4.out e).1.below hb); clear hb hx f0 f1 f2 f3; have p0 := blk_cell HA5.out 0; have q0 := blk_cell HB5.out 0; have p1 := blk_cell HA5.out 1; have q1 := blk_cell HB5.out 1; have p2 := blk_cell HA5.out 2; have q2 := blk_cell HB5.out 2; have p3 := blk_cell HA5.out 3; have q3 := blk_cell HB5.out 3; have p4 := blk_cell HA5.out 4; have q4 := blk_cell HB5.out 4; have p5 := blk_cell HA5.out 5; have q5 := blk_cell HB5.out 5)
        refine (alive_calls w5).mono ?_
        rintro y w6 ⟨rfl, hb6⟩
        have HW6 := Lib.hid (HW5.out.trans (hb6.mono HW5.out.size))
        clear hb6
        go_wp2
        go_ret
        exact ⟨by simp, HW6.out⟩
      · have k7 := k6 (by omega)
        have j1 : ¬ (st1 > fuel) := by omega
        have j2 : ¬ (st2 > more) := by omega
        have j3 : (ov1 == 0) = false := by rw [beq_eq_false_iff_ne]; omega
        rw [k7] at rb2 rb3 rb4
        obtain rfl : ov1 = ov2 := ra2.trans rb2.symm
        obtain rfl : va1 = va2 := ra3.trans rb3.symm
        obtain rfl : st1 = st2 := ra4.trans rb4.symm
        have j5 : (ov1 == 5) = false := by simp [h5]
        have H0 := Lib.hid h10
        have H00 := Lib.hid h20
        have K7 := Lib.hid k7
        clear k1 k2 k3 k4 k5 k6 k7 ra2 ra3 ra4 rb2 rb3 rb4 hf1 h5 h10 h20
        have z1 : (E1 != 0) = false := by simp [h1]
        have z2 : (E2 != 0) = false := by simp [h2]
        clear h1 h2
        go_wp2_with (refine wpList_store_mid (by rfl) 63 _ _ (by rfl) w4.heap.size 0 #[.slice AM2 nM2 cM2, .slice AO2 nO2 cO2, .slice AI2 nI2 cI2, .int .i64 ov1, .int .i64 va1, .int .i64 st1] (by rfl) (by rfl) (there_new 6 (by decide)) (by kernel_rfl) (by simp [Value.oneCell']) ?_; have hx := e_at (blk_new w4 (.cells #[.slice none 0 0, .slice none 0 0, .slice none 0 0, .int .i64 0, .int .i64 0, .int .i64 0] 63)) (.slice AM2 nM2 cM2) (.slice AO2 nO2 cO2) (.slice AI2 nI2 cI2) (.int .i64 ov1) (.int .i64 va1) (.int .i64 st1); have hb : Below w4.heap.size w4 ((w4.alloc (.cells #[.slice none 0 0, .slice none 0 0, .slice none 0 0, .int .i64 0, .int .i64 0, .int .i64 0] 63)).setCells w4.heap.size 0 [.slice AM2 nM2 cM2, .slice AO2 nO2 cO2, .slice AI2 nI2 cI2, .int .i64 ov1, .int .i64 va1, .int .i64 st1]) := below_sets (Nat.le_refl _) _ 0 ((Below.refl _ _).al); have hw : (w4.alloc (.cells #[.slice none 0 0, .slice none 0 0, .slice none 0 0, .int .i64 0, .int .i64 0, .int .i64 0] 63)).setCells w4.heap.size 0 [.slice AM2 nM2 cM2, .slice AO2 nO2 cO2, .slice AI2 nI2 cI2, .int .i64 ov1, .int .i64 va1, .int .i64 st1] = (w4.alloc (.cells #[.slice none 0 0, .slice none 0 0, .slice none 0 0, .int .i64 0, .int .i64 0, .int .i64 0] 63)).setCells w4.heap.size 0 (#[.slice AM2 nM2 cM2, .slice AO2 nO2 cO2, .slice AI2 nI2 cI2, .int .i64 ov1, .int .i64 va1, .int .i64 st1]).toList := rfl; rw [hw] at hx hb; clear hw; generalize (w4.alloc (.cells #[.slice none 0 0, .slice none 0 0, .slice none 0 0, .int .i64 0, .int .i64 0, .int .i64 0] 63)).setCells w4.heap.size 0 (#[.slice AM2 nM2 cM2, .slice AO2 nO2 cO2, .slice AI2 nI2 cI2, .int .i64 ov1, .int .i64 va1, .int .i64 st1]).toList = w5 at *; have f0 := (below_blk hb HX4.out (blk_lt HX4.out)); have HX5 := Lib.hid f0; clear f0; have f0 := blk_cell HX5.out 0; have f1 := blk_cell HX5.out 1; have f2 := blk_cell HX5.out 2; have f3 := blk_cell HX5.out 3; have HA5 := Lib.hid (below_blk hb HA4.out (blk_lt HA4.out)); have HB5 := Lib.hid hx; have HW5 := Lib.hid (HW4.out.trans (hb.mono HW4.out.size)); have HR5 := Lib.hid (fun e => (HR4.out e).below hb); have HS5 := Lib.hid (fun e => (HS4.out e).1.below hb); clear hb hx f0 f1 f2 f3; have p0 := blk_cell HA5.out 0; have q0 := blk_cell HB5.out 0; have p1 := blk_cell HA5.out 1; have q1 := blk_cell HB5.out 1; have p2 := blk_cell HA5.out 2; have q2 := blk_cell HB5.out 2; have p3 := blk_cell HA5.out 3; have q3 := blk_cell HB5.out 3; have p4 := blk_cell HA5.out 4; have q4 := blk_cell HB5.out 4; have p5 := blk_cell HA5.out 5; have q5 := blk_cell HB5.out 5)
        refine (same_calls w5 (runEnd l fuel g n i k).2 _ _ _ _ _ _ ov1 va1 st1 (HR5.out H0.out) (by have h := HS5.out H00.out; rw [K7.out] at h; exact h)).mono ?_
        rintro y w7 ⟨rfl, hb7⟩
        have HW7 := Lib.hid (HW5.out.trans (hb7.mono HW5.out.size))
        clear hb7 p0 p1 p2 p3 p4 p5 q0 q1 q2 q3 q4 q5
        go_wp2_with fail
        refine (alive_calls w7).mono ?_
        rintro y w6 ⟨rfl, hb6⟩
        have HW6 := Lib.hid (HW7.out.trans (hb6.mono HW7.out.size))
        clear hb6
        go_wp2
        go_ret
        exact ⟨by simp, HW6.out⟩
    · have z1 : (E1 != 0) = false := by simp [h1]
      have z2 : (E2 != 0) = true := by simp [h2]
      have z3 : (E2 == 110) = true := by simp [h2]
      clear h1 h2
      go_wp2_with (refine wpList_store_mid (by rfl) 63 _ _ (by rfl) w4.heap.size 0 #[.slice AM2 nM2 cM2, .slice AO2 nO2 cO2, .slice AI2 nI2 cI2, .int .i64 ov2, .int .i64 va2, .int .i64 st2] (by rfl) (by rfl) (there_new 6 (by decide)) (by kernel_rfl) (by simp [Value.oneCell']) ?_; have hx := e_at (blk_new w4 (.cells #[.slice none 0 0, .slice none 0 0, .slice none 0 0, .int .i64 0, .int .i64 0, .int .i64 0] 63)) (.slice AM2 nM2 cM2) (.slice AO2 nO2 cO2) (.slice AI2 nI2 cI2) (.int .i64 ov2) (.int .i64 va2) (.int .i64 st2); have hb : Below w4.heap.size w4 ((w4.alloc (.cells #[.slice none 0 0, .slice none 0 0, .slice none 0 0, .int .i64 0, .int .i64 0, .int .i64 0] 63)).setCells w4.heap.size 0 [.slice AM2 nM2 cM2, .slice AO2 nO2 cO2, .slice AI2 nI2 cI2, .int .i64 ov2, .int .i64 va2, .int .i64 st2]) := below_sets (Nat.le_refl _) _ 0 ((Below.refl _ _).al); have hw : (w4.alloc (.cells #[.slice none 0 0, .slice none 0 0, .slice none 0 0, .int .i64 0, .int .i64 0, .int .i64 0] 63)).setCells w4.heap.size 0 [.slice AM2 nM2 cM2, .slice AO2 nO2 cO2, .slice AI2 nI2 cI2, .int .i64 ov2, .int .i64 va2, .int .i64 st2] = (w4.alloc (.cells #[.slice none 0 0, .slice none 0 0, .slice none 0 0, .int .i64 0, .int .i64 0, .int .i64 0] 63)).setCells w4.heap.size 0 (#[.slice AM2 nM2 cM2, .slice AO2 nO2 cO2, .slice AI2 nI2 cI2, .int .i64 ov2, .int .i64 va2, .int .i64 st2]).toList := rfl; rw [hw] at hx hb; clear hw; generalize (w4.alloc (.cells #[.slice none 0 0, .slice none 0 0, .slice none 0 0, .int .i64 0, .int .i64 0, .int .i64 0] 63)).setCells w4.heap.size 0 (#[.slice AM2 nM2 cM2, .slice AO2 nO2 cO2, .slice AI2 nI2 cI2, .int .i64 ov2, .int .i64 va2, .int .i64 st2]).toList = w5 at *; have f0 := (below_blk hb HX4.out (blk_lt HX4.out)); have HX5 := Lib.hid f0; clear f0; have f0 := blk_cell HX5.out 0; have f1 := blk_cell HX5.out 1; have f2 := blk_cell HX5.out 2; have f3 := blk_cell HX5.out 3; have HA5 := Lib.hid (below_blk hb HA4.out (blk_lt HA4.out)); have HB5 := Lib.hid hx; have HW5 := Lib.hid (HW4.out.trans (hb.mono HW4.out.size)); have HR5 := Lib.hid (fun e => (HR4.out e).below hb); have HS5 := Lib.hid (fun e => (HS4.out e).1.below hb); clear hb hx f0 f1 f2 f3)
      refine (alive_calls w5).mono ?_
      rintro y w6 ⟨rfl, hb6⟩
      have HW6 := Lib.hid (HW5.out.trans (hb6.mono HW5.out.size))
      clear hb6
      go_wp2
      go_ret
      exact ⟨by simp, HW6.out⟩
  · have z1 : (E1 != 0) = true := by simp [h1]
    clear h1
    go_wp2_with (refine wpList_store_mid (by rfl) 63 _ _ (by rfl) w4.heap.size 0 #[.slice AM2 nM2 cM2, .slice AO2 nO2 cO2, .slice AI2 nI2 cI2, .int .i64 ov2, .int .i64 va2, .int .i64 st2] (by rfl) (by rfl) (there_new 6 (by decide)) (by kernel_rfl) (by simp [Value.oneCell']) ?_; have hx := e_at (blk_new w4 (.cells #[.slice none 0 0, .slice none 0 0, .slice none 0 0, .int .i64 0, .int .i64 0, .int .i64 0] 63)) (.slice AM2 nM2 cM2) (.slice AO2 nO2 cO2) (.slice AI2 nI2 cI2) (.int .i64 ov2) (.int .i64 va2) (.int .i64 st2); have hb : Below w4.heap.size w4 ((w4.alloc (.cells #[.slice none 0 0, .slice none 0 0, .slice none 0 0, .int .i64 0, .int .i64 0, .int .i64 0] 63)).setCells w4.heap.size 0 [.slice AM2 nM2 cM2, .slice AO2 nO2 cO2, .slice AI2 nI2 cI2, .int .i64 ov2, .int .i64 va2, .int .i64 st2]) := below_sets (Nat.le_refl _) _ 0 ((Below.refl _ _).al); have hw : (w4.alloc (.cells #[.slice none 0 0, .slice none 0 0, .slice none 0 0, .int .i64 0, .int .i64 0, .int .i64 0] 63)).setCells w4.heap.size 0 [.slice AM2 nM2 cM2, .slice AO2 nO2 cO2, .slice AI2 nI2 cI2, .int .i64 ov2, .int .i64 va2, .int .i64 st2] = (w4.alloc (.cells #[.slice none 0 0, .slice none 0 0, .slice none 0 0, .int .i64 0, .int .i64 0, .int .i64 0] 63)).setCells w4.heap.size 0 (#[.slice AM2 nM2 cM2, .slice AO2 nO2 cO2, .slice AI2 nI2 cI2, .int .i64 ov2, .int .i64 va2, .int .i64 st2]).toList := rfl; rw [hw] at hx hb; clear hw; generalize (w4.alloc (.cells #[.slice none 0 0, .slice none 0 0, .slice none 0 0, .int .i64 0, .int .i64 0, .int .i64 0] 63)).setCells w4.heap.size 0 (#[.slice AM2 nM2 cM2, .slice AO2 nO2 cO2, .slice AI2 nI2 cI2, .int .i64 ov2, .int .i64 va2, .int .i64 st2]).toList = w5 at *; have f0 := (below_blk hb HX4.out (blk_lt HX4.out)); have HX5 := Lib.hid f0; clear f0; have f0 := blk_cell HX5.out 0; have f1 := blk_cell HX5.out 1; have f2 := blk_cell HX5.out 2; have f3 := blk_cell HX5.out 3; have HA5 := Lib.hid (below_blk hb HA4.out (blk_lt HA4.out)); have HB5 := Lib.hid hx; have HW5 := Lib.hid (HW4.out.trans (hb.mono HW4.out.size)); have HR5 := Lib.hid (fun e => (HR4.out e).below hb); have HS5 := Lib.hid (fun e => (HS4.out e).1.below hb); clear hb hx f0 f1 f2 f3)
    refine (alive_calls w5).mono ?_
    rintro y w6 ⟨rfl, hb6⟩
    have HW6 := Lib.hid (HW5.out.trans (hb6.mono HW5.out.size))
    clear hb6
    go_wp2
    go_ret
    exact ⟨by simp, HW6.out⟩
end Go.Proofs.Ytnikcdcaaeljmaa.My
