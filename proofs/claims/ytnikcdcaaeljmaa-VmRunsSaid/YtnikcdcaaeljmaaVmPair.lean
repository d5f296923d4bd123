/- Both machines made; equal states are told equal. -/
import Derived.Test.YtnikcdcaaeljmaaVmMach
import Derived.Laws.StructEq
namespace Go.Proofs.Ytnikcdcaaeljmaa.My
open Go.RowKit
set_option linter.unusedVariables false
set_option linter.unusedSimpArgs false
/-- what making both machines leaves -/
def MadeOK (w : World) (l : List Ins) (A : Option Addr) (c : Nat) (cells words fuel n i k : Int) (e : Ending) (w' : World) : Prop :=
  Below w.heap.size w w' ∧ if newE l cells words fuel = 0 then ∃ p Ac cc R cr, e = .returned (.tuple #[.pointer (some ⟨p, 0, none⟩), .agg #[.slice A l.length c, .int .i64 words, .int .i64 fuel, .slice R 16 cr, .int .i64 0, .int .i64 0, .int .i64 0, .int .i64 0], .bool true]) ∧ w.heap.size ≤ p ∧
      Mach w' p l words fuel (s0 n i k).cells (s0 n i k) Ac cc ∧ Row w' 2 1 (.slice R 16 cr) 16 (regs n i k 16)
    else e = .returned (.tuple #[.pointer none, .agg zeroM, .bool true])
def caseCells (A : Option Addr) (m c : Nat) (cells words fuel n i k : Int) : Array Value := #[.slice A m c, .int .i64 cells, .int .i64 words, .int .i64 fuel, .int .i64 n, .int .i64 i, .int .i64 k]
theorem results_tmp_cell_tmp {P : Program} {fn : Func} {t0 t u : Tmp} {ty : TypeId} {d : TypeDesc} (h : fn.results = #[.tmp t0, .cell t ty, .tmp u]) (tmps : Array Value) (w : World) (b : Nat) (cs : List Value) (ht : tmps.getD t undef = .pointer (some ⟨b, 0, none⟩)) (hc : w.rangeAt b 0 cs) (hu : P.underlying ty = some d) (hd : d.isRow = true) (hi : (P.info? ty).map (·.size) = some cs.length) :
    (results fn tmps).run P w = .ok (.tuple #[tmps.getD t0 undef, .agg cs.toArray, tmps.getD u undef]) w := by
  have ht' : tmps[t]?.getD undef = .pointer (some ⟨b, 0, none⟩) := by simpa using ht
  simp [results, h, ht', asAddr, run_loadVar_mid w b 0 ty cs d hc hu hd hi]
theorem size_al (w : World) (o : Obj) : (w.alloc o).heap.size = w.heap.size + 1 := by simp
theorem zeroM_int {i : Nat} {v : Int} (h : zeroM[i]? = some (.int .i64 v)) : v = 0 := by
  have hi : i < 8 := (Array.getElem?_eq_some_iff.1 h).1
  have : i = 0 ∨ i = 1 ∨ i = 2 ∨ i = 3 ∨ i = 4 ∨ i = 5 ∨ i = 6 ∨ i = 7 := by omega
  rcases this with rfl | rfl | rfl | rfl | rfl | rfl | rfl | rfl <;> simp [zeroM] at h <;> exact h.symm
theorem ne_zeroM {w : World} {l : List Ins} {Ac : Option Addr} {g : Nat} {t : TypeId} (hr : insRow w l Ac) (hg : goodL l) (hz : w.heap[g]? = some (.cells zeroM t (0, 0))) : ∀ b o, Ac = some ⟨b, o, none⟩ → b ≠ g := by
  intro b o hb e
  subst e
  have hpos := List.length_pos_iff.2 hg.1
  obtain ⟨b', o', hA, hc⟩ := hr 0 hpos
  rw [hb] at hA
  injection hA with hA; injection hA with h1 h2 _
  subst h1
  have h := hc 0 _ (show (l[0].cells)[0]? = some (.int .i64 l[0].kind) from rfl)
  rw [blk_cell hz] at h
  have := zeroM_int h
  have := (hg.at hpos).2.1
  omega
theorem Mach.keepO {w w' : World} {p g : Nat} {l : List Ins} {words fuel : Int} {first : List Value} {s : St} {Ac : Option Addr} {cc : Nat} (h : Mach w p l words fuel first s Ac cc) (k : Keep (fun k => k = g) w w') (hp : p ≠ g) (hn : ∀ b o, Ac = some ⟨b, o, none⟩ → b ≠ g) : Mach w' p l words fuel first s Ac cc :=
  ⟨h.vm.far k hp, h.row.far k hn, h.ne, h.good, h.ok, h.fuel⟩
set_option maxRecDepth 100000 in
set_option maxHeartbeats 2000000 in
theorem made_calls (W : World) (l : List Ins) (A : Option Addr) (c : Nat) (cells words fuel n i k : Int) (hrd : insRow W l A) (hl : l.length ≤ 100000000) (w : World) (hB : Below W.heap.size W w) :
    Calls Try.prog 8 #[.agg #[.slice A l.length c, .int .i64 cells, .int .i64 words, .int .i64 fuel, .int .i64 n, .int .i64 i, .int .i64 k]] w (MadeOK w l A c cells words fuel n i k) := by
  have HN := Lib.hid (fun w1 h => vmNew_calls W l A c cells words fuel n i k hrd hl w1 h)
  have HF := Lib.hid (fun w1 h => refNew_calls W l A c cells words fuel n i k hrd hl w1 h)
  have HB := Lib.hid hB
  clear hrd hB
  by_cases hz : newE l cells words fuel = 0
  · have HZ := Lib.hid hz
    clear hz
    go_enter Try.func8, Try.ntmps8
    go_wp2_with fail
    have hbw : Below w.heap.size w ((w.alloc (.cells (caseCells A l.length c cells words fuel n i k) 24)).alloc (.cells zeroM 29)) := ((Below.refl w.heap.size w).al).al
    have hx0 := blk_alloc (blk_new w (.cells (caseCells A l.length c cells words fuel n i k) 24)) (.cells zeroM 29)
    have hx1 := blk_new (w.alloc (.cells (caseCells A l.length c cells words fuel n i k) 24)) (.cells zeroM 29)
    refine (HN.out _ (HB.out.trans (hbw.mono HB.out.size))).mono ?_
    intro e1 w1 hd1
    obtain ⟨p, Ac, cc, rfl, hp, hb1, hm1⟩ := Mach.new HZ.out hd1
    have hsz1 : (w.alloc (.cells (caseCells A l.length c cells words fuel n i k) 24)).heap.size = w.heap.size + 1 := size_al _ _
    have hp' : w.heap.size + 2 ≤ p := by rw [size_al, hsz1] at hp; exact hp
    rw [hsz1] at hx1
    have hx0 := below_blk hb1 hx0 (blk_lt hx0)
    have hx1 := below_blk hb1 hx1 (blk_lt hx1)
    have hB1 := hbw.trans (hb1.mono hbw.size)
    clear hb1 hbw hd1 hp hsz1
    have f0 := blk_cell hx0 0
    have f1 := blk_cell hx0 1
    have f2 := blk_cell hx0 2
    have f3 := blk_cell hx0 3
    have f4 := blk_cell hx0 4
    have f5 := blk_cell hx0 5
    have f6 := blk_cell hx0 6
    simp only [caseCells] at f0 f1 f2 f3 f4 f5 f6
    have HX1 := Lib.hid hx1
    have HM := Lib.hid hm1
    have HB1 := Lib.hid hB1
    have HP := Lib.hid hp'
    clear hx0 hx1 hm1 hB1 hp'
    go_wp2_with fail
    refine (HF.out _ (HB.out.trans (HB1.out.mono HB.out.size))).mono ?_
    intro e2 w2 hd2
    obtain ⟨hb2, hd2⟩ := hd2
    rw [if_pos HZ.out] at hd2
    obtain ⟨R, cr, rfl, hrow⟩ := hd2
    clear f0 f1 f2 f3 f4 f5 f6
    have HB2 := Lib.hid (HB1.out.trans (hb2.mono HB1.out.size))
    have HM2 := Lib.hid (HM.out.below hb2)
    have HRW := Lib.hid hrow
    have hx1 := below_blk hb2 HX1.out (blk_lt HX1.out)
    have hlt := blk_lt hx1
    have HX2 := Lib.hid hx1
    have HLT := Lib.hid hlt
    clear hb2 hrow hx1 hlt
    go_wp2
    have hx3 := blk_new w2 (.cells #[.slice A l.length c, .int .i64 words, .int .i64 fuel, .slice R 16 cr, .int .i64 0, .int .i64 0, .int .i64 0, .int .i64 0] 29)
    have hx1 := blk_alloc HX2.out (.cells #[.slice A l.length c, .int .i64 words, .int .i64 fuel, .slice R 16 cr, .int .i64 0, .int .i64 0, .int .i64 0, .int .i64 0] 29)
    have hb3 : Below w2.heap.size w2 (w2.alloc (.cells #[.slice A l.length c, .int .i64 words, .int .i64 fuel, .slice R 16 cr, .int .i64 0, .int .i64 0, .int .i64 0, .int .i64 0] 29)) := (Below.refl _ _).al
    generalize w2.alloc (.cells #[.slice A l.length c, .int .i64 words, .int .i64 fuel, .slice R 16 cr, .int .i64 0, .int .i64 0, .int .i64 0, .int .i64 0] 29) = w3 at *
    have HB3 := Lib.hid (HB2.out.trans (hb3.mono HB2.out.size))
    have HM3 := Lib.hid (HM2.out.below hb3)
    have HR3 := Lib.hid (HRW.out.keep fun g hg => hb3.block g (HRW.out.lt hg))
    have hne : w.heap.size + 1 ≠ w2.heap.size := by have := HLT.out; omega
    have HX3 := Lib.hid hx1
    have HX4 := Lib.hid hx3
    have m0 := blk_cell hx3 0
    have z0 := blk_cell hx1 0
    have m1 := blk_cell hx3 1
    have z1 := blk_cell hx1 1
    have m2 := blk_cell hx3 2
    have z2 := blk_cell hx1 2
    have m3 := blk_cell hx3 3
    have z3 := blk_cell hx1 3
    have m4 := blk_cell hx3 4
    have z4 := blk_cell hx1 4
    have m5 := blk_cell hx3 5
    have z5 := blk_cell hx1 5
    have m6 := blk_cell hx3 6
    have z6 := blk_cell hx1 6
    have m7 := blk_cell hx3 7
    have z7 := blk_cell hx1 7
    have fz := blk_free hx1
    simp only [zeroM] at z0 z1 z2 z3 z4 z5 z6 z7
    clear hx3 hx1 hb3
    go_region_held3 (fun W_ => W_.cell? ⟨w2.heap.size, 0, none⟩ = some (.slice A l.length c) ∧ W_.cell? ⟨w2.heap.size, 1, none⟩ = some (.int .i64 words) ∧ W_.cell? ⟨w2.heap.size, 2, none⟩ = some (.int .i64 fuel) ∧ W_.cell? ⟨w2.heap.size, 3, none⟩ = some (.slice R 16 cr) ∧ W_.cell? ⟨w2.heap.size, 4, none⟩ = some (.int .i64 0) ∧ W_.cell? ⟨w2.heap.size, 5, none⟩ = some (.int .i64 0) ∧ W_.cell? ⟨w2.heap.size, 6, none⟩ = some (.int .i64 0) ∧ W_.cell? ⟨w2.heap.size, 7, none⟩ = some (.int .i64 0)) (go_keep) (fail)
    have hx5 := m_at HX3.out (.slice A l.length c) (.int .i64 words) (.int .i64 fuel) (.slice R 16 cr) (.int .i64 0) (.int .i64 0) (.int .i64 0) (.int .i64 0)
    have hb5 : Below w.heap.size w (w3.setCells (w.heap.size + 1) 0 [.slice A l.length c, .int .i64 words, .int .i64 fuel, .slice R 16 cr, .int .i64 0, .int .i64 0, .int .i64 0, .int .i64 0]) := below_sets (Nat.le_succ _) _ 0 HB3.out
    have hk5 : Keep (fun k => k = w.heap.size + 1) w3 (w3.setCells (w.heap.size + 1) 0 [.slice A l.length c, .int .i64 words, .int .i64 fuel, .slice R 16 cr, .int .i64 0, .int .i64 0, .int .i64 0, .int .i64 0]) := keep_sets _ 0 (Keep.refl _ w3)
    have hm5 := HM3.out.keepO hk5 (by have := HP.out; omega) (ne_zeroM HM3.out.row HM3.out.good HX3.out)
    have hr5 : Row (w3.setCells (w.heap.size + 1) 0 [.slice A l.length c, .int .i64 words, .int .i64 fuel, .slice R 16 cr, .int .i64 0, .int .i64 0, .int .i64 0, .int .i64 0]) 2 1 (.slice R 16 cr) 16 (regs n i k 16) := HR3.out.keep fun g hg => hk5.block g (HR3.out.lt hg) (fun e => HR3.out.ne HX3.out (by decide) (by rw [hg, e]))
    clear m0 m1 m2 m3 m4 m5 m6 m7 z0 z1 z2 z3 z4 z5 z6 z7 fz hne
    obtain ⟨w5, hw5⟩ : ∃ w5, w3.setCells (w.heap.size + 1) 0 [.slice A l.length c, .int .i64 words, .int .i64 fuel, .slice R 16 cr, .int .i64 0, .int .i64 0, .int .i64 0, .int .i64 0] = w5 := ⟨_, rfl⟩
    rw [hw5] at hx5 hb5 hk5 hm5 hr5
    simp only [World.setCells, Nat.zero_add, Nat.reduceAdd] at hw5
    rw [hw5]
    clear hw5
    go_wp2
    refine bodyPost_ret (results_tmp_cell_tmp rfl _ _ (w.heap.size + 1) [.slice A l.length c, .int .i64 words, .int .i64 fuel, .slice R 16 cr, .int .i64 0, .int .i64 0, .int .i64 0, .int .i64 0] rfl (range_at hx5 0 _ rfl) Try.underlying29 rfl (by kernel_rfl)) rfl ?_
    refine ⟨hb5.drew, ?_⟩
    rw [if_pos HZ.out]
    exact ⟨p, Ac, cc, R, cr, rfl, by have := HP.out; omega, ⟨hm5.vm, hm5.row, hm5.ne, hm5.good, hm5.ok, hm5.fuel⟩, hr5⟩
  · obtain ⟨E, hE⟩ : ∃ E, newE l cells words fuel = E := ⟨_, rfl⟩
    rw [hE] at hz
    have hE0 : (E == 0) = false := by simp [hz]
    have HE := Lib.hid hE
    have HZ := Lib.hid hz
    clear hz hE
    go_enter Try.func8, Try.ntmps8
    go_wp2_with fail
    have hbw : Below w.heap.size w ((w.alloc (.cells (caseCells A l.length c cells words fuel n i k) 24)).alloc (.cells zeroM 29)) := ((Below.refl w.heap.size w).al).al
    have hx0 := blk_alloc (blk_new w (.cells (caseCells A l.length c cells words fuel n i k) 24)) (.cells zeroM 29)
    have hx1 := blk_new (w.alloc (.cells (caseCells A l.length c cells words fuel n i k) 24)) (.cells zeroM 29)
    refine (HN.out _ (HB.out.trans (hbw.mono HB.out.size))).mono ?_
    intro e1 w1 hd1
    obtain ⟨hb1, hd1⟩ := hd1
    rw [HE.out, if_neg HZ.out] at hd1
    subst hd1
    have hsz1 : (w.alloc (.cells (caseCells A l.length c cells words fuel n i k) 24)).heap.size = w.heap.size + 1 := size_al _ _
    rw [hsz1] at hx1
    have hx0 := below_blk hb1 hx0 (blk_lt hx0)
    have hx1 := below_blk hb1 hx1 (blk_lt hx1)
    have hB1 := hbw.trans (hb1.mono hbw.size)
    clear hb1 hbw hsz1
    have f0 := blk_cell hx0 0
    have f1 := blk_cell hx0 1
    have f2 := blk_cell hx0 2
    have f3 := blk_cell hx0 3
    have f4 := blk_cell hx0 4
    have f5 := blk_cell hx0 5
    have f6 := blk_cell hx0 6
    simp only [caseCells] at f0 f1 f2 f3 f4 f5 f6
    have HX1 := Lib.hid hx1
    have HB1 := Lib.hid hB1
    clear hx0 hx1 hB1
    go_wp2_with fail
    refine (HF.out _ (HB.out.trans (HB1.out.mono HB.out.size))).mono ?_
    intro e2 w2 hd2
    obtain ⟨hb2, hd2⟩ := hd2
    rw [HE.out, if_neg HZ.out] at hd2
    subst hd2
    rw [show (Value.agg zeroM) = .agg #[.slice none 0 0, .int .i64 0, .int .i64 0, .slice none 0 0, .int .i64 0, .int .i64 0, .int .i64 0, .int .i64 0] from rfl]
    clear f0 f1 f2 f3 f4 f5 f6
    have HB2 := Lib.hid (HB1.out.trans (hb2.mono HB1.out.size))
    have hx1 := below_blk hb2 HX1.out (blk_lt HX1.out)
    have hlt := blk_lt hx1
    have HX2 := Lib.hid hx1
    have HLT := Lib.hid hlt
    clear hb2 hx1 hlt
    go_wp2
    have hx3 := blk_new w2 (.cells #[.slice none 0 0, .int .i64 0, .int .i64 0, .slice none 0 0, .int .i64 0, .int .i64 0, .int .i64 0, .int .i64 0] 29)
    have hx1 := blk_alloc HX2.out (.cells #[.slice none 0 0, .int .i64 0, .int .i64 0, .slice none 0 0, .int .i64 0, .int .i64 0, .int .i64 0, .int .i64 0] 29)
    have hb3 : Below w2.heap.size w2 (w2.alloc (.cells #[.slice none 0 0, .int .i64 0, .int .i64 0, .slice none 0 0, .int .i64 0, .int .i64 0, .int .i64 0, .int .i64 0] 29)) := (Below.refl _ _).al
    generalize w2.alloc (.cells #[.slice none 0 0, .int .i64 0, .int .i64 0, .slice none 0 0, .int .i64 0, .int .i64 0, .int .i64 0, .int .i64 0] 29) = w3 at *
    have HB3 := Lib.hid (HB2.out.trans (hb3.mono HB2.out.size))
    have hne : w.heap.size + 1 ≠ w2.heap.size := by have := HLT.out; omega
    have HX3 := Lib.hid hx1
    have HX4 := Lib.hid hx3
    have m0 := blk_cell hx3 0
    have z0 := blk_cell hx1 0
    have m1 := blk_cell hx3 1
    have z1 := blk_cell hx1 1
    have m2 := blk_cell hx3 2
    have z2 := blk_cell hx1 2
    have m3 := blk_cell hx3 3
    have z3 := blk_cell hx1 3
    have m4 := blk_cell hx3 4
    have z4 := blk_cell hx1 4
    have m5 := blk_cell hx3 5
    have z5 := blk_cell hx1 5
    have m6 := blk_cell hx3 6
    have z6 := blk_cell hx1 6
    have m7 := blk_cell hx3 7
    have z7 := blk_cell hx1 7
    have fz := blk_free hx1
    simp only [zeroM] at z0 z1 z2 z3 z4 z5 z6 z7
    clear hx3 hx1 hb3
    go_region_held3 (fun W_ => W_.cell? ⟨w2.heap.size, 0, none⟩ = some (.slice none 0 0) ∧ W_.cell? ⟨w2.heap.size, 1, none⟩ = some (.int .i64 0) ∧ W_.cell? ⟨w2.heap.size, 2, none⟩ = some (.int .i64 0) ∧ W_.cell? ⟨w2.heap.size, 3, none⟩ = some (.slice none 0 0) ∧ W_.cell? ⟨w2.heap.size, 4, none⟩ = some (.int .i64 0) ∧ W_.cell? ⟨w2.heap.size, 5, none⟩ = some (.int .i64 0) ∧ W_.cell? ⟨w2.heap.size, 6, none⟩ = some (.int .i64 0) ∧ W_.cell? ⟨w2.heap.size, 7, none⟩ = some (.int .i64 0)) (go_keep) (fail)
    have hx5 := m_at HX3.out (.slice none 0 0) (.int .i64 0) (.int .i64 0) (.slice none 0 0) (.int .i64 0) (.int .i64 0) (.int .i64 0) (.int .i64 0)
    have hb5 : Below w.heap.size w (w3.setCells (w.heap.size + 1) 0 [.slice none 0 0, .int .i64 0, .int .i64 0, .slice none 0 0, .int .i64 0, .int .i64 0, .int .i64 0, .int .i64 0]) := below_sets (Nat.le_succ _) _ 0 HB3.out
    clear m0 m1 m2 m3 m4 m5 m6 m7 z0 z1 z2 z3 z4 z5 z6 z7 fz hne
    obtain ⟨w5, hw5⟩ : ∃ w5, w3.setCells (w.heap.size + 1) 0 [.slice none 0 0, .int .i64 0, .int .i64 0, .slice none 0 0, .int .i64 0, .int .i64 0, .int .i64 0, .int .i64 0] = w5 := ⟨_, rfl⟩
    rw [hw5] at hx5 hb5
    simp only [World.setCells, Nat.zero_add, Nat.reduceAdd] at hw5
    rw [hw5]
    clear hw5
    go_wp2
    refine bodyPost_ret (results_tmp_cell_tmp rfl _ _ (w.heap.size + 1) [.slice none 0 0, .int .i64 0, .int .i64 0, .slice none 0 0, .int .i64 0, .int .i64 0, .int .i64 0, .int .i64 0] rfl (range_at hx5 0 _ rfl) Try.underlying29 rfl (by kernel_rfl)) rfl ?_
    refine ⟨hb5.drew, ?_⟩
    rw [HE.out, if_neg HZ.out]
    exact rfl
end Go.Proofs.Ytnikcdcaaeljmaa.My
namespace Go.Proofs.Ytnikcdcaaeljmaa.My
open Go.RowKit
theorem part_one {P : Program} (w : World) (t : TypeId) (xs : Array Value) (i : Nat) (v : Value) (d : TypeDesc) (hu : P.underlying t = some d) (hd : d.isRow = false) (h : xs[i]? = some v) : (part t xs i).run P w = .ok v w := by
  have hagg : (isAgg t).run P w = .ok false w := by
    unfold isAgg
    rw [Sem.run_bind, run_underlying hu w]
    cases d <;> simp_all
  simp [part, Sem.run_bind, hagg, h]
end Go.Proofs.Ytnikcdcaaeljmaa.My
