/- The law VmAgain, walked: a machine that is reset does all as at first; one that is set to a state of before goes on as it did there. Conditions: the text and the numbers lie in memory. -/
import Derived.Test.YtnikcdcaaeljmaaVmX1
import Derived.Test.YtnikcdcaaeljmaaOpen
namespace Go.Proofs.Ytnikcdcaaeljmaa.My
open Go.RowKit Go.Proofs.Ytnikcdcaaeljmaa.NumA
set_option linter.unusedVariables false
set_option linter.unusedSimpArgs false
/-- what a step gets: round and round -/
def gotI (g : List Int) (i : Nat) : Int := if g.length = 0 then 0 else g.getD (i % g.length) 0
/-- so many steps from a number on -/
def playN (l : List Ins) (words fuel : Int) (g : List Int) : St → Nat → Nat → St
  | s, _, 0 => s
  | s, a, n + 1 => playN l words fuel g (stepS l words fuel s (gotI g a)) (a + 1) n
theorem playN_succ (l : List Ins) (words fuel : Int) (g : List Int) : ∀ (n : Nat) (s : St) (a : Nat), playN l words fuel g s a (n + 1) = stepS l words fuel (playN l words fuel g s a n) (gotI g (a + n))
  | 0, s, a => rfl
  | n + 1, s, a => by rw [playN, playN_succ l words fuel g n, playN, show a + 1 + n = a + (n + 1) by omega]
theorem playN_add (l : List Ins) (words fuel : Int) (g : List Int) : ∀ (m n : Nat) (s : St) (a : Nat), playN l words fuel g (playN l words fuel g s a m) (a + m) n = playN l words fuel g s a (m + n)
  | 0, n, s, a => by rw [Nat.zero_add]; rfl
  | m + 1, n, s, a => by rw [playN, show a + (m + 1) = a + 1 + m by omega, playN_add l words fuel g m n, show m + 1 + n = m + n + 1 by omega]; rfl
/-- how it has ended is one of six -/
def okO (s : St) : Prop := 0 ≤ s.over ∧ s.over ≤ 5
theorem okO_if {c : Prop} [Decidable c] {a b : St} (ha : okO a) (hb : okO b) : okO (if c then a else b) := by split <;> assumption
theorem okO_step {l : List Ins} {words fuel : Int} {s : St} (h : okO s) (got : Int) : okO (stepS l words fuel s got) := by
  unfold stepS doS memS branchS reckonS
  repeat' (first | exact h | apply okO_if | exact ⟨by simp [ended], by simp [ended]⟩)
theorem okO_play {l : List Ins} {words fuel : Int} {g : List Int} : ∀ (n : Nat) (s : St) (a : Nat), okO s → okO (playN l words fuel g s a n)
  | 0, _, _, h => h
  | n + 1, s, a, h => okO_play n _ _ (okO_step h _)
theorem numRow.at {W w : World} {l : List Int} {A : Option Addr} (h : numRow W l A) (hB : Below W.heap.size W w) {j : Nat} (hj : j < l.length) : ∃ b o, A = some ⟨b, o, none⟩ ∧ w.cell? ⟨b, o + j, none⟩ = some (.int .i64 l[j]) := by
  obtain ⟨b, o, hA, hc⟩ := h j hj
  exact ⟨b, o, hA, hB.cellOf hc⟩
set_option maxRecDepth 100000 in
set_option maxHeartbeats 1000000 in
theorem played_calls (W : World) (l : List Ins) (words fuel : Int) (first : List Value) (g : List Int) (B : Option Addr) (gc : Nat) (hg : numRow W g B) (hgl : g.length ≤ maxLen) (w : World) (hB : Below W.heap.size W w) (p : Nat) (hp : W.heap.size ≤ p) (s : St) (Ac : Option Addr) (cc : Nat) (hm : Mach w p l words fuel first s Ac cc) (a b : Nat) (hab : a ≤ b) (hb : b ≤ 1000) :
    Calls Try.prog 19 #[.pointer (some ⟨p, 0, none⟩), .slice B g.length gc, .int .i64 a, .int .i64 b] w fun e w' => e = .returned (.tuple #[]) ∧ Keep (fun k => k = p) w w' ∧ Mach w' p l words fuel first (playN l words fuel g s a (b - a)) Ac cc := by
  unfold maxLen at hgl
  have HM := Lib.hid hm
  have HG := Lib.hid hg
  have HB := Lib.hid hB
  have HP := Lib.hid hp
  clear hm hg hB hp
  go_enter Try.func19, Try.ntmps19
  go_wp2
  go_loopw [8] (fun i wr => ∃ k : Nat, i = .int .i64 (k : Int) ∧ a ≤ k ∧ k ≤ b ∧ Hid (Keep (fun q => q = p) w wr) ∧ Hid (Mach wr p l words fuel first (playN l words fuel g s a (k - a)) Ac cc)) (fun i _ => b - (intOf i).toNat)
  case atStart => exact ⟨a, rfl, Nat.le_refl _, hab, Lib.hid (Keep.refl _ _), Lib.hid (by rw [Nat.sub_self]; exact HM.out)⟩
  case round =>
    obtain ⟨k, rfl, hka, hkb, HK, HMr⟩ := hrel
    by_cases hlt : k < b
    · have hlt' : (k : Int) < (b : Int) := by omega
      have HS := Lib.hid (show playN l words fuel g s a (k + 1 - a) = stepS l words fuel (playN l words fuel g s a (k - a)) (gotI g k) by rw [show k + 1 - a = (k - a) + 1 by omega, playN_succ, show a + (k - a) = k by omega])
      have HBr := Lib.hid (HB.out.trans (HK.out.toBelow HB.out.size (fun q e => by subst e; exact HP.out)))
      by_cases hz : g.length = 0
      · have hz' : (g.length : Int) = 0 := by omega
        have hgt : ¬ ((g.length : Int) > 0) := by omega
        have HQ := Lib.hid (show gotI g k = 0 by simp [gotI, hz])
        clear hz hz'
        go_wp2_with (go_at_call 12; go_must (refine (HMr.out.step _).mono ?_); rintro y w2 ⟨rfl, k2, m2⟩; have K2 := Lib.hid k2; have M2 := Lib.hid m2; clear k2 m2)
        go_roundw
        case rel => exact ⟨k + 1, by go_num, by omega, by omega, Lib.hid (HK.out.step K2.out), Lib.hid (by rw [HS.out, HQ.out]; exact M2.out)⟩
        case measure => simp [intOf]; omega
      · have hgt : (g.length : Int) > 0 := by omega
        have hmod : k % g.length < g.length := Nat.mod_lt _ (by omega)
        obtain ⟨b', o, rfl, hc⟩ := HG.out.at HBr.out hmod
        have HQ := Lib.hid (show gotI g k = g[k % g.length] by simp [gotI, hz, List.getD, List.getElem?_eq_getElem hmod])
        have hmi : (k : Int) % (g.length : Int) = ((k % g.length : Nat) : Int) := by omega
        have hmt : Int.tmod (k : Int) (g.length : Int) = ((k % g.length : Nat) : Int) := by rw [Int.tmod_eq_emod_of_nonneg (by omega)]; exact hmi
        generalize k % g.length = m at hmod hc HQ hmi hmt
        have hm0 : (0 : Int) ≤ (m : Int) := by omega
        have hm1 : (m : Int) < (g.length : Int) := by omega
        clear hz
        go_wp2_with (go_at_call 12; go_must (refine (HMr.out.step _).mono ?_); rintro y w2 ⟨rfl, k2, m2⟩; have K2 := Lib.hid k2; have M2 := Lib.hid m2; clear k2 m2)
        go_roundw
        case rel => exact ⟨k + 1, by go_num, by omega, by omega, Lib.hid (HK.out.step K2.out), Lib.hid (by rw [HS.out, HQ.out]; exact M2.out)⟩
        case measure => simp [intOf]; omega
    · have hk' : k = b := by omega
      subst hk'
      go_wp2
      first | go_end0 | refine bodyPost_ret (results_none rfl _ _ _) rfl ?_
      exact ⟨rfl, HK.out, HMr.out⟩
theorem range_keep {w w1 : World} {O : Nat → Prop} {b o : Nat} {cs : List Value} (k : Keep O w w1) (hn : ¬ O b) (h : w.rangeAt b o cs) : w1.rangeAt b o cs := fun j v hv => k.cellAt hn (h j v hv)
theorem Mach.setS {w : World} {p : Nat} {l : List Ins} {words fuel : Int} {first : List Value} {s : St} {Ac : Option Addr} {cc : Nat} (h : Mach w p l words fuel first s Ac cc) (s' : St) (hs : okS l fuel s') (ho : okO s') :
    Calls Try.prog 17 #[.pointer (some ⟨p, 0, none⟩), .agg s'.cells.toArray] w fun e w' => e = .returned (.bool true) ∧ Keep (fun k => k = p) w w' ∧ Mach w' p l words fuel first s' Ac cc := by
  refine (set_calls w p s.cells first (s'.rg.map (Value.int .i64)) Ac l.length cc words fuel s'.at0 s'.steps s'.over s'.value (by simp [hs.1]) (by intro u hu; obtain ⟨v, _, rfl⟩ := List.mem_map.1 hu; rfl) h.vm).mono fun e w' hd => ?_
  obtain ⟨he, hk, hv⟩ := hd
  have hm : maySet l.length fuel s'.at0 s'.steps s'.over = true := by
    obtain ⟨_, h1, h2, h3, h4⟩ := hs
    obtain ⟨h5, h6⟩ := ho
    simp [maySet]; omega
  rw [hm] at he hv
  exact ⟨he, hk, ⟨hv, h.row.far hk (fun b o hb e => by have := h.ne b o hb; omega), h.ne, h.good, hs, h.fuel⟩⟩
theorem Mach.resetS {w : World} {p : Nat} {l : List Ins} {words fuel : Int} {f : St} {s : St} {Ac : Option Addr} {cc : Nat} (h : Mach w p l words fuel f.cells s Ac cc) (hf : okS l fuel f) :
    Calls Try.prog 20 #[.pointer (some ⟨p, 0, none⟩)] w fun e w' => e = .returned (.tuple #[]) ∧ Keep (fun k => k = p) w w' ∧ Mach w' p l words fuel f.cells f Ac cc :=
  (reset_calls w p s.cells f.cells _ words fuel f.one h.vm).mono fun e w' hd => ⟨hd.1, hd.2.1, ⟨hd.2.2, h.row.far hd.2.1 (fun b o hb e => by have := h.ne b o hb; omega), h.ne, h.good, hf, h.fuel⟩⟩
theorem size_st {s : St} (h : s.rg.length = 16) : (Try.prog.info? 45).map (·.size) = some s.cells.toArray.size := by rw [List.size_toArray, St.len h]; exact info_state
theorem size_sl {s : St} (h : s.rg.length = 16) : (Try.prog.info? 45).map (·.size) = some s.cells.length := by rw [St.len h]; exact info_state
theorem there_st (w : World) (Z : Array Value) (t : TypeId) (hZ : Z.size = 20) {s : St} (h : s.rg.length = 16) : (w.alloc (.cells Z t)).there w.heap.size 0 s.cells.toArray.size := by
  have e : s.cells.toArray.size = 20 := by simp [St.len h]
  rw [e]; exact there_new 20 (by omega)
theorem tmod_bounds (a b : Int) (hb : 0 < b) : -b < Int.tmod a b ∧ Int.tmod a b < b := by
  rcases Int.le_total 0 a with h | h
  · rw [Int.tmod_eq_emod_of_nonneg h]; have := Int.emod_nonneg a (show b ≠ 0 by omega); have := Int.emod_lt_of_pos a hb; omega
  · have e : Int.tmod a b = -(Int.tmod (-a) b) := by rw [Int.neg_tmod]; omega
    rw [e, Int.tmod_eq_emod_of_nonneg (by omega)]; have := Int.emod_nonneg (-a) (show b ≠ 0 by omega); have := Int.emod_lt_of_pos (-a) hb; omega
set_option maxRecDepth 100000 in
set_option maxHeartbeats 8000000 in
theorem vmAgain_calls (l : List Ins) (A : Option Addr) (c : Nat) (cells words fuel n i k : Int) (g : List Int) (B : Option Addr) (gc : Nat) (steps cut : Int) (W : World) (hrd : insRow W l A) (hlm : l.length ≤ maxLen) (hg : numRow W g B) (hgl : g.length ≤ maxLen) (hgc : g.length ≤ gc)
    (hst : in64 steps) (hcu : in64 cut) :
    Calls Try.prog 5 #[.agg #[.slice A l.length c, .int .i64 cells, .int .i64 words, .int .i64 fuel, .int .i64 n, .int .i64 i, .int .i64 k, .slice B g.length gc, .int .i64 steps, .int .i64 cut]] W fun e W' => e = .returned (.bool true) ∧ Below W.heap.size W W' := by
  unfold maxLen at hlm
  have HRD := Lib.hid hrd
  have HG := Lib.hid hg
  have HB0 := Lib.hid (Below.al (Below.refl W.heap.size W) (o := (.cells #[.slice A l.length c, .int .i64 cells, .int .i64 words, .int .i64 fuel, .int .i64 n, .int .i64 i, .int .i64 k, .slice B g.length gc, .int .i64 steps, .int .i64 cut] 51)))
  have hbx := blk_new W (.cells #[.slice A l.length c, .int .i64 cells, .int .i64 words, .int .i64 fuel, .int .i64 n, .int .i64 i, .int .i64 k, .slice B g.length gc, .int .i64 steps, .int .i64 cut] 51)
  generalize hw0 : W.alloc (.cells #[.slice A l.length c, .int .i64 cells, .int .i64 words, .int .i64 fuel, .int .i64 n, .int .i64 i, .int .i64 k, .slice B g.length gc, .int .i64 steps, .int .i64 cut] 51) = w0 at HB0 hbx
  have HW0 := Lib.hid hw0
  have HX0 := Lib.hid hbx
  clear hrd hg hw0 hbx
  by_cases hl : 1000 < l.length
  · have hl' : (l.length : Int) > 1000 := by omega
    go_enter Try.func5, Try.ntmps5
    go_wp2
    rw [HW0.out]
    have f0 : w0.cell? ⟨W.heap.size, 0, none⟩ = some (.slice A l.length c) := by rw [blk_cell HX0.out]; rfl
    have hn0 := World.new_ne w0 _ f0
    have f1 : w0.cell? ⟨W.heap.size, 1, none⟩ = some (.int .i64 cells) := by rw [blk_cell HX0.out]; rfl
    have hn1 := World.new_ne w0 _ f1
    have f2 : w0.cell? ⟨W.heap.size, 2, none⟩ = some (.int .i64 words) := by rw [blk_cell HX0.out]; rfl
    have hn2 := World.new_ne w0 _ f2
    have f3 : w0.cell? ⟨W.heap.size, 3, none⟩ = some (.int .i64 fuel) := by rw [blk_cell HX0.out]; rfl
    have hn3 := World.new_ne w0 _ f3
    have f4 : w0.cell? ⟨W.heap.size, 4, none⟩ = some (.int .i64 n) := by rw [blk_cell HX0.out]; rfl
    have hn4 := World.new_ne w0 _ f4
    have f5 : w0.cell? ⟨W.heap.size, 5, none⟩ = some (.int .i64 i) := by rw [blk_cell HX0.out]; rfl
    have hn5 := World.new_ne w0 _ f5
    have f6 : w0.cell? ⟨W.heap.size, 6, none⟩ = some (.int .i64 k) := by rw [blk_cell HX0.out]; rfl
    have hn6 := World.new_ne w0 _ f6
    have f7 : w0.cell? ⟨W.heap.size, 7, none⟩ = some (.slice B g.length gc) := by rw [blk_cell HX0.out]; rfl
    have hn7 := World.new_ne w0 _ f7
    have f8 : w0.cell? ⟨W.heap.size, 8, none⟩ = some (.int .i64 steps) := by rw [blk_cell HX0.out]; rfl
    have hn8 := World.new_ne w0 _ f8
    have f9 : w0.cell? ⟨W.heap.size, 9, none⟩ = some (.int .i64 cut) := by rw [blk_cell HX0.out]; rfl
    have hn9 := World.new_ne w0 _ f9
    go_region_held3 (fun V => V.cell? ⟨W.heap.size, 0, none⟩ = some (.slice A l.length c) ∧ V.cell? ⟨W.heap.size, 1, none⟩ = some (.int .i64 cells) ∧ V.cell? ⟨W.heap.size, 2, none⟩ = some (.int .i64 words) ∧ V.cell? ⟨W.heap.size, 3, none⟩ = some (.int .i64 fuel) ∧ V.cell? ⟨W.heap.size, 4, none⟩ = some (.int .i64 n) ∧ V.cell? ⟨W.heap.size, 5, none⟩ = some (.int .i64 i) ∧ V.cell? ⟨W.heap.size, 6, none⟩ = some (.int .i64 k) ∧ V.cell? ⟨W.heap.size, 7, none⟩ = some (.slice B g.length gc) ∧ V.cell? ⟨W.heap.size, 8, none⟩ = some (.int .i64 steps) ∧ V.cell? ⟨W.heap.size, 9, none⟩ = some (.int .i64 cut)) (go_keep) (fail)
    clear f0 hn0 f1 hn1 f2 hn2 f3 hn3 f4 hn4 f5 hn5 f6 hn6 f7 hn7 f8 hn8 f9 hn9
    have hb1 : Below w0.heap.size w0 (w0.alloc (.cells #[.slice A l.length c, .int .i64 cells, .int .i64 words, .int .i64 fuel, .int .i64 n, .int .i64 i, .int .i64 k] 24)).drew := ((Below.refl w0.heap.size w0).al).drew
    have hx1 : (w0.alloc (.cells #[.slice A l.length c, .int .i64 cells, .int .i64 words, .int .i64 fuel, .int .i64 n, .int .i64 i, .int .i64 k] 24)).drew.heap[w0.heap.size]? = some (.cells #[.slice A l.length c, .int .i64 cells, .int .i64 words, .int .i64 fuel, .int .i64 n, .int .i64 i, .int .i64 k] 24 (0, 0)) := blk_new w0 _
    generalize (w0.alloc (.cells #[.slice A l.length c, .int .i64 cells, .int .i64 words, .int .i64 fuel, .int .i64 n, .int .i64 i, .int .i64 k] 24)).drew = w1 at *
    have f0 := blk_cell hx1 0
    have f1 := blk_cell hx1 1
    have f2 := blk_cell hx1 2
    have f3 := blk_cell hx1 3
    have f4 := blk_cell hx1 4
    have f5 := blk_cell hx1 5
    have f6 := blk_cell hx1 6
    have HW1 := Lib.hid (HB0.out.trans (hb1.mono HB0.out.size))
    clear hb1 hx1
    go_wp2
    go_ret
    exact ⟨rfl, HW1.out⟩
  · have hl' : ¬ ((l.length : Int) > 1000) := by omega
    by_cases hz : newE l cells words fuel = 0
    · have HZ := Lib.hid hz
      have b1 := hst
      obtain ⟨m1, hm1⟩ : ∃ m, Int.tmod steps 200 = m := ⟨_, rfl⟩
      have c1 : -200 < m1 ∧ m1 < 200 := by rw [← hm1]; exact tmod_bounds steps 200 (by omega)
      obtain ⟨c1a, c1b⟩ := c1
      obtain ⟨N, hN⟩ : ∃ N : Nat, (m1 + 200) % 200 = (N : Int) := ⟨((m1 + 200) % 200).toNat, by omega⟩
      have hN2 : N < 200 := by omega
      obtain ⟨m2, hm2⟩ : ∃ m, Int.tmod cut ((N : Int) + 1) = m := ⟨_, rfl⟩
      have c2 : -((N : Int) + 1) < m2 ∧ m2 < (N : Int) + 1 := by rw [← hm2]; exact tmod_bounds cut ((N : Int) + 1) (by omega)
      obtain ⟨c2a, c2b⟩ := c2
      obtain ⟨C, hC⟩ : ∃ C : Nat, (m2 + (N : Int) + 1) % ((N : Int) + 1) = (C : Int) := ⟨((m2 + (N : Int) + 1) % ((N : Int) + 1)).toNat, (Int.toNat_of_nonneg (Int.emod_nonneg _ (by omega))).symm⟩
      have hC2 : C ≤ N := by have := Int.emod_lt_of_pos (m2 + (N : Int) + 1) (show (0 : Int) < (N : Int) + 1 by omega); omega
      obtain ⟨S1, hS1⟩ : ∃ S1, playN l words fuel g (s0 n i k) 0 (C - 0) = S1 := ⟨_, rfl⟩
      obtain ⟨S2, hS2⟩ : ∃ S2, playN l words fuel g S1 C (N - C) = S2 := ⟨_, rfl⟩
      have hS3 : playN l words fuel g (s0 n i k) 0 (N - 0) = S2 := by
        rw [← hS2, ← hS1, show C - 0 = C from rfl, show N - 0 = C + (N - C) by omega, ← playN_add l words fuel g C (N - C) (s0 n i k) 0, Nat.zero_add]
      have H1 := Lib.hid hS1
      have H2 := Lib.hid hS2
      have H3 := Lib.hid hS3
      have HT := Lib.hid (And.intro hm1 (And.intro hN (And.intro hm2 hC)))
      have OO1 := Lib.hid (show okO S1 from hS1 ▸ okO_play _ _ _ ⟨by simp [s0], by simp [s0]⟩)
      clear hz hst hcu b1 hm1 hN hm2 hC hS1 hS2 hS3
      go_enter Try.func5, Try.ntmps5
      go_wp2
      rw [HW0.out]
      have f0 : w0.cell? ⟨W.heap.size, 0, none⟩ = some (.slice A l.length c) := by rw [blk_cell HX0.out]; rfl
      have hn0 := World.new_ne w0 _ f0
      have f1 : w0.cell? ⟨W.heap.size, 1, none⟩ = some (.int .i64 cells) := by rw [blk_cell HX0.out]; rfl
      have hn1 := World.new_ne w0 _ f1
      have f2 : w0.cell? ⟨W.heap.size, 2, none⟩ = some (.int .i64 words) := by rw [blk_cell HX0.out]; rfl
      have hn2 := World.new_ne w0 _ f2
      have f3 : w0.cell? ⟨W.heap.size, 3, none⟩ = some (.int .i64 fuel) := by rw [blk_cell HX0.out]; rfl
      have hn3 := World.new_ne w0 _ f3
      have f4 : w0.cell? ⟨W.heap.size, 4, none⟩ = some (.int .i64 n) := by rw [blk_cell HX0.out]; rfl
      have hn4 := World.new_ne w0 _ f4
      have f5 : w0.cell? ⟨W.heap.size, 5, none⟩ = some (.int .i64 i) := by rw [blk_cell HX0.out]; rfl
      have hn5 := World.new_ne w0 _ f5
      have f6 : w0.cell? ⟨W.heap.size, 6, none⟩ = some (.int .i64 k) := by rw [blk_cell HX0.out]; rfl
      have hn6 := World.new_ne w0 _ f6
      have f7 : w0.cell? ⟨W.heap.size, 7, none⟩ = some (.slice B g.length gc) := by rw [blk_cell HX0.out]; rfl
      have hn7 := World.new_ne w0 _ f7
      have f8 : w0.cell? ⟨W.heap.size, 8, none⟩ = some (.int .i64 steps) := by rw [blk_cell HX0.out]; rfl
      have hn8 := World.new_ne w0 _ f8
      have f9 : w0.cell? ⟨W.heap.size, 9, none⟩ = some (.int .i64 cut) := by rw [blk_cell HX0.out]; rfl
      have hn9 := World.new_ne w0 _ f9
      go_region_held3 (fun V => V.cell? ⟨W.heap.size, 0, none⟩ = some (.slice A l.length c) ∧ V.cell? ⟨W.heap.size, 1, none⟩ = some (.int .i64 cells) ∧ V.cell? ⟨W.heap.size, 2, none⟩ = some (.int .i64 words) ∧ V.cell? ⟨W.heap.size, 3, none⟩ = some (.int .i64 fuel) ∧ V.cell? ⟨W.heap.size, 4, none⟩ = some (.int .i64 n) ∧ V.cell? ⟨W.heap.size, 5, none⟩ = some (.int .i64 i) ∧ V.cell? ⟨W.heap.size, 6, none⟩ = some (.int .i64 k) ∧ V.cell? ⟨W.heap.size, 7, none⟩ = some (.slice B g.length gc) ∧ V.cell? ⟨W.heap.size, 8, none⟩ = some (.int .i64 steps) ∧ V.cell? ⟨W.heap.size, 9, none⟩ = some (.int .i64 cut)) (go_keep) (fail)
      clear f0 hn0 f1 hn1 f2 hn2 f3 hn3 f4 hn4 f5 hn5 f6 hn6 f7 hn7 f8 hn8 f9 hn9
      have hb1 : Below w0.heap.size w0 (w0.alloc (.cells #[.slice A l.length c, .int .i64 cells, .int .i64 words, .int .i64 fuel, .int .i64 n, .int .i64 i, .int .i64 k] 24)).drew := ((Below.refl w0.heap.size w0).al).drew
      have hx1 : (w0.alloc (.cells #[.slice A l.length c, .int .i64 cells, .int .i64 words, .int .i64 fuel, .int .i64 n, .int .i64 i, .int .i64 k] 24)).drew.heap[w0.heap.size]? = some (.cells #[.slice A l.length c, .int .i64 cells, .int .i64 words, .int .i64 fuel, .int .i64 n, .int .i64 i, .int .i64 k] 24 (0, 0)) := blk_new w0 _
      generalize (w0.alloc (.cells #[.slice A l.length c, .int .i64 cells, .int .i64 words, .int .i64 fuel, .int .i64 n, .int .i64 i, .int .i64 k] 24)).drew = w1 at *
      have f0 := blk_cell hx1 0
      have f1 := blk_cell hx1 1
      have f2 := blk_cell hx1 2
      have f3 := blk_cell hx1 3
      have f4 := blk_cell hx1 4
      have f5 := blk_cell hx1 5
      have f6 := blk_cell hx1 6
      have HW1 := Lib.hid (HB0.out.trans (hb1.mono HB0.out.size))
      clear hb1 hx1
      go_wp2_with fail
      refine (vmNew_calls W l A c cells words fuel n i k HRD.out (by omega) w1 HW1.out).mono ?_
      intro e1 w2 hd
      obtain ⟨p, Ac, cc, rfl, hp, hb2, hm⟩ := Mach.new HZ.out hd
      have HP := Lib.hid (show W.heap.size ≤ p by have := HW1.out.size; omega)
      have HW2 := Lib.hid (HW1.out.trans (hb2.mono HW1.out.size))
      have HM2 := Lib.hid hm
      have HL2 := Lib.hid hm.vm.lt
      have OS0 := Lib.hid hm.ok
      clear hd hp hb2 hm f0 f1 f2 f3 f4 f5 f6
      have ht := HT.out
      obtain ⟨h1, h2, h3, h4⟩ := ht
      go_wp2_with fail
      rw [h2, h4]
      clear h1 h2 h3 h4
      refine (HM2.out.now).mono ?_
      rintro y w3 ⟨rfl, hb⟩
      have HM3 := Lib.hid (HM2.out.below hb)
      have HW3 := Lib.hid (HW2.out.trans (hb.mono HW2.out.size))
      have HL3 := Lib.hid (HM3.out.vm.lt)
      clear HM2 HW2 HL2 
      clear hb
      go_wp2_with (refine wpList_store_mid (by rfl) 45 _ _ (by rfl) w3.heap.size 0 (s0 n i k).cells.toArray (by rfl) (by rfl) (there_st w3 _ _ rfl (rfl : (s0 n i k).rg.length = 16)) (size_st (rfl : (s0 n i k).rg.length = 16)) (all_oneCell_toArray (s0 n i k).one) ?_; have hx := blk_all (w := w3.alloc (.cells #[.int .i64 0, .int .i64 0, .int .i64 0, .int .i64 0, .int .i64 0, .int .i64 0, .int .i64 0, .int .i64 0, .int .i64 0, .int .i64 0, .int .i64 0, .int .i64 0, .int .i64 0, .int .i64 0, .int .i64 0, .int .i64 0, .int .i64 0, .int .i64 0, .int .i64 0, .int .i64 0] 45)) (s0 n i k).cells (by rw [St.len (rfl : (s0 n i k).rg.length = 16)]; rfl) (blk_new w3 _); have hb := below_sets (Nat.le_refl _) (s0 n i k).cells 0 ((Below.refl w3.heap.size w3).al (o := .cells #[.int .i64 0, .int .i64 0, .int .i64 0, .int .i64 0, .int .i64 0, .int .i64 0, .int .i64 0, .int .i64 0, .int .i64 0, .int .i64 0, .int .i64 0, .int .i64 0, .int .i64 0, .int .i64 0, .int .i64 0, .int .i64 0, .int .i64 0, .int .i64 0, .int .i64 0, .int .i64 0] 45)); generalize World.setCells _ _ _ _ = w4 at hx hb ⊢)
      have HNF1 := Lib.hid (show w3.heap.size ≠ p by have := HL3.out; omega)
      have F1_4 := Lib.hid hx
      have HM4 := Lib.hid (HM3.out.below hb)
      have HW4 := Lib.hid (HW3.out.trans (hb.mono HW3.out.size))
      have HL4 := Lib.hid (HM4.out.vm.lt)
      clear HM3 HW3 HL3 
      clear hb hx
      refine (played_calls W l words fuel _ g B gc HG.out hgl w4 HW4.out p HP.out _ Ac cc HM4.out 0 C (Nat.zero_le _) (by omega)).mono ?_
      rintro y w5 ⟨rfl, hk, hm⟩
      rw [H1.out] at hm
      have HM5 := Lib.hid hm
      have HW5 := Lib.hid (HW4.out.trans (hk.toBelow HW4.out.size (fun z e => by subst e; exact HP.out)))
      have HL5 := Lib.hid (HM5.out.vm.lt)
      have F1_5 := Lib.hid (hk.blk F1_4.out (fun e => HNF1.out e))
      clear HM4 HW4 HL4 F1_4
      clear hk hm
      have R1 := Lib.hid HM5.out.ok.1
      have OS1 := Lib.hid HM5.out.ok
      go_wp2_with fail
      refine (HM5.out.now).mono ?_
      rintro y w6 ⟨rfl, hb⟩
      have HM6 := Lib.hid (HM5.out.below hb)
      have HW6 := Lib.hid (HW5.out.trans (hb.mono HW5.out.size))
      have HL6 := Lib.hid (HM6.out.vm.lt)
      have F1_6 := Lib.hid (below_blk hb F1_5.out (blk_lt F1_5.out))
      clear HM5 HW5 HL5 F1_5
      clear hb
      go_wp2_with (refine wpList_store_mid (by rfl) 45 _ _ (by rfl) w6.heap.size 0 S1.cells.toArray (by rfl) (by rfl) (there_st w6 _ _ rfl R1.out) (size_st R1.out) (all_oneCell_toArray S1.one) ?_; have hx := blk_all (w := w6.alloc (.cells #[.int .i64 0, .int .i64 0, .int .i64 0, .int .i64 0, .int .i64 0, .int .i64 0, .int .i64 0, .int .i64 0, .int .i64 0, .int .i64 0, .int .i64 0, .int .i64 0, .int .i64 0, .int .i64 0, .int .i64 0, .int .i64 0, .int .i64 0, .int .i64 0, .int .i64 0, .int .i64 0] 45)) S1.cells (by rw [St.len R1.out]; rfl) (blk_new w6 _); have hb := below_sets (Nat.le_refl _) S1.cells 0 ((Below.refl w6.heap.size w6).al (o := .cells #[.int .i64 0, .int .i64 0, .int .i64 0, .int .i64 0, .int .i64 0, .int .i64 0, .int .i64 0, .int .i64 0, .int .i64 0, .int .i64 0, .int .i64 0, .int .i64 0, .int .i64 0, .int .i64 0, .int .i64 0, .int .i64 0, .int .i64 0, .int .i64 0, .int .i64 0, .int .i64 0] 45)); generalize World.setCells _ _ _ _ = w7 at hx hb ⊢)
      have HNF2 := Lib.hid (show w6.heap.size ≠ p by have := HL6.out; omega)
      have F2_7 := Lib.hid hx
      have HM7 := Lib.hid (HM6.out.below hb)
      have HW7 := Lib.hid (HW6.out.trans (hb.mono HW6.out.size))
      have HL7 := Lib.hid (HM7.out.vm.lt)
      have F1_7 := Lib.hid (below_blk hb F1_6.out (blk_lt F1_6.out))
      clear HM6 HW6 HL6 F1_6
      clear hb hx
      refine (played_calls W l words fuel _ g B gc HG.out hgl w7 HW7.out p HP.out _ Ac cc HM7.out C N hC2 (by omega)).mono ?_
      rintro y w8 ⟨rfl, hk, hm⟩
      rw [H2.out] at hm
      have HM8 := Lib.hid hm
      have HW8 := Lib.hid (HW7.out.trans (hk.toBelow HW7.out.size (fun z e => by subst e; exact HP.out)))
      have HL8 := Lib.hid (HM8.out.vm.lt)
      have F1_8 := Lib.hid (hk.blk F1_7.out (fun e => HNF1.out e))
      have F2_8 := Lib.hid (hk.blk F2_7.out (fun e => HNF2.out e))
      clear HM7 HW7 HL7 F1_7 F2_7
      clear hk hm
      have R2 := Lib.hid HM8.out.ok.1
      go_wp2_with fail
      refine (HM8.out.now).mono ?_
      rintro y w9 ⟨rfl, hb⟩
      have HM9 := Lib.hid (HM8.out.below hb)
      have HW9 := Lib.hid (HW8.out.trans (hb.mono HW8.out.size))
      have HL9 := Lib.hid (HM9.out.vm.lt)
      have F1_9 := Lib.hid (below_blk hb F1_8.out (blk_lt F1_8.out))
      have F2_9 := Lib.hid (below_blk hb F2_8.out (blk_lt F2_8.out))
      clear HM8 HW8 HL8 F1_8 F2_8
      clear hb
      go_wp2_with (refine wpList_store_mid (by rfl) 45 _ _ (by rfl) w9.heap.size 0 S2.cells.toArray (by rfl) (by rfl) (there_st w9 _ _ rfl R2.out) (size_st R2.out) (all_oneCell_toArray S2.one) ?_; have hx := blk_all (w := w9.alloc (.cells #[.int .i64 0, .int .i64 0, .int .i64 0, .int .i64 0, .int .i64 0, .int .i64 0, .int .i64 0, .int .i64 0, .int .i64 0, .int .i64 0, .int .i64 0, .int .i64 0, .int .i64 0, .int .i64 0, .int .i64 0, .int .i64 0, .int .i64 0, .int .i64 0, .int .i64 0, .int .i64 0] 45)) S2.cells (by rw [St.len R2.out]; rfl) (blk_new w9 _); have hb := below_sets (Nat.le_refl _) S2.cells 0 ((Below.refl w9.heap.size w9).al (o := .cells #[.int .i64 0, .int .i64 0, .int .i64 0, .int .i64 0, .int .i64 0, .int .i64 0, .int .i64 0, .int .i64 0, .int .i64 0, .int .i64 0, .int .i64 0, .int .i64 0, .int .i64 0, .int .i64 0, .int .i64 0, .int .i64 0, .int .i64 0, .int .i64 0, .int .i64 0, .int .i64 0] 45)); generalize World.setCells _ _ _ _ = w10 at hx hb ⊢)
      have HNF3 := Lib.hid (show w9.heap.size ≠ p by have := HL9.out; omega)
      have F3_10 := Lib.hid hx
      have HM10 := Lib.hid (HM9.out.below hb)
      have HW10 := Lib.hid (HW9.out.trans (hb.mono HW9.out.size))
      have HL10 := Lib.hid (HM10.out.vm.lt)
      have F1_10 := Lib.hid (below_blk hb F1_9.out (blk_lt F1_9.out))
      have F2_10 := Lib.hid (below_blk hb F2_9.out (blk_lt F2_9.out))
      clear HM9 HW9 HL9 F1_9 F2_9
      clear hb hx
      have hrg := st_range F2_10.out
      refine wp_region_noPanic ?_
      refine wp_region_held_drew (S := fun V => V.rangeAt w6.heap.size 0 S1.cells) (by kernel_rfl) (range_drewN hrg 1) (fun hHeld => ?_)
      refine wpAnyH_take (i := 0) (oi := ⟨some 82, _, _, _, _, _⟩) (v := .pointer (some ⟨p, 0, none⟩)) rfl (by kernel_rfl) (by kernel_rfl) (by kernel_rfl) (fun _ _ _ h => h) (Or.inl ⟨by rfl, fun V _ => by go_simp⟩) (by assumption) ?_
      try simp only [Act.put, List.setIfInBounds_toArray, List.set_cons_zero, List.set_cons_succ]
      refine wpAnyH_take (i := 1) (oi := ⟨some 83, _, _, _, _, _⟩) (v := .agg S1.cells.toArray) rfl (by kernel_rfl) (by kernel_rfl) (by kernel_rfl) (fun _ _ _ h => h) (yieldsIf_load_mid (by rfl) _ _ rfl _ _ rfl _ _ (fun V hV => hV) Try.underlying45 rfl (size_sl R1.out)) (by assumption) ?_
      try simp only [Act.put, List.setIfInBounds_toArray, List.set_cons_zero, List.set_cons_succ]
      refine wpAnyH_ready (rs := [2]) (by kernel_rfl) (by simp) ?_
      refine AllReadyH.cons (o := ⟨some 84, _, _, _, _, _⟩) rfl (fun K hK => ?_) AllReadyH.nil
      go_simp
      refine (HM10.out.drew.setS S1 OS1.out OO1.out).mono ?_
      rintro y w11 ⟨rfl, hk, hm⟩
      refine hK.out _ _ (range_keep hk (fun e => HNF2.out e) hHeld) (fun hHeld' => ?_)
      clear hK K hHeld
      have hHeld := hHeld'
      clear hHeld'
      try simp only [Act.put, List.setIfInBounds_toArray, List.set_cons_zero, List.set_cons_succ]
      refine wpAnyH_take (i := 3) (oi := ⟨some 85, _, _, _, _, _⟩) (v := .bool false) rfl (by kernel_rfl) (by kernel_rfl) (by kernel_rfl) (fun _ _ _ h => h) (Or.inl ⟨by rfl, fun V _ => by go_simp⟩) (by assumption) ?_
      try simp only [Act.put, List.setIfInBounds_toArray, List.set_cons_zero, List.set_cons_succ]
      refine wpAnyH_take (i := 4) (oi := ⟨some 86, _, _, _, _, _⟩) (v := .bool false) rfl (by kernel_rfl) (by kernel_rfl) (by kernel_rfl) (fun _ _ _ h => h) (Or.inl ⟨by rfl, fun V _ => by go_simp⟩) (by assumption) ?_
      try simp only [Act.put, List.setIfInBounds_toArray, List.set_cons_zero, List.set_cons_succ]
      refine wpAnyH_take (i := 5) (oi := ⟨some 87, _, _, _, _, _⟩) (v := .pointer (some ⟨p, 0, none⟩)) rfl (by kernel_rfl) (by kernel_rfl) (by kernel_rfl) (fun _ _ _ h => h) (Or.inl ⟨by rfl, fun V _ => by go_simp⟩) (by assumption) ?_
      try simp only [Act.put, List.setIfInBounds_toArray, List.set_cons_zero, List.set_cons_succ]
      refine wpAnyH_take (i := 7) (oi := ⟨some 89, _, _, _, _, _⟩) (v := .agg S1.cells.toArray) rfl (by kernel_rfl) (by kernel_rfl) (by kernel_rfl) (fun _ _ _ h => h) (yieldsIf_load_mid (by rfl) _ _ rfl _ _ rfl _ _ (fun V hV => hV) Try.underlying45 rfl (size_sl R1.out)) (by assumption) ?_
      try simp only [Act.put, List.setIfInBounds_toArray, List.set_cons_zero, List.set_cons_succ]
      refine wpAnyH_ready (rs := [6]) (by kernel_rfl) (by simp) ?_
      refine AllReadyH.cons (o := ⟨some 88, _, _, _, _, _⟩) rfl (fun K hK => ?_) AllReadyH.nil
      go_simp
      refine (hm.now).mono ?_
      rintro y w12 ⟨rfl, hb⟩
      refine hK.out _ _ (range_below hb hHeld) (fun hHeld' => ?_)
      clear hK K hHeld
      have hHeld := hHeld'
      clear hHeld'
      try simp only [Act.put, List.setIfInBounds_toArray, List.set_cons_zero, List.set_cons_succ]
      have he := state_eq S1 R1.out
      refine wpAnyH_take (i := 8) (oi := ⟨some 90, _, _, _, _, _⟩) (v := .bool false) rfl (by kernel_rfl) (by kernel_rfl) (by kernel_rfl) (fun _ _ _ h => h) (Or.inl ⟨by rfl, fun V _ => by go_simp⟩) (by assumption) ?_
      try simp only [Act.put, List.setIfInBounds_toArray, List.set_cons_zero, List.set_cons_succ]
      clear he
      refine wpAnyH_take (i := 9) (oi := ⟨some 91, _, _, _, _, _⟩) (v := .bool false) rfl (by kernel_rfl) (by kernel_rfl) (by kernel_rfl) (fun _ _ _ h => h) (Or.inl ⟨by rfl, fun V _ => by go_simp⟩) (by assumption) ?_
      try simp only [Act.put, List.setIfInBounds_toArray, List.set_cons_zero, List.set_cons_succ]
      refine wpAnyH_done (by kernel_rfl) ?_ _
      refine NoPanic.normal ?_
      have hk' := Keep.trans (O := fun k => k = p) (Keep.drew (Keep.refl _ w10)) hk (fun _ _ e => e)
      have HM11 := Lib.hid hm
      have HW11 := Lib.hid (HW10.out.trans (hk'.toBelow HW10.out.size (fun z e => by subst e; exact HP.out)))
      have HL11 := Lib.hid (HM11.out.vm.lt)
      have F1_11 := Lib.hid (hk'.blk F1_10.out (fun e => HNF1.out e))
      have F2_11 := Lib.hid (hk'.blk F2_10.out (fun e => HNF2.out e))
      have F3_11 := Lib.hid (hk'.blk F3_10.out (fun e => HNF3.out e))
      clear HM10 HW10 HL10 F1_10 F2_10 F3_10
      have HM12 := Lib.hid (HM11.out.below hb)
      have HW12 := Lib.hid (HW11.out.trans (hb.mono HW11.out.size))
      have HL12 := Lib.hid (HM12.out.vm.lt)
      have F1_12 := Lib.hid (below_blk hb F1_11.out (blk_lt F1_11.out))
      have F2_12 := Lib.hid (below_blk hb F2_11.out (blk_lt F2_11.out))
      have F3_12 := Lib.hid (below_blk hb F3_11.out (blk_lt F3_11.out))
      clear HM11 HW11 HL11 F1_11 F2_11 F3_11
      clear hk hk' hm hb hrg hHeld
      go_wp2_with fail
      refine (played_calls W l words fuel _ g B gc HG.out hgl w12 HW12.out p HP.out _ Ac cc HM12.out C N hC2 (by omega)).mono ?_
      rintro y w13 ⟨rfl, hk, hm⟩
      rw [H2.out] at hm
      have HM13 := Lib.hid hm
      have HW13 := Lib.hid (HW12.out.trans (hk.toBelow HW12.out.size (fun z e => by subst e; exact HP.out)))
      have HL13 := Lib.hid (HM13.out.vm.lt)
      have F1_13 := Lib.hid (hk.blk F1_12.out (fun e => HNF1.out e))
      have F2_13 := Lib.hid (hk.blk F2_12.out (fun e => HNF2.out e))
      have F3_13 := Lib.hid (hk.blk F3_12.out (fun e => HNF3.out e))
      clear HM12 HW12 HL12 F1_12 F2_12 F3_12
      clear hk hm
      go_wp2_with fail
      have hrg := st_range F3_13.out
      refine wp_region_noPanic ?_
      refine wp_region_held_drew (S := fun V => V.rangeAt w9.heap.size 0 S2.cells) (by kernel_rfl) (range_drewN hrg 1) (fun hHeld => ?_)
      refine wpAnyH_take (i := 0) (oi := ⟨some 97, _, _, _, _, _⟩) (v := .pointer (some ⟨p, 0, none⟩)) rfl (by kernel_rfl) (by kernel_rfl) (by kernel_rfl) (fun _ _ _ h => h) (Or.inl ⟨by rfl, fun V _ => by go_simp⟩) (by assumption) ?_
      try simp only [Act.put, List.setIfInBounds_toArray, List.set_cons_zero, List.set_cons_succ]
      refine wpAnyH_take (i := 2) (oi := ⟨some 99, _, _, _, _, _⟩) (v := .agg S2.cells.toArray) rfl (by kernel_rfl) (by kernel_rfl) (by kernel_rfl) (fun _ _ _ h => h) (yieldsIf_load_mid (by rfl) _ _ rfl _ _ rfl _ _ (fun V hV => hV) Try.underlying45 rfl (size_sl R2.out)) (by assumption) ?_
      try simp only [Act.put, List.setIfInBounds_toArray, List.set_cons_zero, List.set_cons_succ]
      refine wpAnyH_ready (rs := [1]) (by kernel_rfl) (by simp) ?_
      refine AllReadyH.cons (o := ⟨some 98, _, _, _, _, _⟩) rfl (fun K hK => ?_) AllReadyH.nil
      go_simp
      refine (HM13.out.drew.now).mono ?_
      rintro y w14 ⟨rfl, hb⟩
      refine hK.out _ _ (range_below hb hHeld) (fun hHeld' => ?_)
      clear hK K hHeld
      have hHeld := hHeld'
      clear hHeld'
      try simp only [Act.put, List.setIfInBounds_toArray, List.set_cons_zero, List.set_cons_succ]
      have he := state_eq S2 R2.out
      refine wpAnyH_take (i := 3) (oi := ⟨some 100, _, _, _, _, _⟩) (v := .bool false) rfl (by kernel_rfl) (by kernel_rfl) (by kernel_rfl) (fun _ _ _ h => h) (Or.inl ⟨by rfl, fun V _ => by go_simp⟩) (by assumption) ?_
      try simp only [Act.put, List.setIfInBounds_toArray, List.set_cons_zero, List.set_cons_succ]
      clear he
      refine wpAnyH_done (by kernel_rfl) ?_ _
      refine NoPanic.normal ?_
      have hb' := below_fromdrew hb
      have HM14 := Lib.hid (HM13.out.below hb')
      have HW14 := Lib.hid (HW13.out.trans (hb'.mono HW13.out.size))
      have HL14 := Lib.hid (HM14.out.vm.lt)
      have F1_14 := Lib.hid (below_blk hb' F1_13.out (blk_lt F1_13.out))
      have F2_14 := Lib.hid (below_blk hb' F2_13.out (blk_lt F2_13.out))
      have F3_14 := Lib.hid (below_blk hb' F3_13.out (blk_lt F3_13.out))
      clear HM13 HW13 HL13 F1_13 F2_13 F3_13
      clear hb hb' hrg hHeld
      go_wp2_with fail
      refine (HM14.out.resetS OS0.out).mono ?_
      rintro y w15 ⟨rfl, hk, hm⟩
      have HM15 := Lib.hid hm
      have HW15 := Lib.hid (HW14.out.trans (hk.toBelow HW14.out.size (fun z e => by subst e; exact HP.out)))
      have HL15 := Lib.hid (HM15.out.vm.lt)
      have F1_15 := Lib.hid (hk.blk F1_14.out (fun e => HNF1.out e))
      have F2_15 := Lib.hid (hk.blk F2_14.out (fun e => HNF2.out e))
      have F3_15 := Lib.hid (hk.blk F3_14.out (fun e => HNF3.out e))
      clear HM14 HW14 HL14 F1_14 F2_14 F3_14
      clear hk hm
      go_wp2_with fail
      have hrg := st_range F1_15.out
      refine wp_region_noPanic ?_
      refine wp_region_held_drew (S := fun V => V.rangeAt w3.heap.size 0 (s0 n i k).cells) (by kernel_rfl) (range_drewN hrg 1) (fun hHeld => ?_)
      refine wpAnyH_take (i := 0) (oi := ⟨some 103, _, _, _, _, _⟩) (v := .pointer (some ⟨p, 0, none⟩)) rfl (by kernel_rfl) (by kernel_rfl) (by kernel_rfl) (fun _ _ _ h => h) (Or.inl ⟨by rfl, fun V _ => by go_simp⟩) (by assumption) ?_
      try simp only [Act.put, List.setIfInBounds_toArray, List.set_cons_zero, List.set_cons_succ]
      refine wpAnyH_take (i := 2) (oi := ⟨some 105, _, _, _, _, _⟩) (v := .agg (s0 n i k).cells.toArray) rfl (by kernel_rfl) (by kernel_rfl) (by kernel_rfl) (fun _ _ _ h => h) (yieldsIf_load_mid (by rfl) _ _ rfl _ _ rfl _ _ (fun V hV => hV) Try.underlying45 rfl (size_sl (rfl : (s0 n i k).rg.length = 16))) (by assumption) ?_
      try simp only [Act.put, List.setIfInBounds_toArray, List.set_cons_zero, List.set_cons_succ]
      refine wpAnyH_ready (rs := [1]) (by kernel_rfl) (by simp) ?_
      refine AllReadyH.cons (o := ⟨some 104, _, _, _, _, _⟩) rfl (fun K hK => ?_) AllReadyH.nil
      go_simp
      refine (HM15.out.drew.now).mono ?_
      rintro y w16 ⟨rfl, hb⟩
      refine hK.out _ _ (range_below hb hHeld) (fun hHeld' => ?_)
      clear hK K hHeld
      have hHeld := hHeld'
      clear hHeld'
      try simp only [Act.put, List.setIfInBounds_toArray, List.set_cons_zero, List.set_cons_succ]
      have he := state_eq (s0 n i k) (rfl : (s0 n i k).rg.length = 16)
      refine wpAnyH_take (i := 3) (oi := ⟨some 106, _, _, _, _, _⟩) (v := .bool false) rfl (by kernel_rfl) (by kernel_rfl) (by kernel_rfl) (fun _ _ _ h => h) (Or.inl ⟨by rfl, fun V _ => by go_simp⟩) (by assumption) ?_
      try simp only [Act.put, List.setIfInBounds_toArray, List.set_cons_zero, List.set_cons_succ]
      clear he
      refine wpAnyH_done (by kernel_rfl) ?_ _
      refine NoPanic.normal ?_
      have hb' := below_fromdrew hb
      have HM16 := Lib.hid (HM15.out.below hb')
      have HW16 := Lib.hid (HW15.out.trans (hb'.mono HW15.out.size))
      have HL16 := Lib.hid (HM16.out.vm.lt)
      have F1_16 := Lib.hid (below_blk hb' F1_15.out (blk_lt F1_15.out))
      have F2_16 := Lib.hid (below_blk hb' F2_15.out (blk_lt F2_15.out))
      have F3_16 := Lib.hid (below_blk hb' F3_15.out (blk_lt F3_15.out))
      clear HM15 HW15 HL15 F1_15 F2_15 F3_15
      clear hb hb' hrg hHeld
      go_wp2_with fail
      refine (played_calls W l words fuel _ g B gc HG.out hgl w16 HW16.out p HP.out _ Ac cc HM16.out 0 N (Nat.zero_le _) (by omega)).mono ?_
      rintro y w17 ⟨rfl, hk, hm⟩
      rw [H3.out] at hm
      have HM17 := Lib.hid hm
      have HW17 := Lib.hid (HW16.out.trans (hk.toBelow HW16.out.size (fun z e => by subst e; exact HP.out)))
      have HL17 := Lib.hid (HM17.out.vm.lt)
      have F1_17 := Lib.hid (hk.blk F1_16.out (fun e => HNF1.out e))
      have F2_17 := Lib.hid (hk.blk F2_16.out (fun e => HNF2.out e))
      have F3_17 := Lib.hid (hk.blk F3_16.out (fun e => HNF3.out e))
      clear HM16 HW16 HL16 F1_16 F2_16 F3_16
      clear hk hm
      go_wp2_with fail
      have hrg := st_range F3_17.out
      refine wp_region_noPanic ?_
      refine wp_region_held_drew (S := fun V => V.rangeAt w9.heap.size 0 S2.cells) (by kernel_rfl) (range_drewN hrg 1) (fun hHeld => ?_)
      refine wpAnyH_take (i := 0) (oi := ⟨some 111, _, _, _, _, _⟩) (v := .pointer (some ⟨p, 0, none⟩)) rfl (by kernel_rfl) (by kernel_rfl) (by kernel_rfl) (fun _ _ _ h => h) (Or.inl ⟨by rfl, fun V _ => by go_simp⟩) (by assumption) ?_
      try simp only [Act.put, List.setIfInBounds_toArray, List.set_cons_zero, List.set_cons_succ]
      refine wpAnyH_take (i := 2) (oi := ⟨some 113, _, _, _, _, _⟩) (v := .agg S2.cells.toArray) rfl (by kernel_rfl) (by kernel_rfl) (by kernel_rfl) (fun _ _ _ h => h) (yieldsIf_load_mid (by rfl) _ _ rfl _ _ rfl _ _ (fun V hV => hV) Try.underlying45 rfl (size_sl R2.out)) (by assumption) ?_
      try simp only [Act.put, List.setIfInBounds_toArray, List.set_cons_zero, List.set_cons_succ]
      refine wpAnyH_ready (rs := [1]) (by kernel_rfl) (by simp) ?_
      refine AllReadyH.cons (o := ⟨some 112, _, _, _, _, _⟩) rfl (fun K hK => ?_) AllReadyH.nil
      go_simp
      refine (HM17.out.drew.now).mono ?_
      rintro y w18 ⟨rfl, hb⟩
      refine hK.out _ _ (range_below hb hHeld) (fun hHeld' => ?_)
      clear hK K hHeld
      have hHeld := hHeld'
      clear hHeld'
      try simp only [Act.put, List.setIfInBounds_toArray, List.set_cons_zero, List.set_cons_succ]
      have he := state_eq S2 R2.out
      refine wpAnyH_take (i := 3) (oi := ⟨some 114, _, _, _, _, _⟩) (v := .bool true) rfl (by kernel_rfl) (by kernel_rfl) (by kernel_rfl) (fun _ _ _ h => h) (Or.inl ⟨by rfl, fun V _ => by go_simp⟩) (by assumption) ?_
      try simp only [Act.put, List.setIfInBounds_toArray, List.set_cons_zero, List.set_cons_succ]
      clear he
      refine wpAnyH_take (i := 4) (oi := ⟨some 115, _, _, _, _, _⟩) (v := .bool true) rfl (by kernel_rfl) (by kernel_rfl) (by kernel_rfl) (fun _ _ _ h => h) (Or.inl ⟨by rfl, fun V _ => by go_simp⟩) (by assumption) ?_
      try simp only [Act.put, List.setIfInBounds_toArray, List.set_cons_zero, List.set_cons_succ]
      refine wpAnyH_ready (rs := [5]) (by kernel_rfl) (by simp) ?_
      refine AllReadyH.cons (o := ⟨some 116, _, _, _, _, _⟩) rfl (fun K hK => ?_) AllReadyH.nil
      go_simp
      refine (alive_calls _).mono ?_
      rintro y w19 ⟨rfl, hb2⟩
      refine hK.out _ _ (range_below hb2 hHeld) (fun hHeld' => ?_)
      clear hK K hHeld
      have hHeld := hHeld'
      clear hHeld'
      try simp only [Act.put, List.setIfInBounds_toArray, List.set_cons_zero, List.set_cons_succ]
      refine wpAnyH_take (i := 6) (oi := ⟨some 117, _, _, _, _, _⟩) (v := .bool true) rfl (by kernel_rfl) (by kernel_rfl) (by kernel_rfl) (fun _ _ _ h => h) (Or.inl ⟨by rfl, fun V _ => by go_simp⟩) (by assumption) ?_
      try simp only [Act.put, List.setIfInBounds_toArray, List.set_cons_zero, List.set_cons_succ]
      refine wpAnyH_take (i := 7) (oi := ⟨some 2, _, _, _, _, _⟩) (v := .bool true) rfl (by kernel_rfl) (by kernel_rfl) (by kernel_rfl) (fun _ _ _ h => h) (Or.inl ⟨by rfl, fun V _ => by go_simp⟩) (by assumption) ?_
      try simp only [Act.put, List.setIfInBounds_toArray, List.set_cons_zero, List.set_cons_succ]
      refine wpAnyH_done (by kernel_rfl) ?_ _
      refine NoPanic.normal ?_
      have hfin := HW17.out.trans ((below_fromdrew hb).mono HW17.out.size)
      have hfin2 := hfin.trans (hb2.mono hfin.size)
      go_wp2
      go_ret
      exact ⟨rfl, hfin2⟩
    · obtain ⟨E, hE⟩ : ∃ E, newE l cells words fuel = E := ⟨_, rfl⟩
      rw [hE] at hz
      have hE0 : (E == 0) = false := by simp [hz]
      have HE := Lib.hid hE
      have HZ := Lib.hid hz
      clear hz hE
      go_enter Try.func5, Try.ntmps5
      go_wp2
      rw [HW0.out]
      have f0 : w0.cell? ⟨W.heap.size, 0, none⟩ = some (.slice A l.length c) := by rw [blk_cell HX0.out]; rfl
      have hn0 := World.new_ne w0 _ f0
      have f1 : w0.cell? ⟨W.heap.size, 1, none⟩ = some (.int .i64 cells) := by rw [blk_cell HX0.out]; rfl
      have hn1 := World.new_ne w0 _ f1
      have f2 : w0.cell? ⟨W.heap.size, 2, none⟩ = some (.int .i64 words) := by rw [blk_cell HX0.out]; rfl
      have hn2 := World.new_ne w0 _ f2
      have f3 : w0.cell? ⟨W.heap.size, 3, none⟩ = some (.int .i64 fuel) := by rw [blk_cell HX0.out]; rfl
      have hn3 := World.new_ne w0 _ f3
      have f4 : w0.cell? ⟨W.heap.size, 4, none⟩ = some (.int .i64 n) := by rw [blk_cell HX0.out]; rfl
      have hn4 := World.new_ne w0 _ f4
      have f5 : w0.cell? ⟨W.heap.size, 5, none⟩ = some (.int .i64 i) := by rw [blk_cell HX0.out]; rfl
      have hn5 := World.new_ne w0 _ f5
      have f6 : w0.cell? ⟨W.heap.size, 6, none⟩ = some (.int .i64 k) := by rw [blk_cell HX0.out]; rfl
      have hn6 := World.new_ne w0 _ f6
      have f7 : w0.cell? ⟨W.heap.size, 7, none⟩ = some (.slice B g.length gc) := by rw [blk_cell HX0.out]; rfl
      have hn7 := World.new_ne w0 _ f7
      have f8 : w0.cell? ⟨W.heap.size, 8, none⟩ = some (.int .i64 steps) := by rw [blk_cell HX0.out]; rfl
      have hn8 := World.new_ne w0 _ f8
      have f9 : w0.cell? ⟨W.heap.size, 9, none⟩ = some (.int .i64 cut) := by rw [blk_cell HX0.out]; rfl
      have hn9 := World.new_ne w0 _ f9
      go_region_held3 (fun V => V.cell? ⟨W.heap.size, 0, none⟩ = some (.slice A l.length c) ∧ V.cell? ⟨W.heap.size, 1, none⟩ = some (.int .i64 cells) ∧ V.cell? ⟨W.heap.size, 2, none⟩ = some (.int .i64 words) ∧ V.cell? ⟨W.heap.size, 3, none⟩ = some (.int .i64 fuel) ∧ V.cell? ⟨W.heap.size, 4, none⟩ = some (.int .i64 n) ∧ V.cell? ⟨W.heap.size, 5, none⟩ = some (.int .i64 i) ∧ V.cell? ⟨W.heap.size, 6, none⟩ = some (.int .i64 k) ∧ V.cell? ⟨W.heap.size, 7, none⟩ = some (.slice B g.length gc) ∧ V.cell? ⟨W.heap.size, 8, none⟩ = some (.int .i64 steps) ∧ V.cell? ⟨W.heap.size, 9, none⟩ = some (.int .i64 cut)) (go_keep) (fail)
      clear f0 hn0 f1 hn1 f2 hn2 f3 hn3 f4 hn4 f5 hn5 f6 hn6 f7 hn7 f8 hn8 f9 hn9
      have hb1 : Below w0.heap.size w0 (w0.alloc (.cells #[.slice A l.length c, .int .i64 cells, .int .i64 words, .int .i64 fuel, .int .i64 n, .int .i64 i, .int .i64 k] 24)).drew := ((Below.refl w0.heap.size w0).al).drew
      have hx1 : (w0.alloc (.cells #[.slice A l.length c, .int .i64 cells, .int .i64 words, .int .i64 fuel, .int .i64 n, .int .i64 i, .int .i64 k] 24)).drew.heap[w0.heap.size]? = some (.cells #[.slice A l.length c, .int .i64 cells, .int .i64 words, .int .i64 fuel, .int .i64 n, .int .i64 i, .int .i64 k] 24 (0, 0)) := blk_new w0 _
      generalize (w0.alloc (.cells #[.slice A l.length c, .int .i64 cells, .int .i64 words, .int .i64 fuel, .int .i64 n, .int .i64 i, .int .i64 k] 24)).drew = w1 at *
      have f0 := blk_cell hx1 0
      have f1 := blk_cell hx1 1
      have f2 := blk_cell hx1 2
      have f3 := blk_cell hx1 3
      have f4 := blk_cell hx1 4
      have f5 := blk_cell hx1 5
      have f6 := blk_cell hx1 6
      have HW1 := Lib.hid (HB0.out.trans (hb1.mono HB0.out.size))
      clear hb1 hx1
      go_wp2_with fail
      refine (vmNew_calls W l A c cells words fuel n i k HRD.out (by omega) w1 HW1.out).mono ?_
      intro e1 w2 hd
      obtain ⟨hb2, hd⟩ := hd
      rw [HE.out, if_neg HZ.out] at hd
      subst hd
      have HW2 := Lib.hid (HW1.out.trans (hb2.mono HW1.out.size))
      clear hb2
      go_wp2_with fail
      refine (alive_calls _).mono ?_
      rintro y w3 ⟨rfl, hb3⟩
      go_wp2
      go_ret
      exact ⟨rfl, HW2.out.trans (hb3.mono HW2.out.size)⟩
end Go.Proofs.Ytnikcdcaaeljmaa.My
