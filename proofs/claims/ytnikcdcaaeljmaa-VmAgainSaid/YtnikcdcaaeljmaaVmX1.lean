/- The law VmSets, walked: just such states can be set as may be. Conditions: the text lies in memory, the state has sixteen registers. -/
import Derived.Test.YtnikcdcaaeljmaaVmPair
namespace Go.Proofs.Ytnikcdcaaeljmaa.My
open Go.RowKit
set_option linter.unusedVariables false
set_option linter.unusedSimpArgs false
theorem Mach.drewN {w : World} {p : Nat} {l : List Ins} {words fuel : Int} {first : List Value} {s : St} {Ac : Option Addr} {cc : Nat} (h : Mach w p l words fuel first s Ac cc) (m : Nat) : Mach (w.drewN m) p l words fuel first s Ac cc := ⟨h.vm, h.row, h.ne, h.good, h.ok, h.fuel⟩
theorem Mach.drew {w : World} {p : Nat} {l : List Ins} {words fuel : Int} {first : List Value} {s : St} {Ac : Option Addr} {cc : Nat} (h : Mach w p l words fuel first s Ac cc) : Mach w.drew p l words fuel first s Ac cc := ⟨h.vm, h.row, h.ne, h.good, h.ok, h.fuel⟩
theorem range_below {w w1 : World} {b o : Nat} {cs : List Value} (hb : Below w.heap.size w w1) (h : w.rangeAt b o cs) : w1.rangeAt b o cs := fun j v hv => hb.cellOf (h j v hv)
theorem St.lit {s : St} (h : s.rg.length = 16) : s.cells.toArray = #[.int .i64 (St.reg s 0), .int .i64 (St.reg s 1), .int .i64 (St.reg s 2), .int .i64 (St.reg s 3), .int .i64 (St.reg s 4), .int .i64 (St.reg s 5), .int .i64 (St.reg s 6), .int .i64 (St.reg s 7), .int .i64 (St.reg s 8), .int .i64 (St.reg s 9), .int .i64 (St.reg s 10), .int .i64 (St.reg s 11), .int .i64 (St.reg s 12), .int .i64 (St.reg s 13), .int .i64 (St.reg s 14), .int .i64 (St.reg s 15), .int .i64 (St.at0 s), .int .i64 (St.steps s), .int .i64 (St.over s), .int .i64 (St.value s)] := by
  obtain ⟨rg, a, b, c, d⟩ := s
  simp only at h
  match rg, h with
  | [r0, r1, r2, r3, r4, r5, r6, r7, r8, r9, r10, r11, r12, r13, r14, r15], _ => rfl
theorem info_state : (Try.prog.info? 45).map (·.size) = some 20 := by kernel_rfl
theorem st_range {w : World} {g : Nat} {s : St} {t : TypeId} (h : w.heap[g]? = some (.cells s.cells.toArray t (0, 0))) : w.rangeAt g 0 s.cells := range_at h 0 _ (by simp)
set_option maxRecDepth 100000 in
set_option maxHeartbeats 4000000 in
theorem vmSets_calls (l : List Ins) (A : Option Addr) (c : Nat) (cells words fuel n i k : Int) (s : St) (hr : s.rg.length = 16) (W : World) (hrd : insRow W l A) (hlm : l.length ≤ maxLen) :
    Calls Try.prog 4 #[.agg #[.slice A l.length c, .int .i64 cells, .int .i64 words, .int .i64 fuel, .int .i64 n, .int .i64 i, .int .i64 k], .agg s.cells.toArray] W fun e W' => e = .returned (.bool true) ∧ Below W.heap.size W W' := by
  unfold maxLen at hlm
  have HR := Lib.hid hr
  have HRD := Lib.hid hrd
  have hE := state_eq s hr
  have HE := Lib.hid hE
  have HSL := Lib.hid (St.len hr)
  clear hr hrd hE
  by_cases hl : 1000 < l.length
  · have hl' : (l.length : Int) > 1000 := by omega
    go_enter Try.func4, Try.ntmps4
    go_wp2
    go_ret
    exact ⟨rfl, ((Below.refl _ _).al).al⟩
  · have hl' : ¬ ((l.length : Int) > 1000) := by omega
    go_enter Try.func4, Try.ntmps4
    go_wp2_with fail
    have hb0 : Below W.heap.size W ((W.alloc (.cells (caseCells A l.length c cells words fuel n i k) 24)).alloc (.cells s.cells.toArray 45)) := ((Below.refl _ _).al).al
    have hx0 := blk_new (W.alloc (.cells (caseCells A l.length c cells words fuel n i k) 24)) (.cells s.cells.toArray 45)
    rw [size_al] at hx0
    refine (made_calls W l A c cells words fuel n i k HRD.out (by omega) _ hb0).mono ?_
    intro e1 w1 hd
    obtain ⟨hb1, hd⟩ := hd
    have hx1 := below_blk hb1 hx0 (blk_lt hx0)
    have HX1 := Lib.hid hx1
    have HB1 := Lib.hid (hb0.trans (hb1.mono hb0.size))
    have HS0 := Lib.hid (size_al (W.alloc (.cells (caseCells A l.length c cells words fuel n i k) 24)) (.cells s.cells.toArray 45))
    have HS1 := Lib.hid (size_al W (.cells (caseCells A l.length c cells words fuel n i k) 24))
    have HBB := Lib.hid hb1.size
    clear hb0 hx0 hb1 hx1
    by_cases hz : newE l cells words fuel = 0
    · rw [if_pos hz] at hd
      obtain ⟨p, Ac, cc, R, cr, rfl, hp, hm, hrow⟩ := hd
      have HM1 := Lib.hid hm
      have HP := Lib.hid (show W.heap.size + 1 < p by have h0 := HS0.out; have h1 := HS1.out; omega)
      have HG := Lib.hid (newE_good hz)
      clear hz hp hm hrow
      have f16 := fun o => (blk_cell (blk_alloc HX1.out o) 16).trans (by simpa using St.cell16 HR.out)
      have f17 := fun o => (blk_cell (blk_alloc HX1.out o) 17).trans (by simpa using St.cell17 HR.out)
      have f18 := fun o => (blk_cell (blk_alloc HX1.out o) 18).trans (by simpa using St.cell18 HR.out)
      have HQ := Lib.hid (show ∀ b, maySet l.length fuel s.at0 s.steps s.over = b → (decide (0 ≤ s.at0) && decide (s.at0 < l.length) && decide (0 ≤ s.steps) && decide (s.steps ≤ fuel) && decide (0 ≤ s.over) && decide (s.over ≤ 5)) = b from fun b hb => hb)
      by_cases t0 : 0 ≤ s.at0
      · by_cases t1 : s.at0 < (l.length : Int)
        · by_cases t2 : 0 ≤ s.steps
          · by_cases t3 : s.steps ≤ fuel
            · by_cases t4 : 0 ≤ s.over
              · by_cases t5 : s.over ≤ 5
                · have HMS := Lib.hid (show maySet l.length fuel s.at0 s.steps s.over = true by simp [maySet]; omega)
                  go_wp2_with fail
                  clear f16 f17 f18
                  have hm2 := HM1.out.below ((Below.refl w1.heap.size w1).al (o := .cells #[.slice A l.length c, .int .i64 words, .int .i64 fuel, .slice R 16 cr, .int .i64 0, .int .i64 0, .int .i64 0, .int .i64 0] 29))
                  have hx2 := blk_alloc HX1.out (.cells #[.slice A l.length c, .int .i64 words, .int .i64 fuel, .slice R 16 cr, .int .i64 0, .int .i64 0, .int .i64 0, .int .i64 0] 29)
                  have hb2 := HB1.out.al (o := .cells #[.slice A l.length c, .int .i64 words, .int .i64 fuel, .slice R 16 cr, .int .i64 0, .int .i64 0, .int .i64 0, .int .i64 0] 29)
                  generalize w1.alloc (.cells #[.slice A l.length c, .int .i64 words, .int .i64 fuel, .slice R 16 cr, .int .i64 0, .int .i64 0, .int .i64 0, .int .i64 0] 29) = w2 at hm2 hx2 hb2 ⊢
                  refine hm2.now.mono ?_
                  rintro y w3 ⟨rfl, hb3⟩
                  have HM3 := Lib.hid (hm2.below hb3)
                  have HX3 := Lib.hid (below_blk hb3 hx2 (blk_lt hx2))
                  have HB3 := Lib.hid (hb2.trans (hb3.mono hb2.size))
                  clear hm2 hx2 hb2 hb3
                  have HT := Lib.hid (fun Z (hZ : Z.size = 20) => there_new (w := w3) (arr := Z) (t := 45) 20 (by omega))
                  go_wp2_with (first
                    | (refine wpList_load_mid (by rfl) 45 _ (by rfl) (W.heap.size + 1) 0 (by rfl) s.cells _ HRG.out Try.underlying45 rfl (by rw [HSL.out]; exact info_state) ?_)
                    | (refine wpList_store_mid (by rfl) 45 _ _ (by rfl) w3.heap.size 0 (s0 n i k).cells.toArray (by rfl) (by rfl) (HT.out _ rfl) info_state (all_oneCell_toArray (s0 n i k).one) ?_; have hx4 := blk_all (w := w3.alloc (.cells #[.int .i64 0, .int .i64 0, .int .i64 0, .int .i64 0, .int .i64 0, .int .i64 0, .int .i64 0, .int .i64 0, .int .i64 0, .int .i64 0, .int .i64 0, .int .i64 0, .int .i64 0, .int .i64 0, .int .i64 0, .int .i64 0, .int .i64 0, .int .i64 0, .int .i64 0, .int .i64 0] 45)) (s0 n i k).cells (by rfl) (blk_new w3 _); have hb4 := below_sets (Nat.le_refl _) (s0 n i k).cells 0 ((Below.refl w3.heap.size w3).al (o := .cells #[.int .i64 0, .int .i64 0, .int .i64 0, .int .i64 0, .int .i64 0, .int .i64 0, .int .i64 0, .int .i64 0, .int .i64 0, .int .i64 0, .int .i64 0, .int .i64 0, .int .i64 0, .int .i64 0, .int .i64 0, .int .i64 0, .int .i64 0, .int .i64 0, .int .i64 0, .int .i64 0] 45)); generalize World.setCells _ _ _ _ = w4 at hx4 hb4 ⊢; have HX4 := Lib.hid hx4; have HB4 := Lib.hid hb4; have HM4 := Lib.hid (HM3.out.below hb4); have HX3b := Lib.hid (below_blk hb4 HX3.out (blk_lt HX3.out)); have HRG := Lib.hid (st_range (below_blk hb4 HX3.out (blk_lt HX3.out))); clear hx4 hb4))
                  refine (set_calls w4 p (s0 n i k).cells (s0 n i k).cells (s.rg.map (Value.int .i64)) Ac l.length cc words fuel s.at0 s.steps s.over s.value (by simp [HR.out]) (by intro u hu; obtain ⟨v, _, rfl⟩ := List.mem_map.1 hu; rfl) (HM4.out.vm)).mono ?_
                  intro e5 w5 hd5
                  obtain ⟨he5, hk5, hv5⟩ := hd5
                  rw [HMS.out] at he5 hv5
                  subst he5
                  have hx5 := hk5.blk HX3b.out (by have := HP.out; omega)
                  have hB4 := HB3.out.trans (HB4.out.mono HB3.out.size)
                  have HB5 := Lib.hid (hB4.trans (hk5.toBelow hB4.size (fun q e => by subst e; have := HP.out; omega)))
                  have HM5 := Lib.hid (show Mach w5 p l words fuel (s0 n i k).cells s Ac cc from ⟨hv5, HM4.out.row.far hk5 (fun b o hb e => by have := HM4.out.ne b o hb; omega), HM4.out.ne, HM4.out.good, ⟨HR.out, t0, t1, t2, t3⟩, HM4.out.fuel⟩)
                  have HXS := Lib.hid hx5
                  clear hk5 hv5 hB4 hx5 HB4
                  go_wp2_with fail
                  have he := HE.out
                  have hrg5 := st_range HXS.out
                  refine wp_region_noPanic ?_
                  refine wp_region_held_drew (S := fun V => V.rangeAt (W.heap.size + 1) 0 s.cells) (by kernel_rfl) (range_drewN hrg5 1) (fun hHeld => ?_)
                  refine wpAnyH_take (i := 0) (oi := ⟨some 71, _, _, _, _, _⟩) (v := .pointer (some ⟨p, 0, none⟩)) rfl (by kernel_rfl) (by kernel_rfl) (by kernel_rfl) (fun _ _ _ h => h) (Or.inl ⟨by rfl, fun V _ => by go_simp⟩) (by assumption) ?_
                  simp only [Act.put, List.setIfInBounds_toArray, List.set_cons_zero, List.set_cons_succ]
                  refine wpAnyH_take (i := 2) (oi := ⟨some 73, _, _, _, _, _⟩) (v := .agg s.cells.toArray) rfl (by kernel_rfl) (by kernel_rfl) (by kernel_rfl) (fun _ _ _ h => h) (yieldsIf_load_mid (by rfl) _ _ rfl _ _ rfl _ _ (fun V hV => hV) Try.underlying45 rfl (by rw [HSL.out]; exact info_state)) (by assumption) ?_
                  simp only [Act.put, List.setIfInBounds_toArray, List.set_cons_zero, List.set_cons_succ]
                  refine wpAnyH_ready (rs := [1]) (by kernel_rfl) (by simp) ?_
                  refine AllReadyH.cons (o := ⟨some 72, _, _, _, _, _⟩) rfl (fun K hK => ?_) AllReadyH.nil
                  go_simp
                  refine (HM5.out.drew.now).mono ?_
                  rintro y w6 ⟨rfl, hb6⟩
                  refine hK.out _ _ (range_below hb6 hHeld) (fun hHeld6 => ?_)
                  clear hK K
                  try simp only [Act.put, List.setIfInBounds_toArray, List.set_cons_zero, List.set_cons_succ]
                  refine wpAnyH_take (i := 3) (oi := ⟨some 74, _, _, _, _, _⟩) (v := .bool true) rfl (by kernel_rfl) (by kernel_rfl) (by kernel_rfl) (fun _ _ _ h => h) (Or.inl ⟨by rfl, fun V _ => by go_simp⟩) (by assumption) ?_
                  try simp only [Act.put, List.setIfInBounds_toArray, List.set_cons_zero, List.set_cons_succ]
                  refine wpAnyH_take (i := 4) (oi := ⟨some 75, _, _, _, _, _⟩) (v := .bool true) rfl (by kernel_rfl) (by kernel_rfl) (by kernel_rfl) (fun _ _ _ h => h) (Or.inl ⟨by rfl, fun V _ => by go_simp⟩) (by assumption) ?_
                  try simp only [Act.put, List.setIfInBounds_toArray, List.set_cons_zero, List.set_cons_succ]
                  refine wpAnyH_ready (rs := [5]) (by kernel_rfl) (by simp) ?_
                  refine AllReadyH.cons (o := ⟨some 76, _, _, _, _, _⟩) rfl (fun K hK => ?_) AllReadyH.nil
                  go_simp
                  refine (alive_calls _).mono ?_
                  rintro y w7 ⟨rfl, hb7⟩
                  refine hK.out _ _ (range_below hb7 hHeld6) (fun hHeld7 => ?_)
                  clear hK K
                  try simp only [Act.put, List.setIfInBounds_toArray, List.set_cons_zero, List.set_cons_succ]
                  refine wpAnyH_take (i := 6) (oi := ⟨some 77, _, _, _, _, _⟩) (v := .bool true) rfl (by kernel_rfl) (by kernel_rfl) (by kernel_rfl) (fun _ _ _ h => h) (Or.inl ⟨by rfl, fun V _ => by go_simp⟩) (by assumption) ?_
                  try simp only [Act.put, List.setIfInBounds_toArray, List.set_cons_zero, List.set_cons_succ]
                  refine wpAnyH_take (i := 7) (oi := ⟨some 4, _, _, _, _, _⟩) (v := .bool true) rfl (by kernel_rfl) (by kernel_rfl) (by kernel_rfl) (fun _ _ _ h => h) (Or.inl ⟨by rfl, fun V _ => by go_simp⟩) (by assumption) ?_
                  try simp only [Act.put, List.setIfInBounds_toArray, List.set_cons_zero, List.set_cons_succ]
                  refine wpAnyH_done (by kernel_rfl) ?_ _
                  refine NoPanic.normal ?_
                  clear he
                  have hfin := HB5.out.trans ((below_fromdrew hb6).mono HB5.out.size)
                  have hfin7 := hfin.trans (hb7.mono hfin.size)
                  go_wp2
                  go_ret
                  exact ⟨rfl, hfin7⟩
                · have hq : decide (s.over ≤ 5) = false := by simp; omega
                  have HMS := Lib.hid (show maySet l.length fuel s.at0 s.steps s.over = false by simp [maySet]; omega)
                  go_wp2_with fail
                  clear f16 f17 f18
                  have hm2 := HM1.out.below ((Below.refl w1.heap.size w1).al (o := .cells #[.slice A l.length c, .int .i64 words, .int .i64 fuel, .slice R 16 cr, .int .i64 0, .int .i64 0, .int .i64 0, .int .i64 0] 29))
                  have hx2 := blk_alloc HX1.out (.cells #[.slice A l.length c, .int .i64 words, .int .i64 fuel, .slice R 16 cr, .int .i64 0, .int .i64 0, .int .i64 0, .int .i64 0] 29)
                  have hb2 := HB1.out.al (o := .cells #[.slice A l.length c, .int .i64 words, .int .i64 fuel, .slice R 16 cr, .int .i64 0, .int .i64 0, .int .i64 0, .int .i64 0] 29)
                  generalize w1.alloc (.cells #[.slice A l.length c, .int .i64 words, .int .i64 fuel, .slice R 16 cr, .int .i64 0, .int .i64 0, .int .i64 0, .int .i64 0] 29) = w2 at hm2 hx2 hb2 ⊢
                  refine hm2.now.mono ?_
                  rintro y w3 ⟨rfl, hb3⟩
                  have HM3 := Lib.hid (hm2.below hb3)
                  have HX3 := Lib.hid (below_blk hb3 hx2 (blk_lt hx2))
                  have HB3 := Lib.hid (hb2.trans (hb3.mono hb2.size))
                  clear hm2 hx2 hb2 hb3
                  have HT := Lib.hid (fun Z (hZ : Z.size = 20) => there_new (w := w3) (arr := Z) (t := 45) 20 (by omega))
                  go_wp2_with (first
                    | (refine wpList_load_mid (by rfl) 45 _ (by rfl) (W.heap.size + 1) 0 (by rfl) s.cells _ HRG.out Try.underlying45 rfl (by rw [HSL.out]; exact info_state) ?_)
                    | (refine wpList_store_mid (by rfl) 45 _ _ (by rfl) w3.heap.size 0 (s0 n i k).cells.toArray (by rfl) (by rfl) (HT.out _ rfl) info_state (all_oneCell_toArray (s0 n i k).one) ?_; have hx4 := blk_all (w := w3.alloc (.cells #[.int .i64 0, .int .i64 0, .int .i64 0, .int .i64 0, .int .i64 0, .int .i64 0, .int .i64 0, .int .i64 0, .int .i64 0, .int .i64 0, .int .i64 0, .int .i64 0, .int .i64 0, .int .i64 0, .int .i64 0, .int .i64 0, .int .i64 0, .int .i64 0, .int .i64 0, .int .i64 0] 45)) (s0 n i k).cells (by rfl) (blk_new w3 _); have hb4 := below_sets (Nat.le_refl _) (s0 n i k).cells 0 ((Below.refl w3.heap.size w3).al (o := .cells #[.int .i64 0, .int .i64 0, .int .i64 0, .int .i64 0, .int .i64 0, .int .i64 0, .int .i64 0, .int .i64 0, .int .i64 0, .int .i64 0, .int .i64 0, .int .i64 0, .int .i64 0, .int .i64 0, .int .i64 0, .int .i64 0, .int .i64 0, .int .i64 0, .int .i64 0, .int .i64 0] 45)); generalize World.setCells _ _ _ _ = w4 at hx4 hb4 ⊢; have HX4 := Lib.hid hx4; have HB4 := Lib.hid hb4; have HM4 := Lib.hid (HM3.out.below hb4); have HX3b := Lib.hid (below_blk hb4 HX3.out (blk_lt HX3.out)); have HRG := Lib.hid (st_range (below_blk hb4 HX3.out (blk_lt HX3.out))); clear hx4 hb4))
                  refine (set_calls w4 p (s0 n i k).cells (s0 n i k).cells (s.rg.map (Value.int .i64)) Ac l.length cc words fuel s.at0 s.steps s.over s.value (by simp [HR.out]) (by intro u hu; obtain ⟨v, _, rfl⟩ := List.mem_map.1 hu; rfl) (HM4.out.vm)).mono ?_
                  intro e5 w5 hd5
                  obtain ⟨he5, hk5, hv5⟩ := hd5
                  rw [HMS.out] at he5 hv5
                  subst he5
                  have hx5 := hk5.blk HX3b.out (by have := HP.out; omega)
                  have hB4 := HB3.out.trans (HB4.out.mono HB3.out.size)
                  have HB5 := Lib.hid (hB4.trans (hk5.toBelow hB4.size (fun q e => by subst e; have := HP.out; omega)))
                  have HM5 := Lib.hid (show Mach w5 p l words fuel (s0 n i k).cells (s0 n i k) Ac cc from ⟨hv5, HM4.out.row.far hk5 (fun b o hb e => by have := HM4.out.ne b o hb; omega), HM4.out.ne, HM4.out.good, HM4.out.ok, HM4.out.fuel⟩)
                  have hx5b := hk5.blk HX4.out (by have := HM3.out.vm.lt; omega)
                  have HXS := Lib.hid hx5b
                  clear hk5 hv5 hB4 hx5 HB4 hx5b
                  go_wp2_with fail
                  have he := state_eq (s0 n i k) rfl
                  have hrg5 := st_range HXS.out
                  refine wp_region_noPanic ?_
                  refine wp_region_held_drew (S := fun V => V.rangeAt w3.heap.size 0 (s0 n i k).cells) (by kernel_rfl) (range_drewN hrg5 1) (fun hHeld => ?_)
                  refine wpAnyH_take (i := 0) (oi := ⟨some 78, _, _, _, _, _⟩) (v := .pointer (some ⟨p, 0, none⟩)) rfl (by kernel_rfl) (by kernel_rfl) (by kernel_rfl) (fun _ _ _ h => h) (Or.inl ⟨by rfl, fun V _ => by go_simp⟩) (by assumption) ?_
                  simp only [Act.put, List.setIfInBounds_toArray, List.set_cons_zero, List.set_cons_succ]
                  refine wpAnyH_take (i := 2) (oi := ⟨some 80, _, _, _, _, _⟩) (v := .agg (s0 n i k).cells.toArray) rfl (by kernel_rfl) (by kernel_rfl) (by kernel_rfl) (fun _ _ _ h => h) (yieldsIf_load_mid (by rfl) _ _ rfl _ _ rfl _ _ (fun V hV => hV) Try.underlying45 rfl (by rw [St.len rfl]; exact info_state)) (by assumption) ?_
                  simp only [Act.put, List.setIfInBounds_toArray, List.set_cons_zero, List.set_cons_succ]
                  refine wpAnyH_ready (rs := [1]) (by kernel_rfl) (by simp) ?_
                  refine AllReadyH.cons (o := ⟨some 79, _, _, _, _, _⟩) rfl (fun K hK => ?_) AllReadyH.nil
                  go_simp
                  refine (HM5.out.drew.now).mono ?_
                  rintro y w6 ⟨rfl, hb6⟩
                  refine hK.out _ _ (range_below hb6 hHeld) (fun hHeld6 => ?_)
                  clear hK K
                  try simp only [Act.put, List.setIfInBounds_toArray, List.set_cons_zero, List.set_cons_succ]
                  refine wpAnyH_take (i := 3) (oi := ⟨some 81, _, _, _, _, _⟩) (v := .bool true) rfl (by kernel_rfl) (by kernel_rfl) (by kernel_rfl) (fun _ _ _ h => h) (Or.inl ⟨by rfl, fun V _ => by go_simp⟩) (by assumption) ?_
                  try simp only [Act.put, List.setIfInBounds_toArray, List.set_cons_zero, List.set_cons_succ]
                  refine wpAnyH_take (i := 4) (oi := ⟨some 82, _, _, _, _, _⟩) (v := .bool true) rfl (by kernel_rfl) (by kernel_rfl) (by kernel_rfl) (fun _ _ _ h => h) (Or.inl ⟨by rfl, fun V _ => by go_simp⟩) (by assumption) ?_
                  try simp only [Act.put, List.setIfInBounds_toArray, List.set_cons_zero, List.set_cons_succ]
                  refine wpAnyH_ready (rs := [5]) (by kernel_rfl) (by simp) ?_
                  refine AllReadyH.cons (o := ⟨some 83, _, _, _, _, _⟩) rfl (fun K hK => ?_) AllReadyH.nil
                  go_simp
                  refine (alive_calls _).mono ?_
                  rintro y w7 ⟨rfl, hb7⟩
                  refine hK.out _ _ (range_below hb7 hHeld6) (fun hHeld7 => ?_)
                  clear hK K
                  try simp only [Act.put, List.setIfInBounds_toArray, List.set_cons_zero, List.set_cons_succ]
                  refine wpAnyH_take (i := 6) (oi := ⟨some 84, _, _, _, _, _⟩) (v := .bool true) rfl (by kernel_rfl) (by kernel_rfl) (by kernel_rfl) (fun _ _ _ h => h) (Or.inl ⟨by rfl, fun V _ => by go_simp⟩) (by assumption) ?_
                  try simp only [Act.put, List.setIfInBounds_toArray, List.set_cons_zero, List.set_cons_succ]
                  refine wpAnyH_take (i := 7) (oi := ⟨some 4, _, _, _, _, _⟩) (v := .bool true) rfl (by kernel_rfl) (by kernel_rfl) (by kernel_rfl) (fun _ _ _ h => h) (Or.inl ⟨by rfl, fun V _ => by go_simp⟩) (by assumption) ?_
                  try simp only [Act.put, List.setIfInBounds_toArray, List.set_cons_zero, List.set_cons_succ]
                  refine wpAnyH_done (by kernel_rfl) ?_ _
                  refine NoPanic.normal ?_
                  clear he
                  have hfin := HB5.out.trans ((below_fromdrew hb6).mono HB5.out.size)
                  have hfin7 := hfin.trans (hb7.mono hfin.size)
                  go_wp2
                  go_ret
                  exact ⟨rfl, hfin7⟩
              · have hq : decide (0 ≤ s.over) = false := by simp; omega
                have HMS := Lib.hid (show maySet l.length fuel s.at0 s.steps s.over = false by simp [maySet]; omega)
                go_wp2_with fail
                clear f16 f17 f18
                have hm2 := HM1.out.below ((Below.refl w1.heap.size w1).al (o := .cells #[.slice A l.length c, .int .i64 words, .int .i64 fuel, .slice R 16 cr, .int .i64 0, .int .i64 0, .int .i64 0, .int .i64 0] 29))
                have hx2 := blk_alloc HX1.out (.cells #[.slice A l.length c, .int .i64 words, .int .i64 fuel, .slice R 16 cr, .int .i64 0, .int .i64 0, .int .i64 0, .int .i64 0] 29)
                have hb2 := HB1.out.al (o := .cells #[.slice A l.length c, .int .i64 words, .int .i64 fuel, .slice R 16 cr, .int .i64 0, .int .i64 0, .int .i64 0, .int .i64 0] 29)
                generalize w1.alloc (.cells #[.slice A l.length c, .int .i64 words, .int .i64 fuel, .slice R 16 cr, .int .i64 0, .int .i64 0, .int .i64 0, .int .i64 0] 29) = w2 at hm2 hx2 hb2 ⊢
                refine hm2.now.mono ?_
                rintro y w3 ⟨rfl, hb3⟩
                have HM3 := Lib.hid (hm2.below hb3)
                have HX3 := Lib.hid (below_blk hb3 hx2 (blk_lt hx2))
                have HB3 := Lib.hid (hb2.trans (hb3.mono hb2.size))
                clear hm2 hx2 hb2 hb3
                have HT := Lib.hid (fun Z (hZ : Z.size = 20) => there_new (w := w3) (arr := Z) (t := 45) 20 (by omega))
                go_wp2_with (first
                  | (refine wpList_load_mid (by rfl) 45 _ (by rfl) (W.heap.size + 1) 0 (by rfl) s.cells _ HRG.out Try.underlying45 rfl (by rw [HSL.out]; exact info_state) ?_)
                  | (refine wpList_store_mid (by rfl) 45 _ _ (by rfl) w3.heap.size 0 (s0 n i k).cells.toArray (by rfl) (by rfl) (HT.out _ rfl) info_state (all_oneCell_toArray (s0 n i k).one) ?_; have hx4 := blk_all (w := w3.alloc (.cells #[.int .i64 0, .int .i64 0, .int .i64 0, .int .i64 0, .int .i64 0, .int .i64 0, .int .i64 0, .int .i64 0, .int .i64 0, .int .i64 0, .int .i64 0, .int .i64 0, .int .i64 0, .int .i64 0, .int .i64 0, .int .i64 0, .int .i64 0, .int .i64 0, .int .i64 0, .int .i64 0] 45)) (s0 n i k).cells (by rfl) (blk_new w3 _); have hb4 := below_sets (Nat.le_refl _) (s0 n i k).cells 0 ((Below.refl w3.heap.size w3).al (o := .cells #[.int .i64 0, .int .i64 0, .int .i64 0, .int .i64 0, .int .i64 0, .int .i64 0, .int .i64 0, .int .i64 0, .int .i64 0, .int .i64 0, .int .i64 0, .int .i64 0, .int .i64 0, .int .i64 0, .int .i64 0, .int .i64 0, .int .i64 0, .int .i64 0, .int .i64 0, .int .i64 0] 45)); generalize World.setCells _ _ _ _ = w4 at hx4 hb4 ⊢; have HX4 := Lib.hid hx4; have HB4 := Lib.hid hb4; have HM4 := Lib.hid (HM3.out.below hb4); have HX3b := Lib.hid (below_blk hb4 HX3.out (blk_lt HX3.out)); have HRG := Lib.hid (st_range (below_blk hb4 HX3.out (blk_lt HX3.out))); clear hx4 hb4))
                refine (set_calls w4 p (s0 n i k).cells (s0 n i k).cells (s.rg.map (Value.int .i64)) Ac l.length cc words fuel s.at0 s.steps s.over s.value (by simp [HR.out]) (by intro u hu; obtain ⟨v, _, rfl⟩ := List.mem_map.1 hu; rfl) (HM4.out.vm)).mono ?_
                intro e5 w5 hd5
                obtain ⟨he5, hk5, hv5⟩ := hd5
                rw [HMS.out] at he5 hv5
                subst he5
                have hx5 := hk5.blk HX3b.out (by have := HP.out; omega)
                have hB4 := HB3.out.trans (HB4.out.mono HB3.out.size)
                have HB5 := Lib.hid (hB4.trans (hk5.toBelow hB4.size (fun q e => by subst e; have := HP.out; omega)))
                have HM5 := Lib.hid (show Mach w5 p l words fuel (s0 n i k).cells (s0 n i k) Ac cc from ⟨hv5, HM4.out.row.far hk5 (fun b o hb e => by have := HM4.out.ne b o hb; omega), HM4.out.ne, HM4.out.good, HM4.out.ok, HM4.out.fuel⟩)
                have hx5b := hk5.blk HX4.out (by have := HM3.out.vm.lt; omega)
                have HXS := Lib.hid hx5b
                clear hk5 hv5 hB4 hx5 HB4 hx5b
                go_wp2_with fail
                have he := state_eq (s0 n i k) rfl
                have hrg5 := st_range HXS.out
                refine wp_region_noPanic ?_
                refine wp_region_held_drew (S := fun V => V.rangeAt w3.heap.size 0 (s0 n i k).cells) (by kernel_rfl) (range_drewN hrg5 1) (fun hHeld => ?_)
                refine wpAnyH_take (i := 0) (oi := ⟨some 78, _, _, _, _, _⟩) (v := .pointer (some ⟨p, 0, none⟩)) rfl (by kernel_rfl) (by kernel_rfl) (by kernel_rfl) (fun _ _ _ h => h) (Or.inl ⟨by rfl, fun V _ => by go_simp⟩) (by assumption) ?_
                simp only [Act.put, List.setIfInBounds_toArray, List.set_cons_zero, List.set_cons_succ]
                refine wpAnyH_take (i := 2) (oi := ⟨some 80, _, _, _, _, _⟩) (v := .agg (s0 n i k).cells.toArray) rfl (by kernel_rfl) (by kernel_rfl) (by kernel_rfl) (fun _ _ _ h => h) (yieldsIf_load_mid (by rfl) _ _ rfl _ _ rfl _ _ (fun V hV => hV) Try.underlying45 rfl (by rw [St.len rfl]; exact info_state)) (by assumption) ?_
                simp only [Act.put, List.setIfInBounds_toArray, List.set_cons_zero, List.set_cons_succ]
                refine wpAnyH_ready (rs := [1]) (by kernel_rfl) (by simp) ?_
                refine AllReadyH.cons (o := ⟨some 79, _, _, _, _, _⟩) rfl (fun K hK => ?_) AllReadyH.nil
                go_simp
                refine (HM5.out.drew.now).mono ?_
                rintro y w6 ⟨rfl, hb6⟩
                refine hK.out _ _ (range_below hb6 hHeld) (fun hHeld6 => ?_)
                clear hK K
                try simp only [Act.put, List.setIfInBounds_toArray, List.set_cons_zero, List.set_cons_succ]
                refine wpAnyH_take (i := 3) (oi := ⟨some 81, _, _, _, _, _⟩) (v := .bool true) rfl (by kernel_rfl) (by kernel_rfl) (by kernel_rfl) (fun _ _ _ h => h) (Or.inl ⟨by rfl, fun V _ => by go_simp⟩) (by assumption) ?_
                try simp only [Act.put, List.setIfInBounds_toArray, List.set_cons_zero, List.set_cons_succ]
                refine wpAnyH_take (i := 4) (oi := ⟨some 82, _, _, _, _, _⟩) (v := .bool true) rfl (by kernel_rfl) (by kernel_rfl) (by kernel_rfl) (fun _ _ _ h => h) (Or.inl ⟨by rfl, fun V _ => by go_simp⟩) (by assumption) ?_
                try simp only [Act.put, List.setIfInBounds_toArray, List.set_cons_zero, List.set_cons_succ]
                refine wpAnyH_ready (rs := [5]) (by kernel_rfl) (by simp) ?_
                refine AllReadyH.cons (o := ⟨some 83, _, _, _, _, _⟩) rfl (fun K hK => ?_) AllReadyH.nil
                go_simp
                refine (alive_calls _).mono ?_
                rintro y w7 ⟨rfl, hb7⟩
                refine hK.out _ _ (range_below hb7 hHeld6) (fun hHeld7 => ?_)
                clear hK K
                try simp only [Act.put, List.setIfInBounds_toArray, List.set_cons_zero, List.set_cons_succ]
                refine wpAnyH_take (i := 6) (oi := ⟨some 84, _, _, _, _, _⟩) (v := .bool true) rfl (by kernel_rfl) (by kernel_rfl) (by kernel_rfl) (fun _ _ _ h => h) (Or.inl ⟨by rfl, fun V _ => by go_simp⟩) (by assumption) ?_
                try simp only [Act.put, List.setIfInBounds_toArray, List.set_cons_zero, List.set_cons_succ]
                refine wpAnyH_take (i := 7) (oi := ⟨some 4, _, _, _, _, _⟩) (v := .bool true) rfl (by kernel_rfl) (by kernel_rfl) (by kernel_rfl) (fun _ _ _ h => h) (Or.inl ⟨by rfl, fun V _ => by go_simp⟩) (by assumption) ?_
                try simp only [Act.put, List.setIfInBounds_toArray, List.set_cons_zero, List.set_cons_succ]
                refine wpAnyH_done (by kernel_rfl) ?_ _
                refine NoPanic.normal ?_
                clear he
                have hfin := HB5.out.trans ((below_fromdrew hb6).mono HB5.out.size)
                have hfin7 := hfin.trans (hb7.mono hfin.size)
                go_wp2
                go_ret
                exact ⟨rfl, hfin7⟩
            · have hq : decide (s.steps ≤ fuel) = false := by simp; omega
              have HMS := Lib.hid (show maySet l.length fuel s.at0 s.steps s.over = false by simp [maySet]; omega)
              go_wp2_with fail
              clear f16 f17 f18
              have hm2 := HM1.out.below ((Below.refl w1.heap.size w1).al (o := .cells #[.slice A l.length c, .int .i64 words, .int .i64 fuel, .slice R 16 cr, .int .i64 0, .int .i64 0, .int .i64 0, .int .i64 0] 29))
              have hx2 := blk_alloc HX1.out (.cells #[.slice A l.length c, .int .i64 words, .int .i64 fuel, .slice R 16 cr, .int .i64 0, .int .i64 0, .int .i64 0, .int .i64 0] 29)
              have hb2 := HB1.out.al (o := .cells #[.slice A l.length c, .int .i64 words, .int .i64 fuel, .slice R 16 cr, .int .i64 0, .int .i64 0, .int .i64 0, .int .i64 0] 29)
              generalize w1.alloc (.cells #[.slice A l.length c, .int .i64 words, .int .i64 fuel, .slice R 16 cr, .int .i64 0, .int .i64 0, .int .i64 0, .int .i64 0] 29) = w2 at hm2 hx2 hb2 ⊢
              refine hm2.now.mono ?_
              rintro y w3 ⟨rfl, hb3⟩
              have HM3 := Lib.hid (hm2.below hb3)
              have HX3 := Lib.hid (below_blk hb3 hx2 (blk_lt hx2))
              have HB3 := Lib.hid (hb2.trans (hb3.mono hb2.size))
              clear hm2 hx2 hb2 hb3
              have HT := Lib.hid (fun Z (hZ : Z.size = 20) => there_new (w := w3) (arr := Z) (t := 45) 20 (by omega))
              go_wp2_with (first
                | (refine wpList_load_mid (by rfl) 45 _ (by rfl) (W.heap.size + 1) 0 (by rfl) s.cells _ HRG.out Try.underlying45 rfl (by rw [HSL.out]; exact info_state) ?_)
                | (refine wpList_store_mid (by rfl) 45 _ _ (by rfl) w3.heap.size 0 (s0 n i k).cells.toArray (by rfl) (by rfl) (HT.out _ rfl) info_state (all_oneCell_toArray (s0 n i k).one) ?_; have hx4 := blk_all (w := w3.alloc (.cells #[.int .i64 0, .int .i64 0, .int .i64 0, .int .i64 0, .int .i64 0, .int .i64 0, .int .i64 0, .int .i64 0, .int .i64 0, .int .i64 0, .int .i64 0, .int .i64 0, .int .i64 0, .int .i64 0, .int .i64 0, .int .i64 0, .int .i64 0, .int .i64 0, .int .i64 0, .int .i64 0] 45)) (s0 n i k).cells (by rfl) (blk_new w3 _); have hb4 := below_sets (Nat.le_refl _) (s0 n i k).cells 0 ((Below.refl w3.heap.size w3).al (o := .cells #[.int .i64 0, .int .i64 0, .int .i64 0, .int .i64 0, .int .i64 0, .int .i64 0, .int .i64 0, .int .i64 0, .int .i64 0, .int .i64 0, .int .i64 0, .int .i64 0, .int .i64 0, .int .i64 0, .int .i64 0, .int .i64 0, .int .i64 0, .int .i64 0, .int .i64 0, .int .i64 0] 45)); generalize World.setCells _ _ _ _ = w4 at hx4 hb4 ⊢; have HX4 := Lib.hid hx4; have HB4 := Lib.hid hb4; have HM4 := Lib.hid (HM3.out.below hb4); have HX3b := Lib.hid (below_blk hb4 HX3.out (blk_lt HX3.out)); have HRG := Lib.hid (st_range (below_blk hb4 HX3.out (blk_lt HX3.out))); clear hx4 hb4))
              refine (set_calls w4 p (s0 n i k).cells (s0 n i k).cells (s.rg.map (Value.int .i64)) Ac l.length cc words fuel s.at0 s.steps s.over s.value (by simp [HR.out]) (by intro u hu; obtain ⟨v, _, rfl⟩ := List.mem_map.1 hu; rfl) (HM4.out.vm)).mono ?_
              intro e5 w5 hd5
              obtain ⟨he5, hk5, hv5⟩ := hd5
              rw [HMS.out] at he5 hv5
              subst he5
              have hx5 := hk5.blk HX3b.out (by have := HP.out; omega)
              have hB4 := HB3.out.trans (HB4.out.mono HB3.out.size)
              have HB5 := Lib.hid (hB4.trans (hk5.toBelow hB4.size (fun q e => by subst e; have := HP.out; omega)))
              have HM5 := Lib.hid (show Mach w5 p l words fuel (s0 n i k).cells (s0 n i k) Ac cc from ⟨hv5, HM4.out.row.far hk5 (fun b o hb e => by have := HM4.out.ne b o hb; omega), HM4.out.ne, HM4.out.good, HM4.out.ok, HM4.out.fuel⟩)
              have hx5b := hk5.blk HX4.out (by have := HM3.out.vm.lt; omega)
              have HXS := Lib.hid hx5b
              clear hk5 hv5 hB4 hx5 HB4 hx5b
              go_wp2_with fail
              have he := state_eq (s0 n i k) rfl
              have hrg5 := st_range HXS.out
              refine wp_region_noPanic ?_
              refine wp_region_held_drew (S := fun V => V.rangeAt w3.heap.size 0 (s0 n i k).cells) (by kernel_rfl) (range_drewN hrg5 1) (fun hHeld => ?_)
              refine wpAnyH_take (i := 0) (oi := ⟨some 78, _, _, _, _, _⟩) (v := .pointer (some ⟨p, 0, none⟩)) rfl (by kernel_rfl) (by kernel_rfl) (by kernel_rfl) (fun _ _ _ h => h) (Or.inl ⟨by rfl, fun V _ => by go_simp⟩) (by assumption) ?_
              simp only [Act.put, List.setIfInBounds_toArray, List.set_cons_zero, List.set_cons_succ]
              refine wpAnyH_take (i := 2) (oi := ⟨some 80, _, _, _, _, _⟩) (v := .agg (s0 n i k).cells.toArray) rfl (by kernel_rfl) (by kernel_rfl) (by kernel_rfl) (fun _ _ _ h => h) (yieldsIf_load_mid (by rfl) _ _ rfl _ _ rfl _ _ (fun V hV => hV) Try.underlying45 rfl (by rw [St.len rfl]; exact info_state)) (by assumption) ?_
              simp only [Act.put, List.setIfInBounds_toArray, List.set_cons_zero, List.set_cons_succ]
              refine wpAnyH_ready (rs := [1]) (by kernel_rfl) (by simp) ?_
              refine AllReadyH.cons (o := ⟨some 79, _, _, _, _, _⟩) rfl (fun K hK => ?_) AllReadyH.nil
              go_simp
              refine (HM5.out.drew.now).mono ?_
              rintro y w6 ⟨rfl, hb6⟩
              refine hK.out _ _ (range_below hb6 hHeld) (fun hHeld6 => ?_)
              clear hK K
              try simp only [Act.put, List.setIfInBounds_toArray, List.set_cons_zero, List.set_cons_succ]
              refine wpAnyH_take (i := 3) (oi := ⟨some 81, _, _, _, _, _⟩) (v := .bool true) rfl (by kernel_rfl) (by kernel_rfl) (by kernel_rfl) (fun _ _ _ h => h) (Or.inl ⟨by rfl, fun V _ => by go_simp⟩) (by assumption) ?_
              try simp only [Act.put, List.setIfInBounds_toArray, List.set_cons_zero, List.set_cons_succ]
              refine wpAnyH_take (i := 4) (oi := ⟨some 82, _, _, _, _, _⟩) (v := .bool true) rfl (by kernel_rfl) (by kernel_rfl) (by kernel_rfl) (fun _ _ _ h => h) (Or.inl ⟨by rfl, fun V _ => by go_simp⟩) (by assumption) ?_
              try simp only [Act.put, List.setIfInBounds_toArray, List.set_cons_zero, List.set_cons_succ]
              refine wpAnyH_ready (rs := [5]) (by kernel_rfl) (by simp) ?_
              refine AllReadyH.cons (o := ⟨some 83, _, _, _, _, _⟩) rfl (fun K hK => ?_) AllReadyH.nil
              go_simp
              refine (alive_calls _).mono ?_
              rintro y w7 ⟨rfl, hb7⟩
              refine hK.out _ _ (range_below hb7 hHeld6) (fun hHeld7 => ?_)
              clear hK K
              try simp only [Act.put, List.setIfInBounds_toArray, List.set_cons_zero, List.set_cons_succ]
              refine wpAnyH_take (i := 6) (oi := ⟨some 84, _, _, _, _, _⟩) (v := .bool true) rfl (by kernel_rfl) (by kernel_rfl) (by kernel_rfl) (fun _ _ _ h => h) (Or.inl ⟨by rfl, fun V _ => by go_simp⟩) (by assumption) ?_
              try simp only [Act.put, List.setIfInBounds_toArray, List.set_cons_zero, List.set_cons_succ]
              refine wpAnyH_take (i := 7) (oi := ⟨some 4, _, _, _, _, _⟩) (v := .bool true) rfl (by kernel_rfl) (by kernel_rfl) (by kernel_rfl) (fun _ _ _ h => h) (Or.inl ⟨by rfl, fun V _ => by go_simp⟩) (by assumption) ?_
              try simp only [Act.put, List.setIfInBounds_toArray, List.set_cons_zero, List.set_cons_succ]
              refine wpAnyH_done (by kernel_rfl) ?_ _
              refine NoPanic.normal ?_
              clear he
              have hfin := HB5.out.trans ((below_fromdrew hb6).mono HB5.out.size)
              have hfin7 := hfin.trans (hb7.mono hfin.size)
              go_wp2
              go_ret
              exact ⟨rfl, hfin7⟩
          · have hq : decide (0 ≤ s.steps) = false := by simp; omega
            have HMS := Lib.hid (show maySet l.length fuel s.at0 s.steps s.over = false by simp [maySet]; omega)
            go_wp2_with fail
            clear f16 f17 f18
            have hm2 := HM1.out.below ((Below.refl w1.heap.size w1).al (o := .cells #[.slice A l.length c, .int .i64 words, .int .i64 fuel, .slice R 16 cr, .int .i64 0, .int .i64 0, .int .i64 0, .int .i64 0] 29))
            have hx2 := blk_alloc HX1.out (.cells #[.slice A l.length c, .int .i64 words, .int .i64 fuel, .slice R 16 cr, .int .i64 0, .int .i64 0, .int .i64 0, .int .i64 0] 29)
            have hb2 := HB1.out.al (o := .cells #[.slice A l.length c, .int .i64 words, .int .i64 fuel, .slice R 16 cr, .int .i64 0, .int .i64 0, .int .i64 0, .int .i64 0] 29)
            generalize w1.alloc (.cells #[.slice A l.length c, .int .i64 words, .int .i64 fuel, .slice R 16 cr, .int .i64 0, .int .i64 0, .int .i64 0, .int .i64 0] 29) = w2 at hm2 hx2 hb2 ⊢
            refine hm2.now.mono ?_
            rintro y w3 ⟨rfl, hb3⟩
            have HM3 := Lib.hid (hm2.below hb3)
            have HX3 := Lib.hid (below_blk hb3 hx2 (blk_lt hx2))
            have HB3 := Lib.hid (hb2.trans (hb3.mono hb2.size))
            clear hm2 hx2 hb2 hb3
            have HT := Lib.hid (fun Z (hZ : Z.size = 20) => there_new (w := w3) (arr := Z) (t := 45) 20 (by omega))
            go_wp2_with (first
              | (refine wpList_load_mid (by rfl) 45 _ (by rfl) (W.heap.size + 1) 0 (by rfl) s.cells _ HRG.out Try.underlying45 rfl (by rw [HSL.out]; exact info_state) ?_)
              | (refine wpList_store_mid (by rfl) 45 _ _ (by rfl) w3.heap.size 0 (s0 n i k).cells.toArray (by rfl) (by rfl) (HT.out _ rfl) info_state (all_oneCell_toArray (s0 n i k).one) ?_; have hx4 := blk_all (w := w3.alloc (.cells #[.int .i64 0, .int .i64 0, .int .i64 0, .int .i64 0, .int .i64 0, .int .i64 0, .int .i64 0, .int .i64 0, .int .i64 0, .int .i64 0, .int .i64 0, .int .i64 0, .int .i64 0, .int .i64 0, .int .i64 0, .int .i64 0, .int .i64 0, .int .i64 0, .int .i64 0, .int .i64 0] 45)) (s0 n i k).cells (by rfl) (blk_new w3 _); have hb4 := below_sets (Nat.le_refl _) (s0 n i k).cells 0 ((Below.refl w3.heap.size w3).al (o := .cells #[.int .i64 0, .int .i64 0, .int .i64 0, .int .i64 0, .int .i64 0, .int .i64 0, .int .i64 0, .int .i64 0, .int .i64 0, .int .i64 0, .int .i64 0, .int .i64 0, .int .i64 0, .int .i64 0, .int .i64 0, .int .i64 0, .int .i64 0, .int .i64 0, .int .i64 0, .int .i64 0] 45)); generalize World.setCells _ _ _ _ = w4 at hx4 hb4 ⊢; have HX4 := Lib.hid hx4; have HB4 := Lib.hid hb4; have HM4 := Lib.hid (HM3.out.below hb4); have HX3b := Lib.hid (below_blk hb4 HX3.out (blk_lt HX3.out)); have HRG := Lib.hid (st_range (below_blk hb4 HX3.out (blk_lt HX3.out))); clear hx4 hb4))
            refine (set_calls w4 p (s0 n i k).cells (s0 n i k).cells (s.rg.map (Value.int .i64)) Ac l.length cc words fuel s.at0 s.steps s.over s.value (by simp [HR.out]) (by intro u hu; obtain ⟨v, _, rfl⟩ := List.mem_map.1 hu; rfl) (HM4.out.vm)).mono ?_
            intro e5 w5 hd5
            obtain ⟨he5, hk5, hv5⟩ := hd5
            rw [HMS.out] at he5 hv5
            subst he5
            have hx5 := hk5.blk HX3b.out (by have := HP.out; omega)
            have hB4 := HB3.out.trans (HB4.out.mono HB3.out.size)
            have HB5 := Lib.hid (hB4.trans (hk5.toBelow hB4.size (fun q e => by subst e; have := HP.out; omega)))
            have HM5 := Lib.hid (show Mach w5 p l words fuel (s0 n i k).cells (s0 n i k) Ac cc from ⟨hv5, HM4.out.row.far hk5 (fun b o hb e => by have := HM4.out.ne b o hb; omega), HM4.out.ne, HM4.out.good, HM4.out.ok, HM4.out.fuel⟩)
            have hx5b := hk5.blk HX4.out (by have := HM3.out.vm.lt; omega)
            have HXS := Lib.hid hx5b
            clear hk5 hv5 hB4 hx5 HB4 hx5b
            go_wp2_with fail
            have he := state_eq (s0 n i k) rfl
            have hrg5 := st_range HXS.out
            refine wp_region_noPanic ?_
            refine wp_region_held_drew (S := fun V => V.rangeAt w3.heap.size 0 (s0 n i k).cells) (by kernel_rfl) (range_drewN hrg5 1) (fun hHeld => ?_)
            refine wpAnyH_take (i := 0) (oi := ⟨some 78, _, _, _, _, _⟩) (v := .pointer (some ⟨p, 0, none⟩)) rfl (by kernel_rfl) (by kernel_rfl) (by kernel_rfl) (fun _ _ _ h => h) (Or.inl ⟨by rfl, fun V _ => by go_simp⟩) (by assumption) ?_
            simp only [Act.put, List.setIfInBounds_toArray, List.set_cons_zero, List.set_cons_succ]
            refine wpAnyH_take (i := 2) (oi := ⟨some 80, _, _, _, _, _⟩) (v := .agg (s0 n i k).cells.toArray) rfl (by kernel_rfl) (by kernel_rfl) (by kernel_rfl) (fun _ _ _ h => h) (yieldsIf_load_mid (by rfl) _ _ rfl _ _ rfl _ _ (fun V hV => hV) Try.underlying45 rfl (by rw [St.len rfl]; exact info_state)) (by assumption) ?_
            simp only [Act.put, List.setIfInBounds_toArray, List.set_cons_zero, List.set_cons_succ]
            refine wpAnyH_ready (rs := [1]) (by kernel_rfl) (by simp) ?_
            refine AllReadyH.cons (o := ⟨some 79, _, _, _, _, _⟩) rfl (fun K hK => ?_) AllReadyH.nil
            go_simp
            refine (HM5.out.drew.now).mono ?_
            rintro y w6 ⟨rfl, hb6⟩
            refine hK.out _ _ (range_below hb6 hHeld) (fun hHeld6 => ?_)
            clear hK K
            try simp only [Act.put, List.setIfInBounds_toArray, List.set_cons_zero, List.set_cons_succ]
            refine wpAnyH_take (i := 3) (oi := ⟨some 81, _, _, _, _, _⟩) (v := .bool true) rfl (by kernel_rfl) (by kernel_rfl) (by kernel_rfl) (fun _ _ _ h => h) (Or.inl ⟨by rfl, fun V _ => by go_simp⟩) (by assumption) ?_
            try simp only [Act.put, List.setIfInBounds_toArray, List.set_cons_zero, List.set_cons_succ]
            refine wpAnyH_take (i := 4) (oi := ⟨some 82, _, _, _, _, _⟩) (v := .bool true) rfl (by kernel_rfl) (by kernel_rfl) (by kernel_rfl) (fun _ _ _ h => h) (Or.inl ⟨by rfl, fun V _ => by go_simp⟩) (by assumption) ?_
            try simp only [Act.put, List.setIfInBounds_toArray, List.set_cons_zero, List.set_cons_succ]
            refine wpAnyH_ready (rs := [5]) (by kernel_rfl) (by simp) ?_
            refine AllReadyH.cons (o := ⟨some 83, _, _, _, _, _⟩) rfl (fun K hK => ?_) AllReadyH.nil
            go_simp
            refine (alive_calls _).mono ?_
            rintro y w7 ⟨rfl, hb7⟩
            refine hK.out _ _ (range_below hb7 hHeld6) (fun hHeld7 => ?_)
            clear hK K
            try simp only [Act.put, List.setIfInBounds_toArray, List.set_cons_zero, List.set_cons_succ]
            refine wpAnyH_take (i := 6) (oi := ⟨some 84, _, _, _, _, _⟩) (v := .bool true) rfl (by kernel_rfl) (by kernel_rfl) (by kernel_rfl) (fun _ _ _ h => h) (Or.inl ⟨by rfl, fun V _ => by go_simp⟩) (by assumption) ?_
            try simp only [Act.put, List.setIfInBounds_toArray, List.set_cons_zero, List.set_cons_succ]
            refine wpAnyH_take (i := 7) (oi := ⟨some 4, _, _, _, _, _⟩) (v := .bool true) rfl (by kernel_rfl) (by kernel_rfl) (by kernel_rfl) (fun _ _ _ h => h) (Or.inl ⟨by rfl, fun V _ => by go_simp⟩) (by assumption) ?_
            try simp only [Act.put, List.setIfInBounds_toArray, List.set_cons_zero, List.set_cons_succ]
            refine wpAnyH_done (by kernel_rfl) ?_ _
            refine NoPanic.normal ?_
            clear he
            have hfin := HB5.out.trans ((below_fromdrew hb6).mono HB5.out.size)
            have hfin7 := hfin.trans (hb7.mono hfin.size)
            go_wp2
            go_ret
            exact ⟨rfl, hfin7⟩
        · have hq : decide (s.at0 < (l.length : Int)) = false := by simp; omega
          have HMS := Lib.hid (show maySet l.length fuel s.at0 s.steps s.over = false by simp [maySet]; omega)
          go_wp2_with fail
          clear f16 f17 f18
          have hm2 := HM1.out.below ((Below.refl w1.heap.size w1).al (o := .cells #[.slice A l.length c, .int .i64 words, .int .i64 fuel, .slice R 16 cr, .int .i64 0, .int .i64 0, .int .i64 0, .int .i64 0] 29))
          have hx2 := blk_alloc HX1.out (.cells #[.slice A l.length c, .int .i64 words, .int .i64 fuel, .slice R 16 cr, .int .i64 0, .int .i64 0, .int .i64 0, .int .i64 0] 29)
          have hb2 := HB1.out.al (o := .cells #[.slice A l.length c, .int .i64 words, .int .i64 fuel, .slice R 16 cr, .int .i64 0, .int .i64 0, .int .i64 0, .int .i64 0] 29)
          generalize w1.alloc (.cells #[.slice A l.length c, .int .i64 words, .int .i64 fuel, .slice R 16 cr, .int .i64 0, .int .i64 0, .int .i64 0, .int .i64 0] 29) = w2 at hm2 hx2 hb2 ⊢
          refine hm2.now.mono ?_
          rintro y w3 ⟨rfl, hb3⟩
          have HM3 := Lib.hid (hm2.below hb3)
          have HX3 := Lib.hid (below_blk hb3 hx2 (blk_lt hx2))
          have HB3 := Lib.hid (hb2.trans (hb3.mono hb2.size))
          clear hm2 hx2 hb2 hb3
          have HT := Lib.hid (fun Z (hZ : Z.size = 20) => there_new (w := w3) (arr := Z) (t := 45) 20 (by omega))
          go_wp2_with (first
            | (refine wpList_load_mid (by rfl) 45 _ (by rfl) (W.heap.size + 1) 0 (by rfl) s.cells _ HRG.out Try.underlying45 rfl (by rw [HSL.out]; exact info_state) ?_)
            | (refine wpList_store_mid (by rfl) 45 _ _ (by rfl) w3.heap.size 0 (s0 n i k).cells.toArray (by rfl) (by rfl) (HT.out _ rfl) info_state (all_oneCell_toArray (s0 n i k).one) ?_; have hx4 := blk_all (w := w3.alloc (.cells #[.int .i64 0, .int .i64 0, .int .i64 0, .int .i64 0, .int .i64 0, .int .i64 0, .int .i64 0, .int .i64 0, .int .i64 0, .int .i64 0, .int .i64 0, .int .i64 0, .int .i64 0, .int .i64 0, .int .i64 0, .int .i64 0, .int .i64 0, .int .i64 0, .int .i64 0, .int .i64 0] 45)) (s0 n i k).cells (by rfl) (blk_new w3 _); have hb4 := below_sets (Nat.le_refl _) (s0 n i k).cells 0 ((Below.refl w3.heap.size w3).al (o := .cells #[.int .i64 0, .int .i64 0, .int .i64 0, .int .i64 0, .int .i64 0, .int .i64 0, .int .i64 0, .int .i64 0, .int .i64 0, .int .i64 0, .int .i64 0, .int .i64 0, .int .i64 0, .int .i64 0, .int .i64 0, .int .i64 0, .int .i64 0, .int .i64 0, .int .i64 0, .int .i64 0] 45)); generalize World.setCells _ _ _ _ = w4 at hx4 hb4 ⊢; have HX4 := Lib.hid hx4; have HB4 := Lib.hid hb4; have HM4 := Lib.hid (HM3.out.below hb4); have HX3b := Lib.hid (below_blk hb4 HX3.out (blk_lt HX3.out)); have HRG := Lib.hid (st_range (below_blk hb4 HX3.out (blk_lt HX3.out))); clear hx4 hb4))
          refine (set_calls w4 p (s0 n i k).cells (s0 n i k).cells (s.rg.map (Value.int .i64)) Ac l.length cc words fuel s.at0 s.steps s.over s.value (by simp [HR.out]) (by intro u hu; obtain ⟨v, _, rfl⟩ := List.mem_map.1 hu; rfl) (HM4.out.vm)).mono ?_
          intro e5 w5 hd5
          obtain ⟨he5, hk5, hv5⟩ := hd5
          rw [HMS.out] at he5 hv5
          subst he5
          have hx5 := hk5.blk HX3b.out (by have := HP.out; omega)
          have hB4 := HB3.out.trans (HB4.out.mono HB3.out.size)
          have HB5 := Lib.hid (hB4.trans (hk5.toBelow hB4.size (fun q e => by subst e; have := HP.out; omega)))
          have HM5 := Lib.hid (show Mach w5 p l words fuel (s0 n i k).cells (s0 n i k) Ac cc from ⟨hv5, HM4.out.row.far hk5 (fun b o hb e => by have := HM4.out.ne b o hb; omega), HM4.out.ne, HM4.out.good, HM4.out.ok, HM4.out.fuel⟩)
          have hx5b := hk5.blk HX4.out (by have := HM3.out.vm.lt; omega)
          have HXS := Lib.hid hx5b
          clear hk5 hv5 hB4 hx5 HB4 hx5b
          go_wp2_with fail
          have he := state_eq (s0 n i k) rfl
          have hrg5 := st_range HXS.out
          refine wp_region_noPanic ?_
          refine wp_region_held_drew (S := fun V => V.rangeAt w3.heap.size 0 (s0 n i k).cells) (by kernel_rfl) (range_drewN hrg5 1) (fun hHeld => ?_)
          refine wpAnyH_take (i := 0) (oi := ⟨some 78, _, _, _, _, _⟩) (v := .pointer (some ⟨p, 0, none⟩)) rfl (by kernel_rfl) (by kernel_rfl) (by kernel_rfl) (fun _ _ _ h => h) (Or.inl ⟨by rfl, fun V _ => by go_simp⟩) (by assumption) ?_
          simp only [Act.put, List.setIfInBounds_toArray, List.set_cons_zero, List.set_cons_succ]
          refine wpAnyH_take (i := 2) (oi := ⟨some 80, _, _, _, _, _⟩) (v := .agg (s0 n i k).cells.toArray) rfl (by kernel_rfl) (by kernel_rfl) (by kernel_rfl) (fun _ _ _ h => h) (yieldsIf_load_mid (by rfl) _ _ rfl _ _ rfl _ _ (fun V hV => hV) Try.underlying45 rfl (by rw [St.len rfl]; exact info_state)) (by assumption) ?_
          simp only [Act.put, List.setIfInBounds_toArray, List.set_cons_zero, List.set_cons_succ]
          refine wpAnyH_ready (rs := [1]) (by kernel_rfl) (by simp) ?_
          refine AllReadyH.cons (o := ⟨some 79, _, _, _, _, _⟩) rfl (fun K hK => ?_) AllReadyH.nil
          go_simp
          refine (HM5.out.drew.now).mono ?_
          rintro y w6 ⟨rfl, hb6⟩
          refine hK.out _ _ (range_below hb6 hHeld) (fun hHeld6 => ?_)
          clear hK K
          try simp only [Act.put, List.setIfInBounds_toArray, List.set_cons_zero, List.set_cons_succ]
          refine wpAnyH_take (i := 3) (oi := ⟨some 81, _, _, _, _, _⟩) (v := .bool true) rfl (by kernel_rfl) (by kernel_rfl) (by kernel_rfl) (fun _ _ _ h => h) (Or.inl ⟨by rfl, fun V _ => by go_simp⟩) (by assumption) ?_
          try simp only [Act.put, List.setIfInBounds_toArray, List.set_cons_zero, List.set_cons_succ]
          refine wpAnyH_take (i := 4) (oi := ⟨some 82, _, _, _, _, _⟩) (v := .bool true) rfl (by kernel_rfl) (by kernel_rfl) (by kernel_rfl) (fun _ _ _ h => h) (Or.inl ⟨by rfl, fun V _ => by go_simp⟩) (by assumption) ?_
          try simp only [Act.put, List.setIfInBounds_toArray, List.set_cons_zero, List.set_cons_succ]
          refine wpAnyH_ready (rs := [5]) (by kernel_rfl) (by simp) ?_
          refine AllReadyH.cons (o := ⟨some 83, _, _, _, _, _⟩) rfl (fun K hK => ?_) AllReadyH.nil
          go_simp
          refine (alive_calls _).mono ?_
          rintro y w7 ⟨rfl, hb7⟩
          refine hK.out _ _ (range_below hb7 hHeld6) (fun hHeld7 => ?_)
          clear hK K
          try simp only [Act.put, List.setIfInBounds_toArray, List.set_cons_zero, List.set_cons_succ]
          refine wpAnyH_take (i := 6) (oi := ⟨some 84, _, _, _, _, _⟩) (v := .bool true) rfl (by kernel_rfl) (by kernel_rfl) (by kernel_rfl) (fun _ _ _ h => h) (Or.inl ⟨by rfl, fun V _ => by go_simp⟩) (by assumption) ?_
          try simp only [Act.put, List.setIfInBounds_toArray, List.set_cons_zero, List.set_cons_succ]
          refine wpAnyH_take (i := 7) (oi := ⟨some 4, _, _, _, _, _⟩) (v := .bool true) rfl (by kernel_rfl) (by kernel_rfl) (by kernel_rfl) (fun _ _ _ h => h) (Or.inl ⟨by rfl, fun V _ => by go_simp⟩) (by assumption) ?_
          try simp only [Act.put, List.setIfInBounds_toArray, List.set_cons_zero, List.set_cons_succ]
          refine wpAnyH_done (by kernel_rfl) ?_ _
          refine NoPanic.normal ?_
          clear he
          have hfin := HB5.out.trans ((below_fromdrew hb6).mono HB5.out.size)
          have hfin7 := hfin.trans (hb7.mono hfin.size)
          go_wp2
          go_ret
          exact ⟨rfl, hfin7⟩
      · have hq : decide (0 ≤ s.at0) = false := by simp; omega
        have HMS := Lib.hid (show maySet l.length fuel s.at0 s.steps s.over = false by simp [maySet]; omega)
        go_wp2_with fail
        clear f16 f17 f18
        have hm2 := HM1.out.below ((Below.refl w1.heap.size w1).al (o := .cells #[.slice A l.length c, .int .i64 words, .int .i64 fuel, .slice R 16 cr, .int .i64 0, .int .i64 0, .int .i64 0, .int .i64 0] 29))
        have hx2 := blk_alloc HX1.out (.cells #[.slice A l.length c, .int .i64 words, .int .i64 fuel, .slice R 16 cr, .int .i64 0, .int .i64 0, .int .i64 0, .int .i64 0] 29)
        have hb2 := HB1.out.al (o := .cells #[.slice A l.length c, .int .i64 words, .int .i64 fuel, .slice R 16 cr, .int .i64 0, .int .i64 0, .int .i64 0, .int .i64 0] 29)
        generalize w1.alloc (.cells #[.slice A l.length c, .int .i64 words, .int .i64 fuel, .slice R 16 cr, .int .i64 0, .int .i64 0, .int .i64 0, .int .i64 0] 29) = w2 at hm2 hx2 hb2 ⊢
        refine hm2.now.mono ?_
        rintro y w3 ⟨rfl, hb3⟩
        have HM3 := Lib.hid (hm2.below hb3)
        have HX3 := Lib.hid (below_blk hb3 hx2 (blk_lt hx2))
        have HB3 := Lib.hid (hb2.trans (hb3.mono hb2.size))
        clear hm2 hx2 hb2 hb3
        have HT := Lib.hid (fun Z (hZ : Z.size = 20) => there_new (w := w3) (arr := Z) (t := 45) 20 (by omega))
        go_wp2_with (first
          | (refine wpList_load_mid (by rfl) 45 _ (by rfl) (W.heap.size + 1) 0 (by rfl) s.cells _ HRG.out Try.underlying45 rfl (by rw [HSL.out]; exact info_state) ?_)
          | (refine wpList_store_mid (by rfl) 45 _ _ (by rfl) w3.heap.size 0 (s0 n i k).cells.toArray (by rfl) (by rfl) (HT.out _ rfl) info_state (all_oneCell_toArray (s0 n i k).one) ?_; have hx4 := blk_all (w := w3.alloc (.cells #[.int .i64 0, .int .i64 0, .int .i64 0, .int .i64 0, .int .i64 0, .int .i64 0, .int .i64 0, .int .i64 0, .int .i64 0, .int .i64 0, .int .i64 0, .int .i64 0, .int .i64 0, .int .i64 0, .int .i64 0, .int .i64 0, .int .i64 0, .int .i64 0, .int .i64 0, .int .i64 0] 45)) (s0 n i k).cells (by rfl) (blk_new w3 _); have hb4 := below_sets (Nat.le_refl _) (s0 n i k).cells 0 ((Below.refl w3.heap.size w3).al (o := .cells #[.int .i64 0, .int .i64 0, .int .i64 0, .int .i64 0, .int .i64 0, .int .i64 0, .int .i64 0, .int .i64 0, .int .i64 0, .int .i64 0, .int .i64 0, .int .i64 0, .int .i64 0, .int .i64 0, .int .i64 0, .int .i64 0, .int .i64 0, .int .i64 0, .int .i64 0, .int .i64 0] 45)); generalize World.setCells _ _ _ _ = w4 at hx4 hb4 ⊢; have HX4 := Lib.hid hx4; have HB4 := Lib.hid hb4; have HM4 := Lib.hid (HM3.out.below hb4); have HX3b := Lib.hid (below_blk hb4 HX3.out (blk_lt HX3.out)); have HRG := Lib.hid (st_range (below_blk hb4 HX3.out (blk_lt HX3.out))); clear hx4 hb4))
        refine (set_calls w4 p (s0 n i k).cells (s0 n i k).cells (s.rg.map (Value.int .i64)) Ac l.length cc words fuel s.at0 s.steps s.over s.value (by simp [HR.out]) (by intro u hu; obtain ⟨v, _, rfl⟩ := List.mem_map.1 hu; rfl) (HM4.out.vm)).mono ?_
        intro e5 w5 hd5
        obtain ⟨he5, hk5, hv5⟩ := hd5
        rw [HMS.out] at he5 hv5
        subst he5
        have hx5 := hk5.blk HX3b.out (by have := HP.out; omega)
        have hB4 := HB3.out.trans (HB4.out.mono HB3.out.size)
        have HB5 := Lib.hid (hB4.trans (hk5.toBelow hB4.size (fun q e => by subst e; have := HP.out; omega)))
        have HM5 := Lib.hid (show Mach w5 p l words fuel (s0 n i k).cells (s0 n i k) Ac cc from ⟨hv5, HM4.out.row.far hk5 (fun b o hb e => by have := HM4.out.ne b o hb; omega), HM4.out.ne, HM4.out.good, HM4.out.ok, HM4.out.fuel⟩)
        have hx5b := hk5.blk HX4.out (by have := HM3.out.vm.lt; omega)
        have HXS := Lib.hid hx5b
        clear hk5 hv5 hB4 hx5 HB4 hx5b
        go_wp2_with fail
        have he := state_eq (s0 n i k) rfl
        have hrg5 := st_range HXS.out
        refine wp_region_noPanic ?_
        refine wp_region_held_drew (S := fun V => V.rangeAt w3.heap.size 0 (s0 n i k).cells) (by kernel_rfl) (range_drewN hrg5 1) (fun hHeld => ?_)
        refine wpAnyH_take (i := 0) (oi := ⟨some 78, _, _, _, _, _⟩) (v := .pointer (some ⟨p, 0, none⟩)) rfl (by kernel_rfl) (by kernel_rfl) (by kernel_rfl) (fun _ _ _ h => h) (Or.inl ⟨by rfl, fun V _ => by go_simp⟩) (by assumption) ?_
        simp only [Act.put, List.setIfInBounds_toArray, List.set_cons_zero, List.set_cons_succ]
        refine wpAnyH_take (i := 2) (oi := ⟨some 80, _, _, _, _, _⟩) (v := .agg (s0 n i k).cells.toArray) rfl (by kernel_rfl) (by kernel_rfl) (by kernel_rfl) (fun _ _ _ h => h) (yieldsIf_load_mid (by rfl) _ _ rfl _ _ rfl _ _ (fun V hV => hV) Try.underlying45 rfl (by rw [St.len rfl]; exact info_state)) (by assumption) ?_
        simp only [Act.put, List.setIfInBounds_toArray, List.set_cons_zero, List.set_cons_succ]
        refine wpAnyH_ready (rs := [1]) (by kernel_rfl) (by simp) ?_
        refine AllReadyH.cons (o := ⟨some 79, _, _, _, _, _⟩) rfl (fun K hK => ?_) AllReadyH.nil
        go_simp
        refine (HM5.out.drew.now).mono ?_
        rintro y w6 ⟨rfl, hb6⟩
        refine hK.out _ _ (range_below hb6 hHeld) (fun hHeld6 => ?_)
        clear hK K
        try simp only [Act.put, List.setIfInBounds_toArray, List.set_cons_zero, List.set_cons_succ]
        refine wpAnyH_take (i := 3) (oi := ⟨some 81, _, _, _, _, _⟩) (v := .bool true) rfl (by kernel_rfl) (by kernel_rfl) (by kernel_rfl) (fun _ _ _ h => h) (Or.inl ⟨by rfl, fun V _ => by go_simp⟩) (by assumption) ?_
        try simp only [Act.put, List.setIfInBounds_toArray, List.set_cons_zero, List.set_cons_succ]
        refine wpAnyH_take (i := 4) (oi := ⟨some 82, _, _, _, _, _⟩) (v := .bool true) rfl (by kernel_rfl) (by kernel_rfl) (by kernel_rfl) (fun _ _ _ h => h) (Or.inl ⟨by rfl, fun V _ => by go_simp⟩) (by assumption) ?_
        try simp only [Act.put, List.setIfInBounds_toArray, List.set_cons_zero, List.set_cons_succ]
        refine wpAnyH_ready (rs := [5]) (by kernel_rfl) (by simp) ?_
        refine AllReadyH.cons (o := ⟨some 83, _, _, _, _, _⟩) rfl (fun K hK => ?_) AllReadyH.nil
        go_simp
        refine (alive_calls _).mono ?_
        rintro y w7 ⟨rfl, hb7⟩
        refine hK.out _ _ (range_below hb7 hHeld6) (fun hHeld7 => ?_)
        clear hK K
        try simp only [Act.put, List.setIfInBounds_toArray, List.set_cons_zero, List.set_cons_succ]
        refine wpAnyH_take (i := 6) (oi := ⟨some 84, _, _, _, _, _⟩) (v := .bool true) rfl (by kernel_rfl) (by kernel_rfl) (by kernel_rfl) (fun _ _ _ h => h) (Or.inl ⟨by rfl, fun V _ => by go_simp⟩) (by assumption) ?_
        try simp only [Act.put, List.setIfInBounds_toArray, List.set_cons_zero, List.set_cons_succ]
        refine wpAnyH_take (i := 7) (oi := ⟨some 4, _, _, _, _, _⟩) (v := .bool true) rfl (by kernel_rfl) (by kernel_rfl) (by kernel_rfl) (fun _ _ _ h => h) (Or.inl ⟨by rfl, fun V _ => by go_simp⟩) (by assumption) ?_
        try simp only [Act.put, List.setIfInBounds_toArray, List.set_cons_zero, List.set_cons_succ]
        refine wpAnyH_done (by kernel_rfl) ?_ _
        refine NoPanic.normal ?_
        clear he
        have hfin := HB5.out.trans ((below_fromdrew hb6).mono HB5.out.size)
        have hfin7 := hfin.trans (hb7.mono hfin.size)
        go_wp2
        go_ret
        exact ⟨rfl, hfin7⟩
    · rw [if_neg hz] at hd
      subst hd
      rw [show (Value.agg zeroM) = .agg #[.slice none 0 0, .int .i64 0, .int .i64 0, .slice none 0 0, .int .i64 0, .int .i64 0, .int .i64 0, .int .i64 0] from rfl]
      go_wp2_with fail
      refine (alive_calls _).mono ?_
      rintro y w2 ⟨rfl, hb2⟩
      go_wp2
      go_ret
      exact ⟨rfl, (HB1.out.al).trans (hb2.mono (HB1.out.al).size)⟩
end Go.Proofs.Ytnikcdcaaeljmaa.My
