/- The law VmSteps, walked: step by step a machine wants and does what the document says. Conditions: the text and the numbers lie in memory; numbers of 64 bits. -/
import Derived.Test.YtnikcdcaaeljmaaVmRt
import Derived.Test.YtnikcdcaaeljmaaVmRw
namespace Go.Proofs.Ytnikcdcaaeljmaa.My
open Go.RowKit Go.Proofs.Ytnikcdcaaeljmaa.NumA
set_option linter.unusedVariables false
set_option linter.unusedSimpArgs false
theorem Mach.drewN {w : World} {p : Nat} {l : List Ins} {words fuel : Int} {first : List Value} {s : St} {Ac : Option Addr} {cc : Nat} (h : Mach w p l words fuel first s Ac cc) (m : Nat) : Mach (w.drewN m) p l words fuel first s Ac cc := ⟨h.vm, h.row, h.ne, h.good, h.ok, h.fuel⟩
theorem Mach.drew {w : World} {p : Nat} {l : List Ins} {words fuel : Int} {first : List Value} {s : St} {Ac : Option Addr} {cc : Nat} (h : Mach w p l words fuel first s Ac cc) : Mach w.drew p l words fuel first s Ac cc := ⟨h.vm, h.row, h.ne, h.good, h.ok, h.fuel⟩
theorem range_below {w w1 : World} {b o : Nat} {cs : List Value} (hb : Below w.heap.size w w1) (h : w.rangeAt b o cs) : w1.rangeAt b o cs := fun j v hv => hb.cellOf (h j v hv)
def gotI (g : List Int) (i : Nat) : Int := if g.length = 0 then 0 else g.getD (i % g.length) 0
theorem numRow.at {W w : World} {l : List Int} {A : Option Addr} (h : numRow W l A) (hB : Below W.heap.size W w) {j : Nat} (hj : j < l.length) : ∃ b o, A = some ⟨b, o, none⟩ ∧ w.cell? ⟨b, o + j, none⟩ = some (.int .i64 l[j]) := by
  obtain ⟨b, o, hA, hc⟩ := h j hj
  exact ⟨b, o, hA, hB.cellOf hc⟩
theorem range_keep {w w1 : World} {O : Nat → Prop} {b o : Nat} {cs : List Value} (k : Keep O w w1) (hn : ¬ O b) (h : w.rangeAt b o cs) : w1.rangeAt b o cs := fun j v hv => k.cellAt hn (h j v hv)
theorem tmod_bounds (a b : Int) (hb : 0 < b) : -b < Int.tmod a b ∧ Int.tmod a b < b := by
  rcases Int.le_total 0 a with h | h
  · rw [Int.tmod_eq_emod_of_nonneg h]; have := Int.emod_nonneg a (show b ≠ 0 by omega); have := Int.emod_lt_of_pos a hb; omega
  · have e : Int.tmod a b = -(Int.tmod (-a) b) := by rw [Int.neg_tmod]; omega
    rw [e, Int.tmod_eq_emod_of_nonneg (by omega)]; have := Int.emod_nonneg (-a) (show b ≠ 0 by omega); have := Int.emod_lt_of_pos (-a) hb; omega
theorem info_M : (Try.prog.info? 29).map (·.size) = some 8 := by kernel_rfl
theorem info_W : (Try.prog.info? 35).map (·.size) = some 3 := by kernel_rfl
set_option maxRecDepth 100000 in
theorem want_eqD (d : Nat) (k a v : Int) (w : World) : (Op.equalIn (d + 2) 35 (.agg #[.int .i64 k, .int .i64 a, .int .i64 v]) (.agg #[.int .i64 k, .int .i64 a, .int .i64 v])).run Try.prog w = .ok true w := by
  rw [run_equalIn_struct (P := Try.prog) w (d + 1) 35 _ _ (by kernel_rfl) (by kernel_rfl)]
  obtain ⟨fs, hfs⟩ : ∃ fs, (Try.prog.fieldsOf 35).toList = fs := ⟨_, rfl⟩
  have h0 : (Try.prog.fieldsOf 35).toList.map (fun f => (f.name, f.type, f.offset)) = [("Kind", 33, 0), ("At", 3, 1), ("Value", 2, 2)] := by kernel_rfl
  rw [hfs] at h0 ⊢
  match fs, h0 with
  | [f0, f1, f2], h0 =>
    simp only [List.map_cons, List.map_nil, List.cons.injEq, Prod.mk.injEq, and_true] at h0
    obtain ⟨⟨n0, t0, o0⟩, ⟨n1, t1, o1⟩, n2, t2, o2⟩ := h0
    have pp : ∀ (j : Nat) (u : Int) (t : TypeId), (#[.int .i64 k, .int .i64 a, .int .i64 v] : Array Value)[j]? = some (.int .i64 u) → Try.prog.underlying t = some (.int .i64) → (part t #[.int .i64 k, .int .i64 a, .int .i64 v] j).run Try.prog w = .ok (.int .i64 u) w := fun j u t h hu => part_one w t _ j _ _ hu rfl h
    have p0 := pp 0 k 33 rfl Try.underlying33
    have p1 := pp 1 a 3 rfl Try.underlying3
    have p2 := pp 2 v 2 rfl Try.underlying2
    have q : ∀ (t : TypeId) (u : Int), Try.prog.underlying t = some (.int .i64) → (Op.equalIn (d + 1) t (.int .i64 u) (.int .i64 u)).run Try.prog w = .ok true w := fun t u hu => by
      rw [run_equalIn_int (P := Try.prog) w d t _ _ _ _ hu]; simp
    have q0 := q 33 k Try.underlying33
    have q1 := q 3 a Try.underlying3
    have q2 := q 2 v Try.underlying2
    simp only [Op.eqFields, n0, n1, n2, t0, t1, t2, o0, o1, o2]
    have hs : ∀ (x : String), (x ≠ "_") → ∀ (A B : Sem Bool), (if x ≠ "_" then A else B) = A := fun x hx A B => if_pos hx
    rw [hs _ (by decide), Sem.run_bind, p0, Result.andThen_ok, Sem.run_bind, p0, Result.andThen_ok, Sem.run_bind, q0, Result.andThen_ok, if_neg (by decide)]
    rw [hs _ (by decide), Sem.run_bind, p1, Result.andThen_ok, Sem.run_bind, p1, Result.andThen_ok, Sem.run_bind, q1, Result.andThen_ok, if_neg (by decide)]
    rw [hs _ (by decide), Sem.run_bind, p2, Result.andThen_ok, Sem.run_bind, p2, Result.andThen_ok, Sem.run_bind, q2, Result.andThen_ok, if_neg (by decide)]
    rfl
theorem want_eq (k a v : Int) (w : World) : (Op.equalIn 10000 35 (.agg #[.int .i64 k, .int .i64 a, .int .i64 v]) (.agg #[.int .i64 k, .int .i64 a, .int .i64 v])).run Try.prog w = .ok true w := want_eqD 9998 k a v w
set_option maxRecDepth 100000 in
set_option maxHeartbeats 2000000 in
theorem state_calls (s : St) (hr : s.rg.length = 16) (Ac : Option Addr) (n cc : Nat) (words fuel : Int) (R : Option Addr) (cr : Nat) (w : World) (hrow : Row w 2 1 (.slice R 16 cr) 16 (nums s.rg)) :
    Calls Try.prog 15 #[.agg s.cells.toArray, .agg #[.slice Ac n cc, .int .i64 words, .int .i64 fuel, .slice R 16 cr, .int .i64 s.at0, .int .i64 s.steps, .int .i64 s.over, .int .i64 s.value]] w fun e w' => e = .returned (.bool true) ∧ Below w.heap.size w w' := by
  obtain ⟨gR, rfl⟩ : ∃ g, R = some ⟨g, 0, none⟩ := by
    obtain ⟨g, e1, _⟩ := hrow.cellA (nums_get (show 0 < s.rg.length by omega))
    exact ⟨g, e1⟩
  have hb : Below w.heap.size w ((w.alloc (.cells s.cells.toArray 45)).alloc (.cells #[.slice Ac n cc, .int .i64 words, .int .i64 fuel, .slice (some ⟨gR, 0, none⟩) 16 cr, .int .i64 s.at0, .int .i64 s.steps, .int .i64 s.over, .int .i64 s.value] 29)) := ((Below.refl _ _).al).al
  have hx0 := blk_alloc (blk_new w (.cells s.cells.toArray 45)) (.cells #[.slice Ac n cc, .int .i64 words, .int .i64 fuel, .slice (some ⟨gR, 0, none⟩) 16 cr, .int .i64 s.at0, .int .i64 s.steps, .int .i64 s.over, .int .i64 s.value] 29)
  have hx1 := blk_new (w.alloc (.cells s.cells.toArray 45)) (.cells #[.slice Ac n cc, .int .i64 words, .int .i64 fuel, .slice (some ⟨gR, 0, none⟩) 16 cr, .int .i64 s.at0, .int .i64 s.steps, .int .i64 s.over, .int .i64 s.value] 29)
  rw [size_al] at hx1
  obtain ⟨w1, hw1⟩ : ∃ w1, ((w.alloc (.cells s.cells.toArray 45)).alloc (.cells #[.slice Ac n cc, .int .i64 words, .int .i64 fuel, .slice (some ⟨gR, 0, none⟩) 16 cr, .int .i64 s.at0, .int .i64 s.steps, .int .i64 s.over, .int .i64 s.value] 29)) = w1 := ⟨_, rfl⟩
  rw [hw1] at hx0 hx1 hb
  have HX0 := Lib.hid hx0
  have HX1 := Lib.hid hx1
  have HB := Lib.hid hb
  have HR := Lib.hid (hrow.below hb)
  have HL := Lib.hid hr
  have HW := Lib.hid hw1
  clear hx0 hx1 hb hrow hr hw1
  go_enter Try.func15, Try.ntmps15
  go_wp2
  rw [HW.out]
  go_loopw [5] (fun i wr => ∃ k : Nat, i = .int .i64 (k : Int) ∧ k ≤ 16 ∧ Hid (Below w1.heap.size w1 wr)) (fun i _ => 16 - (intOf i).toNat)
  case atStart => exact ⟨0, rfl, by omega, Lib.hid (Below.refl _ _)⟩
  case round =>
    obtain ⟨k, rfl, hk, HK⟩ := hrel
    by_cases hlt : k < 16
    · have hlt' : (k : Int) < 16 := by omega
      have hk0 : (0 : Int) ≤ (k : Int) := by omega
      obtain ⟨v, hv⟩ : ∃ v, s.reg k = v := ⟨_, rfl⟩
      have C0 := Lib.hid (show wr.cell? ⟨w.heap.size, k, none⟩ = some (.int .i64 v) from HK.out.cellOf ((blk_cell HX0.out k).trans (by rw [← hv]; simpa using St.cell HL.out hlt)))
      have C3 := Lib.hid (show wr.cell? ⟨w.heap.size + 1, 3, none⟩ = some (.slice (some ⟨gR, 0, none⟩) 16 cr) from HK.out.cellOf (blk_cell HX1.out 3))
      have CG := Lib.hid (show wr.cell? ⟨gR, k, none⟩ = some (.int .i64 v) from HK.out.cellOf (by
        obtain ⟨g', e1, e2⟩ := HR.out.cellA (nums_get (show k < s.rg.length by have := HL.out; omega))
        injection e1 with e1; injection e1 with e1 _ _; subst e1; rw [← hv]; exact e2))
      clear hv
      go_wp2
      have c0 := C0.out
      have c3 := C3.out
      have cg := CG.out
      go_quiet ((fail))
      clear c0 c3 cg
      go_wp2
      go_roundw
      case rel => exact ⟨k + 1, by go_num, by omega, Lib.hid (below_drewN HK.out _)⟩
      case measure => simp [intOf]; omega
    · have hk' : k = 16 := by omega
      subst hk'
      have c16 : wr.cell? ⟨w.heap.size, 16, none⟩ = some (.int .i64 s.at0) := HK.out.cellOf ((blk_cell HX0.out 16).trans (by simpa using St.cell16 HL.out))
      have c17 : wr.cell? ⟨w.heap.size, 17, none⟩ = some (.int .i64 s.steps) := HK.out.cellOf ((blk_cell HX0.out 17).trans (by simpa using St.cell17 HL.out))
      have c18 : wr.cell? ⟨w.heap.size, 18, none⟩ = some (.int .i64 s.over) := HK.out.cellOf ((blk_cell HX0.out 18).trans (by simpa using St.cell18 HL.out))
      have c19 : wr.cell? ⟨w.heap.size, 19, none⟩ = some (.int .i64 s.value) := HK.out.cellOf ((blk_cell HX0.out 19).trans (by simpa using St.cell19 HL.out))
      have m4 : wr.cell? ⟨w.heap.size + 1, 4, none⟩ = some (.int .i64 s.at0) := HK.out.cellOf (blk_cell HX1.out 4)
      have m5 : wr.cell? ⟨w.heap.size + 1, 5, none⟩ = some (.int .i64 s.steps) := HK.out.cellOf (blk_cell HX1.out 5)
      have m6 : wr.cell? ⟨w.heap.size + 1, 6, none⟩ = some (.int .i64 s.over) := HK.out.cellOf (blk_cell HX1.out 6)
      have m7 : wr.cell? ⟨w.heap.size + 1, 7, none⟩ = some (.int .i64 s.value) := HK.out.cellOf (blk_cell HX1.out 7)
      go_wp2
      go_ret
      exact ⟨rfl, HB.out.trans (HK.out.mono HB.out.size)⟩
set_option maxRecDepth 100000 in
set_option maxHeartbeats 8000000 in
theorem vmSteps_calls (l : List Ins) (A : Option Addr) (c : Nat) (cells words fuel n i kk : Int) (g : List Int) (B : Option Addr) (gc : Nat) (steps : Int) (W : World) (hrd : insRow W l A) (hlm : l.length ≤ maxLen) (hin : ∀ y ∈ l, y.in64) (hn : in64 n) (hi : in64 i) (hk : in64 kk) (hg : numRow W g B) (hgl : g.length ≤ maxLen) (hgc : g.length ≤ gc) (hgi : ∀ y ∈ g, in64 y) (hst : in64 steps) :
    Calls Try.prog 3 #[.agg #[.slice A l.length c, .int .i64 cells, .int .i64 words, .int .i64 fuel, .int .i64 n, .int .i64 i, .int .i64 kk], .slice B g.length gc, .int .i64 steps] W fun e W' => e = .returned (.bool true) ∧ Below W.heap.size W W' := by
  unfold maxLen at hlm hgl
  have HRD := Lib.hid hrd
  have HG := Lib.hid hg
  have HGI := Lib.hid hgi
  have HN : Hid (∀ x ∈ l, b64 x.n) := Lib.hid hin
  have HR0 : Hid (reg64 (s0 n i kk)) := Lib.hid (by
    intro v hv
    have h0 : b64 0 := ⟨by decide, by decide⟩
    simp only [s0, List.mem_cons, List.not_mem_nil, or_false] at hv
    rcases hv with rfl | rfl | rfl | hv
    · exact hn
    · exact hi
    · exact hk
    · have : v = 0 := by simp_all
      subst this; exact h0)
  clear hrd hg hin hn hi hk hgi
  by_cases hl : 1000 < l.length
  · have hl' : (l.length : Int) > 1000 := by omega
    go_enter Try.func3, Try.ntmps3
    go_wp2
    go_ret
    exact ⟨rfl, (Below.refl _ _).al⟩
  · have hl' : ¬ ((l.length : Int) > 1000) := by omega
    have b1 := hst
    obtain ⟨m1, hm1⟩ : ∃ m, Int.tmod steps 300 = m := ⟨_, rfl⟩
    have c1 : -300 < m1 ∧ m1 < 300 := by rw [← hm1]; exact tmod_bounds steps 300 (by omega)
    obtain ⟨c1a, c1b⟩ := c1
    obtain ⟨N, hN⟩ : ∃ N : Nat, (m1 + 300) % 300 = (N : Int) := ⟨((m1 + 300) % 300).toNat, by omega⟩
    have hN2 : N < 300 := by omega
    have HT := Lib.hid (And.intro hm1 hN)
    clear hst b1 hm1 hN
    go_enter Try.func3, Try.ntmps3
    go_wp2_with fail
    have hb0 : Below W.heap.size W (W.alloc (.cells (caseCells A l.length c cells words fuel n i kk) 24)) := (Below.refl _ _).al
    refine (made_calls W l A c cells words fuel n i kk HRD.out (by omega) _ hb0).mono ?_
    intro e1 w1 hd
    obtain ⟨hb1, hd⟩ := hd
    have HB1 := Lib.hid (hb0.trans (hb1.mono hb0.size))
    have HS1 := Lib.hid (size_al W (.cells (caseCells A l.length c cells words fuel n i kk) 24))
    clear hb0 hb1
    by_cases hz : newE l cells words fuel = 0
    · rw [if_pos hz] at hd
      obtain ⟨p, Ac, cc, R, cr, rfl, hp, hm, hrow⟩ := hd
      have HM1 := Lib.hid hm
      have HRW := Lib.hid hrow
      have HP := Lib.hid (show W.heap.size ≤ p by have h1 := HS1.out; omega)
      clear hz hp hm hrow
      have ht := HT.out
      obtain ⟨h1, h2⟩ := ht
      go_wp2_with fail
      have hx2 := blk_new w1 (.cells #[.slice A l.length c, .int .i64 words, .int .i64 fuel, .slice R 16 cr, .int .i64 (s0 n i kk).at0, .int .i64 (s0 n i kk).steps, .int .i64 (s0 n i kk).over, .int .i64 (s0 n i kk).value] 29)
      have hb2 : Below w1.heap.size w1 (w1.alloc (.cells #[.slice A l.length c, .int .i64 words, .int .i64 fuel, .slice R 16 cr, .int .i64 (s0 n i kk).at0, .int .i64 (s0 n i kk).steps, .int .i64 (s0 n i kk).over, .int .i64 (s0 n i kk).value] 29)) := (Below.refl _ _).al
      obtain ⟨w2, hw2⟩ : ∃ w2, w1.alloc (.cells #[.slice A l.length c, .int .i64 words, .int .i64 fuel, .slice R 16 cr, .int .i64 0, .int .i64 0, .int .i64 0, .int .i64 0] 29) = w2 := ⟨_, rfl⟩
      rw [show w1.alloc (.cells #[.slice A l.length c, .int .i64 words, .int .i64 fuel, .slice R 16 cr, .int .i64 (s0 n i kk).at0, .int .i64 (s0 n i kk).steps, .int .i64 (s0 n i kk).over, .int .i64 (s0 n i kk).value] 29) = w2 from hw2] at hx2 hb2
      rw [h2, hw2]
      clear h1 h2
      obtain ⟨b8, hb8⟩ : ∃ b, w1.heap.size = b := ⟨_, rfl⟩
      have HMw := Lib.hid (HM1.out.below hb2)
      have HBw := Lib.hid (HB1.out.trans (hb2.mono HB1.out.size))
      have HRw := Lib.hid (show Row w2 2 1 (.slice R 16 cr) 16 (nums (s0 n i kk).rg) from HRW.out.below hb2)
      have HP0 := Lib.hid (show W.heap.size ≤ p ∧ p < b8 by have h1 := HP.out; have h2 := HM1.out.vm.lt; omega)
      rw [hb8] at hx2 ⊢
      have HXw := Lib.hid hx2
      clear hx2 hb2 hw2 hb8 HM1 HRW HB1 HP HS1
      go_loopw [10] (fun iv wr => ∃ (k : Nat) (s : St) (R : Option Addr) (cr : Nat), iv = .int .i64 (k : Int) ∧ k ≤ N ∧ Hid (Below W.heap.size W wr) ∧ Hid (Mach wr p l words fuel (s0 n i kk).cells s Ac cc) ∧ Hid (wr.heap[b8]? = some (.cells #[.slice A l.length c, .int .i64 words, .int .i64 fuel, .slice R 16 cr, .int .i64 s.at0, .int .i64 s.steps, .int .i64 s.over, .int .i64 s.value] 29 (0, 0))) ∧ Hid (Row wr 2 1 (.slice R 16 cr) 16 (nums s.rg)) ∧ Hid (reg64 s)) (fun iv _ => N - (intOf iv).toNat)
      case atStart => exact ⟨0, s0 n i kk, R, cr, rfl, Nat.zero_le _, HBw, HMw, HXw, HRw, HR0⟩
      case round =>
        clear HBw HMw HXw HRw HR0
        obtain ⟨k, s, R, cr, rfl, hkN, HBr, HMr, HXr, HRr, HEr⟩ := hrel
        by_cases hlt : k < N
        · have hlt' : (k : Int) < (N : Int) := by omega
          obtain ⟨⟨wk, wa, wv⟩, hws⟩ : ∃ x, wantS l words fuel s = x := ⟨_, rfl⟩
          have HWS := Lib.hid hws
          obtain ⟨got, hgot⟩ : ∃ v, gotI g k = v := ⟨_, rfl⟩
          obtain ⟨s1, hs1⟩ : ∃ s1, stepS l words fuel s got = s1 := ⟨_, rfl⟩
          have HSS := Lib.hid hs1
          clear hws hs1
          by_cases hz : g.length = 0
          · have hgt : ¬ ((g.length : Int) > 0) := by omega
            obtain rfl : 0 = got := by rw [← hgot]; simp [gotI, hz]
            have HE1 := Lib.hid (show reg64 s1 from HSS.out ▸ reg64_step HEr.out HN.out ⟨by decide, by decide⟩)
            clear hgot hz
            have c6 := blk_cell HXr.out 6
            go_wp2_with (refine wpList_load_mid (by rfl) 29 _ (by rfl) b8 0 (by rfl) [.slice A l.length c, .int .i64 words, .int .i64 fuel, .slice R 16 cr, .int .i64 s.at0, .int .i64 s.steps, .int .i64 s.over, .int .i64 s.value] _ (range_at HXr.out 0 _ rfl) Try.underlying29 rfl (show _ = some 8 from info_M) ?_)
            refine (refWant_calls wr l A c words fuel R cr s HMr.out.ok.1 HRr.out (HRD.out.keep HBr.out) (by have := HMr.out.good.2.1; omega) (fun x hx => (HMr.out.good.2.2.1 x hx).1) HN.out HEr.out HMr.out.ok.2.1 HMr.out.ok.2.2.1 HMr.out.ok.2.2.2.2).mono ?_
            rintro y w3 ⟨rfl, hb3⟩
            rw [HWS.out]
            dsimp only
            clear c6
            have HB3 := Lib.hid (HBr.out.trans (hb3.mono HBr.out.size))
            have HM3 := Lib.hid (HMr.out.below hb3)
            have HX3 := Lib.hid (below_blk hb3 HXr.out (blk_lt HXr.out))
            have HR3 := Lib.hid (HRr.out.below hb3)
            have HL3 := Lib.hid (blk_lt HX3.out)
            clear hb3
            go_wp2_with fail
            have hb4 : Below w3.heap.size w3 (w3.alloc (.cells #[.int .i64 wk, .int .i64 wa, .int .i64 wv] 35)) := (Below.refl _ _).al
            have hx4 := blk_new w3 (.cells #[.int .i64 wk, .int .i64 wa, .int .i64 wv] 35)
            generalize w3.alloc (.cells #[.int .i64 wk, .int .i64 wa, .int .i64 wv] 35) = w4 at *
            obtain ⟨b13, hb13⟩ : ∃ b, w3.heap.size = b := ⟨_, rfl⟩
            have HB4 := Lib.hid (HB3.out.trans (hb4.mono HB3.out.size))
            have HM4 := Lib.hid (HM3.out.below hb4)
            have HX4 := Lib.hid (below_blk hb4 HX3.out (blk_lt HX3.out))
            have HR4 := Lib.hid (HR3.out.below hb4)
            rw [hb13] at hx4 ⊢
            have HY4 := Lib.hid hx4
            have HP13 := Lib.hid (show b13 ≠ p by have := HM3.out.vm.lt; omega)
            clear hb4 hx4 hb13
            have hrg := range_at HY4.out 0 [.int .i64 wk, .int .i64 wa, .int .i64 wv] rfl
            refine wp_region_noPanic ?_
            refine wp_region_held_drew (S := fun V => V.rangeAt b13 0 [.int .i64 wk, .int .i64 wa, .int .i64 wv]) (by kernel_rfl) (range_drewN hrg 1) (fun hHeld => ?_)
            refine wpAnyH_take (i := 0) (oi := ⟨some 60, _, _, _, _, _⟩) (v := .pointer (some ⟨p, 0, none⟩)) rfl (by kernel_rfl) (by kernel_rfl) (by kernel_rfl) (fun _ _ _ h => h) (Or.inl ⟨by rfl, fun V hV => by go_simp⟩) (by assumption) ?_
            try simp only [Act.put, List.setIfInBounds_toArray, List.set_cons_zero, List.set_cons_succ]
            refine wpAnyH_take (i := 2) (oi := ⟨some 62, _, _, _, _, _⟩) (v := .agg #[.int .i64 wk, .int .i64 wa, .int .i64 wv]) rfl (by kernel_rfl) (by kernel_rfl) (by kernel_rfl) (fun _ _ _ h => h) (yieldsIf_load_mid (by rfl) _ _ rfl _ _ rfl _ _ (fun V hV => hV) Try.underlying35 rfl info_W) (by assumption) ?_
            try simp only [Act.put, List.setIfInBounds_toArray, List.set_cons_zero, List.set_cons_succ]
            refine wpAnyH_ready (rs := [1]) (by kernel_rfl) (by simp) ?_
            refine AllReadyH.cons (o := ⟨some 61, _, _, _, _, _⟩) rfl (fun K hK => ?_) AllReadyH.nil
            go_simp
            refine (HM4.out.drew.want).mono ?_
            rintro y w5 ⟨rfl, hb5⟩
            rw [HWS.out]
            dsimp only
            refine hK.out _ _ (range_below hb5 hHeld) (fun hHeld' => ?_)
            clear hK K hHeld
            have hHeld := hHeld'
            clear hHeld'
            try simp only [Act.put, List.setIfInBounds_toArray, List.set_cons_zero, List.set_cons_succ]
            have he := want_eq wk wa wv
            refine wpAnyH_take (i := 3) (oi := ⟨some 63, _, _, _, _, _⟩) (v := .bool false) rfl (by kernel_rfl) (by kernel_rfl) (by kernel_rfl) (fun _ _ _ h => h) (Or.inl ⟨by rfl, fun V hV => by go_simp⟩) (by assumption) ?_
            try simp only [Act.put, List.setIfInBounds_toArray, List.set_cons_zero, List.set_cons_succ]
            refine wpAnyH_take (i := 4) (oi := ⟨some 64, _, _, _, _, _⟩) (v := .bool false) rfl (by kernel_rfl) (by kernel_rfl) (by kernel_rfl) (fun _ _ _ h => h) (Or.inl ⟨by rfl, fun V hV => by go_simp⟩) (by assumption) ?_
            try simp only [Act.put, List.setIfInBounds_toArray, List.set_cons_zero, List.set_cons_succ]
            refine wpAnyH_take (i := 5) (oi := ⟨some 65, _, _, _, _, _⟩) (v := .pointer (some ⟨p, 0, none⟩)) rfl (by kernel_rfl) (by kernel_rfl) (by kernel_rfl) (fun _ _ _ h => h) (Or.inl ⟨by rfl, fun V hV => by go_simp⟩) (by assumption) ?_
            try simp only [Act.put, List.setIfInBounds_toArray, List.set_cons_zero, List.set_cons_succ]
            refine wpAnyH_take (i := 7) (oi := ⟨some 67, _, _, _, _, _⟩) (v := .agg #[.int .i64 wk, .int .i64 wa, .int .i64 wv]) rfl (by kernel_rfl) (by kernel_rfl) (by kernel_rfl) (fun _ _ _ h => h) (yieldsIf_load_mid (by rfl) _ _ rfl _ _ rfl _ _ (fun V hV => hV) Try.underlying35 rfl info_W) (by assumption) ?_
            try simp only [Act.put, List.setIfInBounds_toArray, List.set_cons_zero, List.set_cons_succ]
            have hm5 := HM4.out.drew.below hb5
            refine wpAnyH_ready (rs := [6]) (by kernel_rfl) (by simp) ?_
            refine AllReadyH.cons (o := ⟨some 66, _, _, _, _, _⟩) rfl (fun K hK => ?_) AllReadyH.nil
            go_simp
            refine (hm5.want).mono ?_
            rintro y w6 ⟨rfl, hb6⟩
            rw [HWS.out]
            dsimp only
            refine hK.out _ _ (range_below hb6 hHeld) (fun hHeld' => ?_)
            clear hK K hHeld
            have hHeld := hHeld'
            clear hHeld'
            try simp only [Act.put, List.setIfInBounds_toArray, List.set_cons_zero, List.set_cons_succ]
            refine wpAnyH_take (i := 8) (oi := ⟨some 68, _, _, _, _, _⟩) (v := .bool false) rfl (by kernel_rfl) (by kernel_rfl) (by kernel_rfl) (fun _ _ _ h => h) (Or.inl ⟨by rfl, fun V hV => by go_simp⟩) (by assumption) ?_
            try simp only [Act.put, List.setIfInBounds_toArray, List.set_cons_zero, List.set_cons_succ]
            clear he
            refine wpAnyH_take (i := 9) (oi := ⟨some 69, _, _, _, _, _⟩) (v := .bool false) rfl (by kernel_rfl) (by kernel_rfl) (by kernel_rfl) (fun _ _ _ h => h) (Or.inl ⟨by rfl, fun V hV => by go_simp⟩) (by assumption) ?_
            try simp only [Act.put, List.setIfInBounds_toArray, List.set_cons_zero, List.set_cons_succ]
            refine wpAnyH_take (i := 10) (oi := ⟨some 70, _, _, _, _, _⟩) (v := .bool false) rfl (by kernel_rfl) (by kernel_rfl) (by kernel_rfl) (fun _ _ _ h => h) (Or.inl ⟨by rfl, fun V hV => by go_simp⟩) (by assumption) ?_
            try simp only [Act.put, List.setIfInBounds_toArray, List.set_cons_zero, List.set_cons_succ]
            refine wpAnyH_take (i := 11) (oi := ⟨some 71, _, _, _, _, _⟩) (v := .pointer (some ⟨p, 0, none⟩)) rfl (by kernel_rfl) (by kernel_rfl) (by kernel_rfl) (fun _ _ _ h => h) (Or.inl ⟨by rfl, fun V hV => by go_simp⟩) (by assumption) ?_
            try simp only [Act.put, List.setIfInBounds_toArray, List.set_cons_zero, List.set_cons_succ]
            refine wpAnyH_take (i := 12) (oi := ⟨some 72, _, _, _, _, _⟩) (v := .int .i64 0) rfl (by kernel_rfl) (by kernel_rfl) (by kernel_rfl) (fun _ _ _ h => h) (Or.inl ⟨by rfl, fun V hV => by go_simp⟩) (by assumption) ?_
            try simp only [Act.put, List.setIfInBounds_toArray, List.set_cons_zero, List.set_cons_succ]
            refine wpAnyH_take (i := 14) (oi := ⟨some 74, _, _, _, _, _⟩) (v := .bool (s.over == 0)) rfl (by kernel_rfl) (by kernel_rfl) (by kernel_rfl) (fun _ _ _ h => h) (Or.inl ⟨by rfl, fun V hV => by go_simp⟩) (by assumption) ?_
            try simp only [Act.put, List.setIfInBounds_toArray, List.set_cons_zero, List.set_cons_succ]
            have hm6 := hm5.below hb6
            refine wpAnyH_ready (rs := [13]) (by kernel_rfl) (by simp) ?_
            refine AllReadyH.cons (o := ⟨some 73, _, _, _, _, _⟩) rfl (fun K hK => ?_) AllReadyH.nil
            go_simp
            refine (hm6.step 0).mono ?_
            rintro y w7 ⟨rfl, hk7, hm7⟩
            refine hK.out _ _ (range_keep hk7 (fun e => HP13.out e) hHeld) (fun hHeld' => ?_)
            clear hK K hHeld
            have hHeld := hHeld'
            clear hHeld'
            try simp only [Act.put, List.setIfInBounds_toArray, List.set_cons_zero, List.set_cons_succ]
            refine wpAnyH_take (i := 15) (oi := ⟨some 75, _, _, _, _, _⟩) (v := .bool false) rfl (by kernel_rfl) (by kernel_rfl) (by kernel_rfl) (fun _ _ _ h => h) (Or.inl ⟨by rfl, fun V hV => by go_simp⟩) (by assumption) ?_
            try simp only [Act.put, List.setIfInBounds_toArray, List.set_cons_zero, List.set_cons_succ]
            refine wpAnyH_take (i := 16) (oi := ⟨some 76, _, _, _, _, _⟩) (v := .bool false) rfl (by kernel_rfl) (by kernel_rfl) (by kernel_rfl) (fun _ _ _ h => h) (Or.inl ⟨by rfl, fun V hV => by go_simp⟩) (by assumption) ?_
            try simp only [Act.put, List.setIfInBounds_toArray, List.set_cons_zero, List.set_cons_succ]
            refine wpAnyH_done (by kernel_rfl) ?_ _
            refine NoPanic.normal ?_
            have hb6' : Below w4.heap.size w4 w6 := (below_fromdrew hb5).trans (hb6.mono (below_fromdrew hb5).size)
            clear hrg hHeld hb5 hb6 hm5 hm6
            have HB6 := Lib.hid (HB4.out.trans (hb6'.mono HB4.out.size))
            have HM6 := Lib.hid (HM4.out.below hb6')
            have HX6 := Lib.hid (below_blk hb6' HX4.out (blk_lt HX4.out))
            have HR6 := Lib.hid (HR4.out.below hb6')
            clear hb6'
            have HB7 := Lib.hid (HB6.out.trans (hk7.toBelow HB6.out.size (fun q e => by subst e; exact HP0.out.1)))
            have HX7 := Lib.hid (hk7.blk HX6.out (fun e => by have := HP0.out.2; omega))
            have HR7 := Lib.hid (HR6.out.keep fun q hq => hk7.block q (HR6.out.lt hq) (fun e => HR6.out.ne HM6.out.vm.1 (by decide) (by rw [hq, e])))
            have HM7 := Lib.hid hm7
            clear hk7 hm7
            go_wp2_with (refine wpList_load_mid (by rfl) 29 _ (by rfl) b8 0 (by rfl) [.slice A l.length c, .int .i64 words, .int .i64 fuel, .slice R 16 cr, .int .i64 s.at0, .int .i64 s.steps, .int .i64 s.over, .int .i64 s.value] _ (range_at HX7.out 0 _ rfl) Try.underlying29 rfl (show _ = some 8 from info_M) ?_)
            refine (refStep_calls w7 l A c words fuel R cr s HMr.out.ok.1 HR7.out (HRD.out.keep HB7.out) (by have := HMr.out.good.2.1; omega) (fun x hx => ⟨(HMr.out.good.2.2.1 x hx).1, (HMr.out.good.2.2.1 x hx).2.1, (HMr.out.good.2.2.1 x hx).2.2.1⟩) HN.out HEr.out HMr.out.ok.2.1 HMr.out.ok.2.2.1 HMr.out.ok.2.2.2.1 HMr.out.ok.2.2.2.2 (by have := HMr.out.fuel; omega) 0).mono ?_
            rintro y w8 ⟨R', cr', rfl, hr8, hb8, _⟩
            rw [HSS.out] at hr8 ⊢
            have HB8 := Lib.hid (HB7.out.trans (hb8.mono HB7.out.size))
            have HM8 := Lib.hid (HM7.out.below hb8)
            have HX8 := Lib.hid (below_blk hb8 HX7.out (blk_lt HX7.out))
            have HR8 := Lib.hid hr8
            clear hb8 hr8
            go_wp2_with (refine wpList_store_mid (by rfl) 29 _ _ (by rfl) b8 0 #[.slice A l.length c, .int .i64 words, .int .i64 fuel, .slice R' 16 cr', .int .i64 s1.at0, .int .i64 s1.steps, .int .i64 s1.over, .int .i64 s1.value] (by rfl) (by rfl) (there_at HX8.out 0 8 (Nat.le_refl 8)) info_M (by simp [Value.oneCell']) ?_; have hx9 := blk_all (w := w8) [.slice A l.length c, .int .i64 words, .int .i64 fuel, .slice R' 16 cr', .int .i64 s1.at0, .int .i64 s1.steps, .int .i64 s1.over, .int .i64 s1.value] (by rfl) HX8.out; have hk9 : Keep (fun q => q = b8) w8 (w8.setCells b8 0 [.slice A l.length c, .int .i64 words, .int .i64 fuel, .slice R' 16 cr', .int .i64 s1.at0, .int .i64 s1.steps, .int .i64 s1.over, .int .i64 s1.value]) := keep_sets _ 0 (Keep.refl _ w8); have hw : w8.setCells b8 0 [.slice A l.length c, .int .i64 words, .int .i64 fuel, .slice R' 16 cr', .int .i64 s1.at0, .int .i64 s1.steps, .int .i64 s1.over, .int .i64 s1.value] = w8.setCells b8 0 (#[.slice A l.length c, .int .i64 words, .int .i64 fuel, .slice R' 16 cr', .int .i64 s1.at0, .int .i64 s1.steps, .int .i64 s1.over, .int .i64 s1.value]).toList := rfl; rw [hw] at hx9 hk9; clear hw; generalize w8.setCells b8 0 (#[.slice A l.length c, .int .i64 words, .int .i64 fuel, .slice R' 16 cr', .int .i64 s1.at0, .int .i64 s1.steps, .int .i64 s1.over, .int .i64 s1.value]).toList = w9 at *; have HX9 := Lib.hid hx9; have HK9 := Lib.hid hk9; clear hx9 hk9)
            have HM9 := Lib.hid (HM8.out.keepO HK9.out (by have := HP0.out.2; omega) (fun b o hb e => by have h1 := HMr.out.ne b o hb; have := HP0.out.2; omega))
            have HB9 := Lib.hid (HB8.out.trans (HK9.out.toBelow HB8.out.size (fun q e => by subst e; have := HP0.out; omega)))
            have HR9 := Lib.hid (HR8.out.keep fun q hq => HK9.out.block q (HR8.out.lt hq) (fun e => HR8.out.ne HX8.out (by decide) (by rw [hq, e])))
            rw [HSS.out] at HM9
            refine (vmEnd_calls w9 p _ words fuel _ s1 HM9.out.vm HM9.out.ok.1).mono ?_
            rintro y wa ⟨rfl, hba⟩
            have HBa := Lib.hid (HB9.out.trans (hba.mono HB9.out.size))
            have HMa := Lib.hid (HM9.out.below hba)
            have HXa := Lib.hid (below_blk hba HX9.out (blk_lt HX9.out))
            have HRa := Lib.hid (HR9.out.below hba)
            clear hba
            go_wp2_with fail
            have hrg := range_at HXa.out 0 [.slice A l.length c, .int .i64 words, .int .i64 fuel, .slice R' 16 cr', .int .i64 s1.at0, .int .i64 s1.steps, .int .i64 s1.over, .int .i64 s1.value] rfl
            refine wp_region_noPanic ?_
            refine wp_region_held_drew (S := fun V => V.rangeAt b8 0 [.slice A l.length c, .int .i64 words, .int .i64 fuel, .slice R' 16 cr', .int .i64 s1.at0, .int .i64 s1.steps, .int .i64 s1.over, .int .i64 s1.value]) (by kernel_rfl) (range_drewN hrg 1) (fun hHeld => ?_)
            refine wpAnyH_take (i := 0) (oi := ⟨some 85, _, _, _, _, _⟩) (v := .pointer (some ⟨p, 0, none⟩)) rfl (by kernel_rfl) (by kernel_rfl) (by kernel_rfl) (fun _ _ _ h => h) (Or.inl ⟨by rfl, fun V hV => by go_simp⟩) (by assumption) ?_
            try simp only [Act.put, List.setIfInBounds_toArray, List.set_cons_zero, List.set_cons_succ]
            refine wpAnyH_take (i := 2) (oi := ⟨some 87, _, _, _, _, _⟩) (v := .agg #[.slice A l.length c, .int .i64 words, .int .i64 fuel, .slice R' 16 cr', .int .i64 s1.at0, .int .i64 s1.steps, .int .i64 s1.over, .int .i64 s1.value]) rfl (by kernel_rfl) (by kernel_rfl) (by kernel_rfl) (fun _ _ _ h => h) (yieldsIf_load_mid (by rfl) _ _ rfl _ _ rfl _ _ (fun V hV => hV) Try.underlying29 rfl info_M) (by assumption) ?_
            try simp only [Act.put, List.setIfInBounds_toArray, List.set_cons_zero, List.set_cons_succ]
            refine wpAnyH_ready (rs := [1]) (by kernel_rfl) (by simp) ?_
            refine AllReadyH.cons (o := ⟨some 86, _, _, _, _, _⟩) rfl (fun K hK => ?_) AllReadyH.nil
            go_simp
            refine (HMa.out.drew.now).mono ?_
            rintro y wb ⟨rfl, hbb⟩
            refine hK.out _ _ (range_below hbb hHeld) (fun hHeld' => ?_)
            clear hK K hHeld
            have hHeld := hHeld'
            clear hHeld'
            try simp only [Act.put, List.setIfInBounds_toArray, List.set_cons_zero, List.set_cons_succ]
            have hbb' := below_fromdrew hbb
            have hrb := HRa.out.below hbb'
            refine wpAnyH_ready (rs := [3]) (by kernel_rfl) (by simp) ?_
            refine AllReadyH.cons (o := ⟨some 88, _, _, _, _, _⟩) rfl (fun K hK => ?_) AllReadyH.nil
            go_simp
            refine (state_calls s1 HMa.out.ok.1 A l.length c words fuel R' cr' wb hrb).mono ?_
            rintro y wc ⟨rfl, hbc⟩
            refine hK.out _ _ (range_below hbc hHeld) (fun hHeld' => ?_)
            clear hK K hHeld
            have hHeld := hHeld'
            clear hHeld'
            try simp only [Act.put, List.setIfInBounds_toArray, List.set_cons_zero, List.set_cons_succ]
            refine wpAnyH_take (i := 4) (oi := ⟨some 89, _, _, _, _, _⟩) (v := .bool false) rfl (by kernel_rfl) (by kernel_rfl) (by kernel_rfl) (fun _ _ _ h => h) (Or.inl ⟨by rfl, fun V hV => by go_simp⟩) (by assumption) ?_
            try simp only [Act.put, List.setIfInBounds_toArray, List.set_cons_zero, List.set_cons_succ]
            refine wpAnyH_take (i := 5) (oi := ⟨some 90, _, _, _, _, _⟩) (v := .bool false) rfl (by kernel_rfl) (by kernel_rfl) (by kernel_rfl) (fun _ _ _ h => h) (Or.inl ⟨by rfl, fun V hV => by go_simp⟩) (by assumption) ?_
            try simp only [Act.put, List.setIfInBounds_toArray, List.set_cons_zero, List.set_cons_succ]
            refine wpAnyH_take (i := 6) (oi := ⟨some 91, _, _, _, _, _⟩) (v := .int .i64 s1.over) rfl (by kernel_rfl) (by kernel_rfl) (by kernel_rfl) (fun _ _ _ h => h) (Or.inl ⟨by rfl, fun V hV => by go_simp⟩) (by assumption) ?_
            try simp only [Act.put, List.setIfInBounds_toArray, List.set_cons_zero, List.set_cons_succ]
            refine wpAnyH_take (i := 7) (oi := ⟨some 92, _, _, _, _, _⟩) (v := .pointer (some ⟨b8, 6, none⟩)) rfl (by kernel_rfl) (by kernel_rfl) (by kernel_rfl) (fun _ _ _ h => h) (Or.inl ⟨by rfl, fun V hV => by go_simp⟩) (by assumption) ?_
            try simp only [Act.put, List.setIfInBounds_toArray, List.set_cons_zero, List.set_cons_succ]
            refine wpAnyH_take (i := 8) (oi := ⟨some 93, _, _, _, _, _⟩) (v := .int .i64 s1.over) rfl (by kernel_rfl) (by kernel_rfl) (by kernel_rfl) (fun _ _ _ h => h) (Or.inl ⟨by rfl, fun V hV => by have h9 := hV 6 _ rfl; simp only [Nat.zero_add] at h9; go_simp⟩) (by assumption) ?_
            try simp only [Act.put, List.setIfInBounds_toArray, List.set_cons_zero, List.set_cons_succ]
            refine wpAnyH_take (i := 9) (oi := ⟨some 94, _, _, _, _, _⟩) (v := .bool false) rfl (by kernel_rfl) (by kernel_rfl) (by kernel_rfl) (fun _ _ _ h => h) (Or.inl ⟨by rfl, fun V hV => by go_simp⟩) (by assumption) ?_
            try simp only [Act.put, List.setIfInBounds_toArray, List.set_cons_zero, List.set_cons_succ]
            refine wpAnyH_take (i := 10) (oi := ⟨some 95, _, _, _, _, _⟩) (v := .bool false) rfl (by kernel_rfl) (by kernel_rfl) (by kernel_rfl) (fun _ _ _ h => h) (Or.inl ⟨by rfl, fun V hV => by go_simp⟩) (by assumption) ?_
            try simp only [Act.put, List.setIfInBounds_toArray, List.set_cons_zero, List.set_cons_succ]
            refine wpAnyH_take (i := 11) (oi := ⟨some 96, _, _, _, _, _⟩) (v := .bool false) rfl (by kernel_rfl) (by kernel_rfl) (by kernel_rfl) (fun _ _ _ h => h) (Or.inl ⟨by rfl, fun V hV => by go_simp⟩) (by assumption) ?_
            try simp only [Act.put, List.setIfInBounds_toArray, List.set_cons_zero, List.set_cons_succ]
            refine wpAnyH_take (i := 12) (oi := ⟨some 97, _, _, _, _, _⟩) (v := .int .i64 s1.value) rfl (by kernel_rfl) (by kernel_rfl) (by kernel_rfl) (fun _ _ _ h => h) (Or.inl ⟨by rfl, fun V hV => by go_simp⟩) (by assumption) ?_
            try simp only [Act.put, List.setIfInBounds_toArray, List.set_cons_zero, List.set_cons_succ]
            refine wpAnyH_take (i := 13) (oi := ⟨some 98, _, _, _, _, _⟩) (v := .pointer (some ⟨b8, 7, none⟩)) rfl (by kernel_rfl) (by kernel_rfl) (by kernel_rfl) (fun _ _ _ h => h) (Or.inl ⟨by rfl, fun V hV => by go_simp⟩) (by assumption) ?_
            try simp only [Act.put, List.setIfInBounds_toArray, List.set_cons_zero, List.set_cons_succ]
            refine wpAnyH_take (i := 14) (oi := ⟨some 99, _, _, _, _, _⟩) (v := .int .i64 s1.value) rfl (by kernel_rfl) (by kernel_rfl) (by kernel_rfl) (fun _ _ _ h => h) (Or.inl ⟨by rfl, fun V hV => by have h9 := hV 7 _ rfl; simp only [Nat.zero_add] at h9; go_simp⟩) (by assumption) ?_
            try simp only [Act.put, List.setIfInBounds_toArray, List.set_cons_zero, List.set_cons_succ]
            refine wpAnyH_take (i := 15) (oi := ⟨some 100, _, _, _, _, _⟩) (v := .bool false) rfl (by kernel_rfl) (by kernel_rfl) (by kernel_rfl) (fun _ _ _ h => h) (Or.inl ⟨by rfl, fun V hV => by go_simp⟩) (by assumption) ?_
            try simp only [Act.put, List.setIfInBounds_toArray, List.set_cons_zero, List.set_cons_succ]
            refine wpAnyH_take (i := 16) (oi := ⟨some 101, _, _, _, _, _⟩) (v := .bool false) rfl (by kernel_rfl) (by kernel_rfl) (by kernel_rfl) (fun _ _ _ h => h) (Or.inl ⟨by rfl, fun V hV => by go_simp⟩) (by assumption) ?_
            try simp only [Act.put, List.setIfInBounds_toArray, List.set_cons_zero, List.set_cons_succ]
            refine wpAnyH_done (by kernel_rfl) ?_ _
            refine NoPanic.normal ?_
            have hbd := hbb'.trans (hbc.mono hbb'.size)
            clear hrg hHeld hbb hbc hbb' hrb
            have HBd := Lib.hid (HBa.out.trans (hbd.mono HBa.out.size))
            have HMd := Lib.hid (HMa.out.below hbd)
            have HXd := Lib.hid (below_blk hbd HXa.out (blk_lt HXa.out))
            have HRd := Lib.hid (HRa.out.below hbd)
            clear hbd
            go_wp2
            go_roundw
            case rel => exact ⟨k + 1, s1, R', cr', by go_num, by omega, HBd, HMd, HXd, HRd, HE1⟩
            case measure => simp [intOf]; omega
          · have hgt : (g.length : Int) > 0 := by omega
            have hmod : k % g.length < g.length := Nat.mod_lt _ (by omega)
            obtain ⟨b', o, rfl, hc⟩ := HG.out.at HBr.out hmod
            have hQ : gotI g k = g[k % g.length] := by simp [gotI, hz, List.getD, List.getElem?_eq_getElem hmod]
            have h64 : b64 got := by rw [← hgot, hQ]; exact HGI.out _ (List.getElem_mem hmod)
            rw [← hQ, hgot] at hc
            have HE1 := Lib.hid (show reg64 s1 from HSS.out ▸ reg64_step HEr.out HN.out h64)
            have hmt : Int.tmod (k : Int) (g.length : Int) = ((k % g.length : Nat) : Int) := by rw [Int.tmod_eq_emod_of_nonneg (by omega)]; omega
            have hmi : (k : Int) % (g.length : Int) = ((k % g.length : Nat) : Int) := by omega
            clear hgot hQ h64
            generalize k % g.length = m at hmod hc hmt hmi
            have hm0 : (0 : Int) ≤ (m : Int) := by omega
            have hm1 : (m : Int) < (g.length : Int) := by omega
            clear hz
            have c6 := blk_cell HXr.out 6
            go_wp2_with (refine wpList_load_mid (by rfl) 29 _ (by rfl) b8 0 (by rfl) [.slice A l.length c, .int .i64 words, .int .i64 fuel, .slice R 16 cr, .int .i64 s.at0, .int .i64 s.steps, .int .i64 s.over, .int .i64 s.value] _ (range_at HXr.out 0 _ rfl) Try.underlying29 rfl (show _ = some 8 from info_M) ?_)
            refine (refWant_calls wr l A c words fuel R cr s HMr.out.ok.1 HRr.out (HRD.out.keep HBr.out) (by have := HMr.out.good.2.1; omega) (fun x hx => (HMr.out.good.2.2.1 x hx).1) HN.out HEr.out HMr.out.ok.2.1 HMr.out.ok.2.2.1 HMr.out.ok.2.2.2.2).mono ?_
            rintro y w3 ⟨rfl, hb3⟩
            rw [HWS.out]
            dsimp only
            clear c6
            have HB3 := Lib.hid (HBr.out.trans (hb3.mono HBr.out.size))
            have HM3 := Lib.hid (HMr.out.below hb3)
            have HX3 := Lib.hid (below_blk hb3 HXr.out (blk_lt HXr.out))
            have HR3 := Lib.hid (HRr.out.below hb3)
            have HL3 := Lib.hid (blk_lt HX3.out)
            clear hb3
            go_wp2_with fail
            have hb4 : Below w3.heap.size w3 (w3.alloc (.cells #[.int .i64 wk, .int .i64 wa, .int .i64 wv] 35)) := (Below.refl _ _).al
            have hx4 := blk_new w3 (.cells #[.int .i64 wk, .int .i64 wa, .int .i64 wv] 35)
            generalize w3.alloc (.cells #[.int .i64 wk, .int .i64 wa, .int .i64 wv] 35) = w4 at *
            obtain ⟨b13, hb13⟩ : ∃ b, w3.heap.size = b := ⟨_, rfl⟩
            have HB4 := Lib.hid (HB3.out.trans (hb4.mono HB3.out.size))
            have HM4 := Lib.hid (HM3.out.below hb4)
            have HX4 := Lib.hid (below_blk hb4 HX3.out (blk_lt HX3.out))
            have HR4 := Lib.hid (HR3.out.below hb4)
            rw [hb13] at hx4 ⊢
            have HY4 := Lib.hid hx4
            have HP13 := Lib.hid (show b13 ≠ p by have := HM3.out.vm.lt; omega)
            clear hb4 hx4 hb13
            have hrg := range_at HY4.out 0 [.int .i64 wk, .int .i64 wa, .int .i64 wv] rfl
            refine wp_region_noPanic ?_
            refine wp_region_held_drew (S := fun V => V.rangeAt b13 0 [.int .i64 wk, .int .i64 wa, .int .i64 wv]) (by kernel_rfl) (range_drewN hrg 1) (fun hHeld => ?_)
            refine wpAnyH_take (i := 0) (oi := ⟨some 60, _, _, _, _, _⟩) (v := .pointer (some ⟨p, 0, none⟩)) rfl (by kernel_rfl) (by kernel_rfl) (by kernel_rfl) (fun _ _ _ h => h) (Or.inl ⟨by rfl, fun V hV => by go_simp⟩) (by assumption) ?_
            try simp only [Act.put, List.setIfInBounds_toArray, List.set_cons_zero, List.set_cons_succ]
            refine wpAnyH_take (i := 2) (oi := ⟨some 62, _, _, _, _, _⟩) (v := .agg #[.int .i64 wk, .int .i64 wa, .int .i64 wv]) rfl (by kernel_rfl) (by kernel_rfl) (by kernel_rfl) (fun _ _ _ h => h) (yieldsIf_load_mid (by rfl) _ _ rfl _ _ rfl _ _ (fun V hV => hV) Try.underlying35 rfl info_W) (by assumption) ?_
            try simp only [Act.put, List.setIfInBounds_toArray, List.set_cons_zero, List.set_cons_succ]
            refine wpAnyH_ready (rs := [1]) (by kernel_rfl) (by simp) ?_
            refine AllReadyH.cons (o := ⟨some 61, _, _, _, _, _⟩) rfl (fun K hK => ?_) AllReadyH.nil
            go_simp
            refine (HM4.out.drew.want).mono ?_
            rintro y w5 ⟨rfl, hb5⟩
            rw [HWS.out]
            dsimp only
            refine hK.out _ _ (range_below hb5 hHeld) (fun hHeld' => ?_)
            clear hK K hHeld
            have hHeld := hHeld'
            clear hHeld'
            try simp only [Act.put, List.setIfInBounds_toArray, List.set_cons_zero, List.set_cons_succ]
            have he := want_eq wk wa wv
            refine wpAnyH_take (i := 3) (oi := ⟨some 63, _, _, _, _, _⟩) (v := .bool false) rfl (by kernel_rfl) (by kernel_rfl) (by kernel_rfl) (fun _ _ _ h => h) (Or.inl ⟨by rfl, fun V hV => by go_simp⟩) (by assumption) ?_
            try simp only [Act.put, List.setIfInBounds_toArray, List.set_cons_zero, List.set_cons_succ]
            refine wpAnyH_take (i := 4) (oi := ⟨some 64, _, _, _, _, _⟩) (v := .bool false) rfl (by kernel_rfl) (by kernel_rfl) (by kernel_rfl) (fun _ _ _ h => h) (Or.inl ⟨by rfl, fun V hV => by go_simp⟩) (by assumption) ?_
            try simp only [Act.put, List.setIfInBounds_toArray, List.set_cons_zero, List.set_cons_succ]
            refine wpAnyH_take (i := 5) (oi := ⟨some 65, _, _, _, _, _⟩) (v := .pointer (some ⟨p, 0, none⟩)) rfl (by kernel_rfl) (by kernel_rfl) (by kernel_rfl) (fun _ _ _ h => h) (Or.inl ⟨by rfl, fun V hV => by go_simp⟩) (by assumption) ?_
            try simp only [Act.put, List.setIfInBounds_toArray, List.set_cons_zero, List.set_cons_succ]
            refine wpAnyH_take (i := 7) (oi := ⟨some 67, _, _, _, _, _⟩) (v := .agg #[.int .i64 wk, .int .i64 wa, .int .i64 wv]) rfl (by kernel_rfl) (by kernel_rfl) (by kernel_rfl) (fun _ _ _ h => h) (yieldsIf_load_mid (by rfl) _ _ rfl _ _ rfl _ _ (fun V hV => hV) Try.underlying35 rfl info_W) (by assumption) ?_
            try simp only [Act.put, List.setIfInBounds_toArray, List.set_cons_zero, List.set_cons_succ]
            have hm5 := HM4.out.drew.below hb5
            refine wpAnyH_ready (rs := [6]) (by kernel_rfl) (by simp) ?_
            refine AllReadyH.cons (o := ⟨some 66, _, _, _, _, _⟩) rfl (fun K hK => ?_) AllReadyH.nil
            go_simp
            refine (hm5.want).mono ?_
            rintro y w6 ⟨rfl, hb6⟩
            rw [HWS.out]
            dsimp only
            refine hK.out _ _ (range_below hb6 hHeld) (fun hHeld' => ?_)
            clear hK K hHeld
            have hHeld := hHeld'
            clear hHeld'
            try simp only [Act.put, List.setIfInBounds_toArray, List.set_cons_zero, List.set_cons_succ]
            refine wpAnyH_take (i := 8) (oi := ⟨some 68, _, _, _, _, _⟩) (v := .bool false) rfl (by kernel_rfl) (by kernel_rfl) (by kernel_rfl) (fun _ _ _ h => h) (Or.inl ⟨by rfl, fun V hV => by go_simp⟩) (by assumption) ?_
            try simp only [Act.put, List.setIfInBounds_toArray, List.set_cons_zero, List.set_cons_succ]
            clear he
            refine wpAnyH_take (i := 9) (oi := ⟨some 69, _, _, _, _, _⟩) (v := .bool false) rfl (by kernel_rfl) (by kernel_rfl) (by kernel_rfl) (fun _ _ _ h => h) (Or.inl ⟨by rfl, fun V hV => by go_simp⟩) (by assumption) ?_
            try simp only [Act.put, List.setIfInBounds_toArray, List.set_cons_zero, List.set_cons_succ]
            refine wpAnyH_take (i := 10) (oi := ⟨some 70, _, _, _, _, _⟩) (v := .bool false) rfl (by kernel_rfl) (by kernel_rfl) (by kernel_rfl) (fun _ _ _ h => h) (Or.inl ⟨by rfl, fun V hV => by go_simp⟩) (by assumption) ?_
            try simp only [Act.put, List.setIfInBounds_toArray, List.set_cons_zero, List.set_cons_succ]
            refine wpAnyH_take (i := 11) (oi := ⟨some 71, _, _, _, _, _⟩) (v := .pointer (some ⟨p, 0, none⟩)) rfl (by kernel_rfl) (by kernel_rfl) (by kernel_rfl) (fun _ _ _ h => h) (Or.inl ⟨by rfl, fun V hV => by go_simp⟩) (by assumption) ?_
            try simp only [Act.put, List.setIfInBounds_toArray, List.set_cons_zero, List.set_cons_succ]
            refine wpAnyH_take (i := 12) (oi := ⟨some 72, _, _, _, _, _⟩) (v := .int .i64 got) rfl (by kernel_rfl) (by kernel_rfl) (by kernel_rfl) (fun _ _ _ h => h) (Or.inl ⟨by rfl, fun V hV => by go_simp⟩) (by assumption) ?_
            try simp only [Act.put, List.setIfInBounds_toArray, List.set_cons_zero, List.set_cons_succ]
            refine wpAnyH_take (i := 14) (oi := ⟨some 74, _, _, _, _, _⟩) (v := .bool (s.over == 0)) rfl (by kernel_rfl) (by kernel_rfl) (by kernel_rfl) (fun _ _ _ h => h) (Or.inl ⟨by rfl, fun V hV => by go_simp⟩) (by assumption) ?_
            try simp only [Act.put, List.setIfInBounds_toArray, List.set_cons_zero, List.set_cons_succ]
            have hm6 := hm5.below hb6
            refine wpAnyH_ready (rs := [13]) (by kernel_rfl) (by simp) ?_
            refine AllReadyH.cons (o := ⟨some 73, _, _, _, _, _⟩) rfl (fun K hK => ?_) AllReadyH.nil
            go_simp
            refine (hm6.step got).mono ?_
            rintro y w7 ⟨rfl, hk7, hm7⟩
            refine hK.out _ _ (range_keep hk7 (fun e => HP13.out e) hHeld) (fun hHeld' => ?_)
            clear hK K hHeld
            have hHeld := hHeld'
            clear hHeld'
            try simp only [Act.put, List.setIfInBounds_toArray, List.set_cons_zero, List.set_cons_succ]
            refine wpAnyH_take (i := 15) (oi := ⟨some 75, _, _, _, _, _⟩) (v := .bool false) rfl (by kernel_rfl) (by kernel_rfl) (by kernel_rfl) (fun _ _ _ h => h) (Or.inl ⟨by rfl, fun V hV => by go_simp⟩) (by assumption) ?_
            try simp only [Act.put, List.setIfInBounds_toArray, List.set_cons_zero, List.set_cons_succ]
            refine wpAnyH_take (i := 16) (oi := ⟨some 76, _, _, _, _, _⟩) (v := .bool false) rfl (by kernel_rfl) (by kernel_rfl) (by kernel_rfl) (fun _ _ _ h => h) (Or.inl ⟨by rfl, fun V hV => by go_simp⟩) (by assumption) ?_
            try simp only [Act.put, List.setIfInBounds_toArray, List.set_cons_zero, List.set_cons_succ]
            refine wpAnyH_done (by kernel_rfl) ?_ _
            refine NoPanic.normal ?_
            have hb6' : Below w4.heap.size w4 w6 := (below_fromdrew hb5).trans (hb6.mono (below_fromdrew hb5).size)
            clear hrg hHeld hb5 hb6 hm5 hm6
            have HB6 := Lib.hid (HB4.out.trans (hb6'.mono HB4.out.size))
            have HM6 := Lib.hid (HM4.out.below hb6')
            have HX6 := Lib.hid (below_blk hb6' HX4.out (blk_lt HX4.out))
            have HR6 := Lib.hid (HR4.out.below hb6')
            clear hb6'
            have HB7 := Lib.hid (HB6.out.trans (hk7.toBelow HB6.out.size (fun q e => by subst e; exact HP0.out.1)))
            have HX7 := Lib.hid (hk7.blk HX6.out (fun e => by have := HP0.out.2; omega))
            have HR7 := Lib.hid (HR6.out.keep fun q hq => hk7.block q (HR6.out.lt hq) (fun e => HR6.out.ne HM6.out.vm.1 (by decide) (by rw [hq, e])))
            have HM7 := Lib.hid hm7
            clear hk7 hm7
            go_wp2_with (refine wpList_load_mid (by rfl) 29 _ (by rfl) b8 0 (by rfl) [.slice A l.length c, .int .i64 words, .int .i64 fuel, .slice R 16 cr, .int .i64 s.at0, .int .i64 s.steps, .int .i64 s.over, .int .i64 s.value] _ (range_at HX7.out 0 _ rfl) Try.underlying29 rfl (show _ = some 8 from info_M) ?_)
            refine (refStep_calls w7 l A c words fuel R cr s HMr.out.ok.1 HR7.out (HRD.out.keep HB7.out) (by have := HMr.out.good.2.1; omega) (fun x hx => ⟨(HMr.out.good.2.2.1 x hx).1, (HMr.out.good.2.2.1 x hx).2.1, (HMr.out.good.2.2.1 x hx).2.2.1⟩) HN.out HEr.out HMr.out.ok.2.1 HMr.out.ok.2.2.1 HMr.out.ok.2.2.2.1 HMr.out.ok.2.2.2.2 (by have := HMr.out.fuel; omega) got).mono ?_
            rintro y w8 ⟨R', cr', rfl, hr8, hb8, _⟩
            rw [HSS.out] at hr8 ⊢
            have HB8 := Lib.hid (HB7.out.trans (hb8.mono HB7.out.size))
            have HM8 := Lib.hid (HM7.out.below hb8)
            have HX8 := Lib.hid (below_blk hb8 HX7.out (blk_lt HX7.out))
            have HR8 := Lib.hid hr8
            clear hb8 hr8
            go_wp2_with (refine wpList_store_mid (by rfl) 29 _ _ (by rfl) b8 0 #[.slice A l.length c, .int .i64 words, .int .i64 fuel, .slice R' 16 cr', .int .i64 s1.at0, .int .i64 s1.steps, .int .i64 s1.over, .int .i64 s1.value] (by rfl) (by rfl) (there_at HX8.out 0 8 (Nat.le_refl 8)) info_M (by simp [Value.oneCell']) ?_; have hx9 := blk_all (w := w8) [.slice A l.length c, .int .i64 words, .int .i64 fuel, .slice R' 16 cr', .int .i64 s1.at0, .int .i64 s1.steps, .int .i64 s1.over, .int .i64 s1.value] (by rfl) HX8.out; have hk9 : Keep (fun q => q = b8) w8 (w8.setCells b8 0 [.slice A l.length c, .int .i64 words, .int .i64 fuel, .slice R' 16 cr', .int .i64 s1.at0, .int .i64 s1.steps, .int .i64 s1.over, .int .i64 s1.value]) := keep_sets _ 0 (Keep.refl _ w8); have hw : w8.setCells b8 0 [.slice A l.length c, .int .i64 words, .int .i64 fuel, .slice R' 16 cr', .int .i64 s1.at0, .int .i64 s1.steps, .int .i64 s1.over, .int .i64 s1.value] = w8.setCells b8 0 (#[.slice A l.length c, .int .i64 words, .int .i64 fuel, .slice R' 16 cr', .int .i64 s1.at0, .int .i64 s1.steps, .int .i64 s1.over, .int .i64 s1.value]).toList := rfl; rw [hw] at hx9 hk9; clear hw; generalize w8.setCells b8 0 (#[.slice A l.length c, .int .i64 words, .int .i64 fuel, .slice R' 16 cr', .int .i64 s1.at0, .int .i64 s1.steps, .int .i64 s1.over, .int .i64 s1.value]).toList = w9 at *; have HX9 := Lib.hid hx9; have HK9 := Lib.hid hk9; clear hx9 hk9)
            have HM9 := Lib.hid (HM8.out.keepO HK9.out (by have := HP0.out.2; omega) (fun b o hb e => by have h1 := HMr.out.ne b o hb; have := HP0.out.2; omega))
            have HB9 := Lib.hid (HB8.out.trans (HK9.out.toBelow HB8.out.size (fun q e => by subst e; have := HP0.out; omega)))
            have HR9 := Lib.hid (HR8.out.keep fun q hq => HK9.out.block q (HR8.out.lt hq) (fun e => HR8.out.ne HX8.out (by decide) (by rw [hq, e])))
            rw [HSS.out] at HM9
            refine (vmEnd_calls w9 p _ words fuel _ s1 HM9.out.vm HM9.out.ok.1).mono ?_
            rintro y wa ⟨rfl, hba⟩
            have HBa := Lib.hid (HB9.out.trans (hba.mono HB9.out.size))
            have HMa := Lib.hid (HM9.out.below hba)
            have HXa := Lib.hid (below_blk hba HX9.out (blk_lt HX9.out))
            have HRa := Lib.hid (HR9.out.below hba)
            clear hba
            go_wp2_with fail
            have hrg := range_at HXa.out 0 [.slice A l.length c, .int .i64 words, .int .i64 fuel, .slice R' 16 cr', .int .i64 s1.at0, .int .i64 s1.steps, .int .i64 s1.over, .int .i64 s1.value] rfl
            refine wp_region_noPanic ?_
            refine wp_region_held_drew (S := fun V => V.rangeAt b8 0 [.slice A l.length c, .int .i64 words, .int .i64 fuel, .slice R' 16 cr', .int .i64 s1.at0, .int .i64 s1.steps, .int .i64 s1.over, .int .i64 s1.value]) (by kernel_rfl) (range_drewN hrg 1) (fun hHeld => ?_)
            refine wpAnyH_take (i := 0) (oi := ⟨some 85, _, _, _, _, _⟩) (v := .pointer (some ⟨p, 0, none⟩)) rfl (by kernel_rfl) (by kernel_rfl) (by kernel_rfl) (fun _ _ _ h => h) (Or.inl ⟨by rfl, fun V hV => by go_simp⟩) (by assumption) ?_
            try simp only [Act.put, List.setIfInBounds_toArray, List.set_cons_zero, List.set_cons_succ]
            refine wpAnyH_take (i := 2) (oi := ⟨some 87, _, _, _, _, _⟩) (v := .agg #[.slice A l.length c, .int .i64 words, .int .i64 fuel, .slice R' 16 cr', .int .i64 s1.at0, .int .i64 s1.steps, .int .i64 s1.over, .int .i64 s1.value]) rfl (by kernel_rfl) (by kernel_rfl) (by kernel_rfl) (fun _ _ _ h => h) (yieldsIf_load_mid (by rfl) _ _ rfl _ _ rfl _ _ (fun V hV => hV) Try.underlying29 rfl info_M) (by assumption) ?_
            try simp only [Act.put, List.setIfInBounds_toArray, List.set_cons_zero, List.set_cons_succ]
            refine wpAnyH_ready (rs := [1]) (by kernel_rfl) (by simp) ?_
            refine AllReadyH.cons (o := ⟨some 86, _, _, _, _, _⟩) rfl (fun K hK => ?_) AllReadyH.nil
            go_simp
            refine (HMa.out.drew.now).mono ?_
            rintro y wb ⟨rfl, hbb⟩
            refine hK.out _ _ (range_below hbb hHeld) (fun hHeld' => ?_)
            clear hK K hHeld
            have hHeld := hHeld'
            clear hHeld'
            try simp only [Act.put, List.setIfInBounds_toArray, List.set_cons_zero, List.set_cons_succ]
            have hbb' := below_fromdrew hbb
            have hrb := HRa.out.below hbb'
            refine wpAnyH_ready (rs := [3]) (by kernel_rfl) (by simp) ?_
            refine AllReadyH.cons (o := ⟨some 88, _, _, _, _, _⟩) rfl (fun K hK => ?_) AllReadyH.nil
            go_simp
            refine (state_calls s1 HMa.out.ok.1 A l.length c words fuel R' cr' wb hrb).mono ?_
            rintro y wc ⟨rfl, hbc⟩
            refine hK.out _ _ (range_below hbc hHeld) (fun hHeld' => ?_)
            clear hK K hHeld
            have hHeld := hHeld'
            clear hHeld'
            try simp only [Act.put, List.setIfInBounds_toArray, List.set_cons_zero, List.set_cons_succ]
            refine wpAnyH_take (i := 4) (oi := ⟨some 89, _, _, _, _, _⟩) (v := .bool false) rfl (by kernel_rfl) (by kernel_rfl) (by kernel_rfl) (fun _ _ _ h => h) (Or.inl ⟨by rfl, fun V hV => by go_simp⟩) (by assumption) ?_
            try simp only [Act.put, List.setIfInBounds_toArray, List.set_cons_zero, List.set_cons_succ]
            refine wpAnyH_take (i := 5) (oi := ⟨some 90, _, _, _, _, _⟩) (v := .bool false) rfl (by kernel_rfl) (by kernel_rfl) (by kernel_rfl) (fun _ _ _ h => h) (Or.inl ⟨by rfl, fun V hV => by go_simp⟩) (by assumption) ?_
            try simp only [Act.put, List.setIfInBounds_toArray, List.set_cons_zero, List.set_cons_succ]
            refine wpAnyH_take (i := 6) (oi := ⟨some 91, _, _, _, _, _⟩) (v := .int .i64 s1.over) rfl (by kernel_rfl) (by kernel_rfl) (by kernel_rfl) (fun _ _ _ h => h) (Or.inl ⟨by rfl, fun V hV => by go_simp⟩) (by assumption) ?_
            try simp only [Act.put, List.setIfInBounds_toArray, List.set_cons_zero, List.set_cons_succ]
            refine wpAnyH_take (i := 7) (oi := ⟨some 92, _, _, _, _, _⟩) (v := .pointer (some ⟨b8, 6, none⟩)) rfl (by kernel_rfl) (by kernel_rfl) (by kernel_rfl) (fun _ _ _ h => h) (Or.inl ⟨by rfl, fun V hV => by go_simp⟩) (by assumption) ?_
            try simp only [Act.put, List.setIfInBounds_toArray, List.set_cons_zero, List.set_cons_succ]
            refine wpAnyH_take (i := 8) (oi := ⟨some 93, _, _, _, _, _⟩) (v := .int .i64 s1.over) rfl (by kernel_rfl) (by kernel_rfl) (by kernel_rfl) (fun _ _ _ h => h) (Or.inl ⟨by rfl, fun V hV => by have h9 := hV 6 _ rfl; simp only [Nat.zero_add] at h9; go_simp⟩) (by assumption) ?_
            try simp only [Act.put, List.setIfInBounds_toArray, List.set_cons_zero, List.set_cons_succ]
            refine wpAnyH_take (i := 9) (oi := ⟨some 94, _, _, _, _, _⟩) (v := .bool false) rfl (by kernel_rfl) (by kernel_rfl) (by kernel_rfl) (fun _ _ _ h => h) (Or.inl ⟨by rfl, fun V hV => by go_simp⟩) (by assumption) ?_
            try simp only [Act.put, List.setIfInBounds_toArray, List.set_cons_zero, List.set_cons_succ]
            refine wpAnyH_take (i := 10) (oi := ⟨some 95, _, _, _, _, _⟩) (v := .bool false) rfl (by kernel_rfl) (by kernel_rfl) (by kernel_rfl) (fun _ _ _ h => h) (Or.inl ⟨by rfl, fun V hV => by go_simp⟩) (by assumption) ?_
            try simp only [Act.put, List.setIfInBounds_toArray, List.set_cons_zero, List.set_cons_succ]
            refine wpAnyH_take (i := 11) (oi := ⟨some 96, _, _, _, _, _⟩) (v := .bool false) rfl (by kernel_rfl) (by kernel_rfl) (by kernel_rfl) (fun _ _ _ h => h) (Or.inl ⟨by rfl, fun V hV => by go_simp⟩) (by assumption) ?_
            try simp only [Act.put, List.setIfInBounds_toArray, List.set_cons_zero, List.set_cons_succ]
            refine wpAnyH_take (i := 12) (oi := ⟨some 97, _, _, _, _, _⟩) (v := .int .i64 s1.value) rfl (by kernel_rfl) (by kernel_rfl) (by kernel_rfl) (fun _ _ _ h => h) (Or.inl ⟨by rfl, fun V hV => by go_simp⟩) (by assumption) ?_
            try simp only [Act.put, List.setIfInBounds_toArray, List.set_cons_zero, List.set_cons_succ]
            refine wpAnyH_take (i := 13) (oi := ⟨some 98, _, _, _, _, _⟩) (v := .pointer (some ⟨b8, 7, none⟩)) rfl (by kernel_rfl) (by kernel_rfl) (by kernel_rfl) (fun _ _ _ h => h) (Or.inl ⟨by rfl, fun V hV => by go_simp⟩) (by assumption) ?_
            try simp only [Act.put, List.setIfInBounds_toArray, List.set_cons_zero, List.set_cons_succ]
            refine wpAnyH_take (i := 14) (oi := ⟨some 99, _, _, _, _, _⟩) (v := .int .i64 s1.value) rfl (by kernel_rfl) (by kernel_rfl) (by kernel_rfl) (fun _ _ _ h => h) (Or.inl ⟨by rfl, fun V hV => by have h9 := hV 7 _ rfl; simp only [Nat.zero_add] at h9; go_simp⟩) (by assumption) ?_
            try simp only [Act.put, List.setIfInBounds_toArray, List.set_cons_zero, List.set_cons_succ]
            refine wpAnyH_take (i := 15) (oi := ⟨some 100, _, _, _, _, _⟩) (v := .bool false) rfl (by kernel_rfl) (by kernel_rfl) (by kernel_rfl) (fun _ _ _ h => h) (Or.inl ⟨by rfl, fun V hV => by go_simp⟩) (by assumption) ?_
            try simp only [Act.put, List.setIfInBounds_toArray, List.set_cons_zero, List.set_cons_succ]
            refine wpAnyH_take (i := 16) (oi := ⟨some 101, _, _, _, _, _⟩) (v := .bool false) rfl (by kernel_rfl) (by kernel_rfl) (by kernel_rfl) (fun _ _ _ h => h) (Or.inl ⟨by rfl, fun V hV => by go_simp⟩) (by assumption) ?_
            try simp only [Act.put, List.setIfInBounds_toArray, List.set_cons_zero, List.set_cons_succ]
            refine wpAnyH_done (by kernel_rfl) ?_ _
            refine NoPanic.normal ?_
            have hbd := hbb'.trans (hbc.mono hbb'.size)
            clear hrg hHeld hbb hbc hbb' hrb
            have HBd := Lib.hid (HBa.out.trans (hbd.mono HBa.out.size))
            have HMd := Lib.hid (HMa.out.below hbd)
            have HXd := Lib.hid (below_blk hbd HXa.out (blk_lt HXa.out))
            have HRd := Lib.hid (HRa.out.below hbd)
            clear hbd
            go_wp2
            go_roundw
            case rel => exact ⟨k + 1, s1, R', cr', by go_num, by omega, HBd, HMd, HXd, HRd, HE1⟩
            case measure => simp [intOf]; omega
        · have hk' : k = N := by omega
          subst hk'
          go_wp2_with fail
          refine (alive_calls _).mono ?_
          rintro y w3 ⟨rfl, hb3⟩
          go_wp2
          go_ret
          exact ⟨rfl, HBr.out.trans (hb3.mono HBr.out.size)⟩
    · rw [if_neg hz] at hd
      subst hd
      rw [show (Value.agg zeroM) = .agg #[.slice none 0 0, .int .i64 0, .int .i64 0, .slice none 0 0, .int .i64 0, .int .i64 0, .int .i64 0, .int .i64 0] from rfl]
      go_wp2_with fail
      refine (alive_calls _).mono ?_
      rintro y w2 ⟨rfl, hb2⟩
      go_wp2
      go_ret
      exact ⟨rfl, (HB1.out.al).trans (hb2.mono (HB1.out.al).size)⟩
end Go.Proofs.Ytnikcdcaaeljmaa.My
