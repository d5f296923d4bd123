/- The document's step of a machine that is over, or that has spent its fuel. -/
import Derived.Test.YtnikcdcaaeljmaaVmRs
namespace Go.Proofs.Ytnikcdcaaeljmaa.My
open Go.RowKit Go.Proofs.Ytnikcdcaaeljmaa.NumA
set_option linter.unusedVariables false
set_option linter.unusedSimpArgs false
set_option maxRecDepth 100000 in
set_option maxHeartbeats 2000000 in
theorem ref_over (w : World) (Ac : Option Addr) (n cc : Nat) (words fuel : Int) (R : Option Addr) (cr : Nat) (rg : List Int) (at0 steps over value : Int) (hrow : Row w 2 1 (.slice R 16 cr) 16 (nums rg)) (ho : over ≠ 0) (got : Int) :
    Calls Try.prog 13 #[.agg (refM Ac n cc words fuel R cr ⟨rg, at0, steps, over, value⟩).toArray, .int .i64 got] w (RefStep w Ac n cc words fuel R ⟨rg, at0, steps, over, value⟩) := by
  have ho' : (over != 0) = true := by simp [ho]
  have HR := Lib.hid hrow
  clear hrow ho
  show Calls Try.prog 13 #[.agg #[.slice Ac n cc, .int .i64 words, .int .i64 fuel, .slice R 16 cr, .int .i64 at0, .int .i64 steps, .int .i64 over, .int .i64 value], .int .i64 got] w _
  go_enter Try.func13, Try.ntmps13
  go_wp2
  have hx := blk_new (w.alloc (.cells #[.slice Ac n cc, .int .i64 words, .int .i64 fuel, .slice R 16 cr, .int .i64 at0, .int .i64 steps, .int .i64 over, .int .i64 value] 29)) (.cells #[.slice Ac n cc, .int .i64 words, .int .i64 fuel, .slice R 16 cr, .int .i64 at0, .int .i64 steps, .int .i64 over, .int .i64 value] 29)
  rw [size_al] at hx
  exact bodyPost_ret (results_cell rfl _ _ (w.heap.size + 1) [.slice Ac n cc, .int .i64 words, .int .i64 fuel, .slice R 16 cr, .int .i64 at0, .int .i64 steps, .int .i64 over, .int .i64 value] rfl (range_at hx 0 _ rfl) Try.underlying29 rfl (by kernel_rfl)) rfl ⟨R, cr, rfl, HR.out.below ((Below.refl w.heap.size w).al).al, ((Below.refl w.heap.size w).al).al, .inl rfl⟩
set_option maxRecDepth 100000 in
set_option maxHeartbeats 2000000 in
theorem ref_spent (w : World) (Ac : Option Addr) (n cc : Nat) (words fuel : Int) (R : Option Addr) (cr : Nat) (rg : List Int) (at0 steps over value : Int) (hrow : Row w 2 1 (.slice R 16 cr) 16 (nums rg)) (ho : over = 0) (hs : fuel ≤ steps) (got : Int) :
    Calls Try.prog 13 #[.agg (refM Ac n cc words fuel R cr ⟨rg, at0, steps, over, value⟩).toArray, .int .i64 got] w (RefStep w Ac n cc words fuel R (ended ⟨rg, at0, steps, over, value⟩ 5 0)) := by
  have ho' : (over != 0) = false := by simp [ho]
  have hs' : steps ≥ fuel := hs
  have hx1 := blk_new (w.alloc (.cells #[.slice Ac n cc, .int .i64 words, .int .i64 fuel, .slice R 16 cr, .int .i64 at0, .int .i64 steps, .int .i64 over, .int .i64 value] 29)) (.cells #[.slice none 0 0, .int .i64 0, .int .i64 0, .slice none 0 0, .int .i64 0, .int .i64 0, .int .i64 0, .int .i64 0] 29)
  rw [size_al] at hx1
  have hb5 : Below w.heap.size w ((w.alloc (.cells #[.slice Ac n cc, .int .i64 words, .int .i64 fuel, .slice R 16 cr, .int .i64 at0, .int .i64 steps, .int .i64 over, .int .i64 value] 29)).alloc (.cells #[.slice none 0 0, .int .i64 0, .int .i64 0, .slice none 0 0, .int .i64 0, .int .i64 0, .int .i64 0, .int .i64 0] 29)) := ((Below.refl w.heap.size w).al).al
  obtain ⟨w1, hw1⟩ : ∃ w1, ((w.alloc (.cells #[.slice Ac n cc, .int .i64 words, .int .i64 fuel, .slice R 16 cr, .int .i64 at0, .int .i64 steps, .int .i64 over, .int .i64 value] 29)).alloc (.cells #[.slice none 0 0, .int .i64 0, .int .i64 0, .slice none 0 0, .int .i64 0, .int .i64 0, .int .i64 0, .int .i64 0] 29)) = w1 := ⟨_, rfl⟩
  rw [hw1] at hx1 hb5
  have HX1 := Lib.hid hx1
  have HB1 := Lib.hid hb5
  have HR1 := Lib.hid (hrow.below hb5)
  have HW := Lib.hid hw1
  clear hrow ho hs hx1 hb5 hw1
  show Calls Try.prog 13 #[.agg #[.slice Ac n cc, .int .i64 words, .int .i64 fuel, .slice R 16 cr, .int .i64 at0, .int .i64 steps, .int .i64 over, .int .i64 value], .int .i64 got] w _
  go_enter Try.func13, Try.ntmps13
  go_wp2_with fail
  rw [HW.out]
  refine (over_calls _ _ _ _ _ _ _ _ _ _ _ _ _ w1).mono ?_
  rintro y w2 ⟨rfl, hb2⟩
  have HB2 := Lib.hid (HB1.out.trans (hb2.mono HB1.out.size))
  have HX3 := Lib.hid (below_blk hb2 HX1.out (blk_lt HX1.out))
  have HR2 := Lib.hid (HR1.out.below hb2)
  have HT := Lib.hid (there_at HX3.out 0 8 (by decide))
  clear hb2
  go_wp2_with (refine wpList_store_mid (by rfl) 29 _ _ (by rfl) (w.heap.size + 1) 0 #[.slice Ac n cc, .int .i64 words, .int .i64 fuel, .slice R 16 cr, .int .i64 at0, .int .i64 steps, .int .i64 5, .int .i64 0] (by rfl) (by rfl) HT.out (by kernel_rfl) (by simp [Value.oneCell']) ?_)
  exact ref_fin (s := ended ⟨rg, at0, steps, over, value⟩ 5 0) rfl rfl HX3.out HB2.out HR2.out (.inl rfl)
theorem refStep_calls (w : World) (l : List Ins) (Ac : Option Addr) (cc : Nat) (words fuel : Int) (R : Option Addr) (cr : Nat) (s : St) (hr : s.rg.length = 16) (hrow : Row w 2 1 (.slice R 16 cr) 16 (nums s.rg)) (hins : insRow w l Ac) (hl : l.length ≤ 100000) (hok : ∀ x ∈ l, okR x ∧ 1 ≤ x.kind ∧ x.kind ≤ 13) (hn64 : ∀ x ∈ l, b64 x.n) (h64 : ∀ v ∈ s.rg, b64 v)
    (ha0 : 0 ≤ s.at0) (ha1 : s.at0 < l.length) (hs0 : 0 ≤ s.steps) (hs1 : s.steps ≤ fuel) (hf : fuel ≤ 100000) (got : Int) :
    Calls Try.prog 13 #[.agg (refM Ac l.length cc words fuel R cr s).toArray, .int .i64 got] w (RefStep w Ac l.length cc words fuel R (stepS l words fuel s got)) := by
  obtain ⟨rg, at0, steps, over, value⟩ := s
  simp only at hr hrow h64 ha0 ha1 hs0 hs1
  by_cases hov : over = 0
  · by_cases hst : steps = fuel
    · have h := ref_spent w Ac l.length cc words fuel R cr rg at0 steps over value hrow hov (by omega) got
      rwa [show stepS l words fuel ⟨rg, at0, steps, over, value⟩ got = ended ⟨rg, at0, steps, over, value⟩ 5 0 from by simp [stepS, hov, hst]]
    · subst hov
      obtain ⟨j, rfl⟩ : ∃ j : Nat, at0 = j := ⟨at0.toNat, by omega⟩
      have hj : j < l.length := by omega
      have hx := hok _ (List.getElem_mem hj)
      have hN := hn64 _ (List.getElem_mem hj)
      obtain ⟨K, op, a, b, c, n, hxe⟩ : ∃ K op a b c n, l[j] = (⟨K, op, a, b, c, n⟩ : Ins) := ⟨_, _, _, _, _, _, rfl⟩
      rw [hxe] at hx hN
      obtain ⟨⟨⟨hA0, hA1⟩, ⟨hB0, hB1⟩, hC0, hC1⟩, hk1, hk2⟩ := hx
      simp only at hA0 hA1 hB0 hB1 hC0 hC1 hk1 hk2 hN
      obtain ⟨na, rfl⟩ : ∃ i : Nat, a = i := ⟨a.toNat, by omega⟩
      obtain ⟨nb, rfl⟩ : ∃ i : Nat, b = i := ⟨b.toNat, by omega⟩
      obtain ⟨nc, rfl⟩ : ∃ i : Nat, c = i := ⟨c.toNat, by omega⟩
      have hna : na < 16 := by omega
      have hnb : nb < 16 := by omega
      have hnc : nc < 16 := by omega
      have g : ∀ i, i < 16 → b64 (rg.getD i 0) := fun i hi => h64 _ (by rw [List.getD, List.getElem?_eq_getElem (by omega)]; exact List.getElem_mem _)
      have hS : stepS l words fuel ⟨rg, (j : Int), steps, 0, value⟩ got = doS words ⟨rg, (j : Int), steps + 1, 0, value⟩ ⟨K, op, na, nb, nc, n⟩ got := by
        simp only [stepS, if_true, if_neg hst, Int.toNat_natCast, List.getD, List.getElem?_eq_getElem hj, Option.getD_some, hxe]
      rw [hS]
      have hlt : steps < fuel := by omega
      have hcase : K = 1 ∨ K = 2 ∨ K = 3 ∨ K = 4 ∨ K = 5 ∨ K = 6 ∨ K = 7 ∨ K = 8 ∨ K = 9 ∨ K = 10 ∨ K = 11 ∨ K = 12 ∨ K = 13 := by omega
      generalize hva : rg.getD na 0 = va
      generalize hvb : rg.getD nb 0 = vb
      generalize hvc : rg.getD nc 0 = vc
      have gb := g nb hnb
      have gc := g nc hnc
      rw [hvb] at gb
      rw [hvc] at gc
      have rva : St.reg ⟨rg, (j : Int), steps + 1, 0, value⟩ na = va := hva
      have rvb : St.reg ⟨rg, (j : Int), steps + 1, 0, value⟩ nb = vb := hvb
      have rvc : St.reg ⟨rg, (j : Int), steps + 1, 0, value⟩ nc = vc := hvc
      rcases hcase with rfl | rfl | rfl | rfl | rfl | rfl | rfl | rfl | rfl | rfl | rfl | rfl | rfl
      · have h := ref_halt w l Ac cc words fuel R cr rg hr steps value hrow hins hl j hj op n na nb nc hxe hna hnb hnc hs0 hlt hf va vb vc hva hvb hvc got; simpa [doS, reckonS, memS, branchS, jumpB, putR, addr, rva, rvb, rvc] using h
      · have h := ref_const w l Ac cc words fuel R cr rg hr steps value hrow hins hl j hj op n na nb nc hxe hna hnb hnc hs0 hlt hf va vb vc hva hvb hvc got; simpa [doS, reckonS, memS, branchS, jumpB, putR, addr, rva, rvb, rvc] using h
      · have h := ref_move w l Ac cc words fuel R cr rg hr steps value hrow hins hl j hj op n na nb nc hxe hna hnb hnc hs0 hlt hf va vb vc hva hvb hvc got; simpa [doS, reckonS, memS, branchS, jumpB, putR, addr, rva, rvb, rvc] using h
      · have h := ref_one w l Ac cc words fuel R cr rg hr steps value hrow hins hl j hj op n na nb nc hxe hna hnb hnc hs0 hlt hf va vb vc hva hvb hvc got; simpa [doS, reckonS, memS, branchS, jumpB, putR, addr, rva, rvb, rvc] using h
      · by_cases hk : (two op vb vc).2 = true
        · have h := ref_two w l Ac cc words fuel R cr rg hr steps value hrow hins hl j hj op n na nb nc hxe hna hnb hnc hs0 hlt hf va vb vc hva hvb hvc gb gc hk got; simpa [doS, reckonS, memS, branchS, jumpB, putR, addr, rva, rvb, rvc, hk] using h
        · have hk' : (two op vb vc).2 = false := by simpa using hk
          have h := ref_twono w l Ac cc words fuel R cr rg hr steps value hrow hins hl j hj op n na nb nc hxe hna hnb hnc hs0 hlt hf va vb vc hva hvb hvc gb gc hk' got; simpa [doS, reckonS, memS, branchS, jumpB, putR, addr, rva, rvb, rvc, hk'] using h
      · generalize hA : wrap64 (vb + n) = A
        by_cases q1 : A < 0
        · have h := ref_outneg6 w l Ac cc words fuel R cr rg hr steps value hrow hins hl j hj op n na nb nc hxe hna hnb hnc hs0 hlt hf va vb vc hva hvb hvc gb hN A hA q1 got; simpa [doS, reckonS, memS, branchS, jumpB, putR, addr, rva, rvb, rvc, hA, insideB, q1, show ¬ (0 ≤ A) by omega] using h
        by_cases q2 : A ≥ words
        · have h := ref_outbig6 w l Ac cc words fuel R cr rg hr steps value hrow hins hl j hj op n na nb nc hxe hna hnb hnc hs0 hlt hf va vb vc hva hvb hvc gb hN A hA q1 q2 got; simpa [doS, reckonS, memS, branchS, jumpB, putR, addr, rva, rvb, rvc, hA, insideB, q1, show ¬ (A < words) by omega] using h
        · have h := ref_load w l Ac cc words fuel R cr rg hr steps value hrow hins hl j hj op n na nb nc hxe hna hnb hnc hs0 hlt hf va vb vc hva hvb hvc gb hN A hA q1 q2 got; simpa [doS, reckonS, memS, branchS, jumpB, putR, addr, rva, rvb, rvc, hA, insideB, show 0 ≤ A by omega, show A < words by omega] using h
      · generalize hA : wrap64 (vb + n) = A
        by_cases q1 : A < 0
        · have h := ref_outneg7 w l Ac cc words fuel R cr rg hr steps value hrow hins hl j hj op n na nb nc hxe hna hnb hnc hs0 hlt hf va vb vc hva hvb hvc gb hN A hA q1 got; simpa [doS, reckonS, memS, branchS, jumpB, putR, addr, rva, rvb, rvc, hA, insideB, q1, show ¬ (0 ≤ A) by omega] using h
        by_cases q2 : A ≥ words
        · have h := ref_outbig7 w l Ac cc words fuel R cr rg hr steps value hrow hins hl j hj op n na nb nc hxe hna hnb hnc hs0 hlt hf va vb vc hva hvb hvc gb hN A hA q1 q2 got; simpa [doS, reckonS, memS, branchS, jumpB, putR, addr, rva, rvb, rvc, hA, insideB, q1, show ¬ (A < words) by omega] using h
        · have h := ref_store w l Ac cc words fuel R cr rg hr steps value hrow hins hl j hj op n na nb nc hxe hna hnb hnc hs0 hlt hf va vb vc hva hvb hvc gb hN A hA q1 q2 got; simpa [doS, reckonS, memS, branchS, jumpB, putR, addr, rva, rvb, rvc, hA, insideB, show 0 ≤ A by omega, show A < words by omega] using h
      · have h := ref_into w l Ac cc words fuel R cr rg hr steps value hrow hins hl j hj op n na nb nc hxe hna hnb hnc hs0 hlt hf va vb vc hva hvb hvc got; simpa [doS, reckonS, memS, branchS, jumpB, putR, addr, rva, rvb, rvc] using h
      · have h := ref_emit w l Ac cc words fuel R cr rg hr steps value hrow hins hl j hj op n na nb nc hxe hna hnb hnc hs0 hlt hf va vb vc hva hvb hvc got; simpa [doS, reckonS, memS, branchS, jumpB, putR, addr, rva, rvb, rvc] using h
      · have h := ref_jump w l Ac cc words fuel R cr rg hr steps value hrow hins hl j hj op n na nb nc hxe hna hnb hnc hs0 hlt hf va vb vc hva hvb hvc got; simpa [doS, reckonS, memS, branchS, jumpB, putR, addr, rva, rvb, rvc] using h
      · by_cases q : va = 0
        · have h := ref_zero w l Ac cc words fuel R cr rg hr steps value hrow hins hl j hj op n na nb nc hxe hna hnb hnc hs0 hlt hf va vb vc hva hvb hvc (by simp [q]) got; simpa [doS, reckonS, memS, branchS, jumpB, putR, addr, rva, rvb, rvc, q] using h
        · have h := ref_zerono w l Ac cc words fuel R cr rg hr steps value hrow hins hl j hj op n na nb nc hxe hna hnb hnc hs0 hlt hf va vb vc hva hvb hvc (by simp [q]) got; simpa [doS, reckonS, memS, branchS, jumpB, putR, addr, rva, rvb, rvc, q] using h
      · by_cases q : va = 0
        · have h := ref_otherno w l Ac cc words fuel R cr rg hr steps value hrow hins hl j hj op n na nb nc hxe hna hnb hnc hs0 hlt hf va vb vc hva hvb hvc (by simp [q]) got; simpa [doS, reckonS, memS, branchS, jumpB, putR, addr, rva, rvb, rvc, q] using h
        · have h := ref_other w l Ac cc words fuel R cr rg hr steps value hrow hins hl j hj op n na nb nc hxe hna hnb hnc hs0 hlt hf va vb vc hva hvb hvc (by simp [q]) got; simpa [doS, reckonS, memS, branchS, jumpB, putR, addr, rva, rvb, rvc, q] using h
      · have h := ref_fail w l Ac cc words fuel R cr rg hr steps value hrow hins hl j hj op n na nb nc hxe hna hnb hnc hs0 hlt hf va vb vc hva hvb hvc got; simpa [doS, reckonS, memS, branchS, jumpB, putR, addr, rva, rvb, rvc] using h
  · have h := ref_over w Ac l.length cc words fuel R cr rg at0 steps over value hrow hov got
    rwa [show stepS l words fuel ⟨rg, at0, steps, over, value⟩ got = ⟨rg, at0, steps, over, value⟩ from by simp [stepS, hov]]
end Go.Proofs.Ytnikcdcaaeljmaa.My
