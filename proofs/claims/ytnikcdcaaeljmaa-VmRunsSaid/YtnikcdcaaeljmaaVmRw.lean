/- What the document's machine wants. Conditions: the text and the registers' row lie in memory; numbers of 64 bits. -/
import Derived.Test.YtnikcdcaaeljmaaVmRs
import Derived.Test.YtnikcdcaaeljmaaVmB64
namespace Go.Proofs.Ytnikcdcaaeljmaa.My
open Go.RowKit Go.Proofs.Ytnikcdcaaeljmaa.NumA
set_option linter.unusedVariables false
set_option linter.unusedSimpArgs false
def RefWant (w : World) (x : Int × Int × Int) (e : Ending) (w' : World) : Prop := e = .returned (.agg #[.int .i64 x.1, .int .i64 x.2.1, .int .i64 x.2.2]) ∧ Below w.heap.size w w'
theorem refWant_fin {a : Act} {w w3 : World} {k x v : Int} (ht : a.tmps.getD 2 undef = .pointer (some ⟨w.heap.size + 1, 0, none⟩)) (hd : a.defers = []) (hx : w3.heap[w.heap.size + 1]? = some (.cells #[.int .i64 0, .int .i64 0, .int .i64 0] 35 (0, 0)))
    (hb : Below w.heap.size w w3) : bodyPost Try.prog Try.f10 (RefWant w (k, x, v)) .ret a (w3.setCells (w.heap.size + 1) 0 [.int .i64 k, .int .i64 x, .int .i64 v]) :=
  bodyPost_ret (results_cell rfl _ _ (w.heap.size + 1) _ ht (World.rangeAt_setCells_same _ _ 0 _ (there_at hx 0 3 (by decide))) Try.underlying35 rfl (by kernel_rfl)) hd ⟨rfl, below_sets (Nat.le_succ _) _ 0 hb⟩
set_option maxRecDepth 100000 in
set_option maxHeartbeats 8000000 in
theorem refWant_all (w : World) (l : List Ins) (Ac : Option Addr) (cc : Nat) (words fuel : Int) (R : Option Addr) (cr : Nat) (rg : List Int) (hr : rg.length = 16) (steps value : Int) (hrow : Row w 2 1 (.slice R 16 cr) 16 (nums rg)) (hins : insRow w l Ac) (hl : l.length ≤ 100000) (j : Nat) (hj : j < l.length) (K op n : Int) (na nb nc : Nat) (hx : l[j] = ⟨K, op, (na : Int), (nb : Int), (nc : Int), n⟩) (ha : na < 16) (hb : nb < 16) (hc : nc < 16) (hs1 : steps < fuel) (va vb : Int) (hva : rg.getD na 0 = va) (hvb : rg.getD nb 0 = vb) (h64b : b64 vb) (h64n : b64 n) (A : Int) (hAd : wrap64 (vb + n) = A) (r : Int × Int × Int) (hcase : ((K = 6) ∧ (A ≥ 0) ∧ (A < words) ∧ r = (1, A, 0)) ∨ ((K = 7) ∧ (A ≥ 0) ∧ (A < words) ∧ r = (2, A, va)) ∨ ((K = 8) ∧ (A ≥ 0) ∧ (A < words) ∧ r = (3, (nc : Int), va)) ∨ ((K = 9) ∧ (A ≥ 0) ∧ (A < words) ∧ r = (4, 0, va)) ∨ ((K ≠ 6 ∧ K ≠ 7 ∧ K ≠ 8 ∧ K ≠ 9) ∧ (A ≥ 0) ∧ (A < words) ∧ r = (0, 0, 0)) ∨ ((K = 6) ∧ (¬ (A ≥ 0)) ∧ r = (0, 0, 0)) ∨ ((K = 7) ∧ (¬ (A ≥ 0)) ∧ r = (0, 0, 0)) ∨ ((K = 8) ∧ (¬ (A ≥ 0)) ∧ r = (3, (nc : Int), va)) ∨ ((K = 9) ∧ (¬ (A ≥ 0)) ∧ r = (4, 0, va)) ∨ ((K ≠ 6 ∧ K ≠ 7 ∧ K ≠ 8 ∧ K ≠ 9) ∧ (¬ (A ≥ 0)) ∧ r = (0, 0, 0)) ∨ ((K = 6) ∧ (A ≥ 0) ∧ (¬ (A < words)) ∧ r = (0, 0, 0)) ∨ ((K = 7) ∧ (A ≥ 0) ∧ (¬ (A < words)) ∧ r = (0, 0, 0)) ∨ ((K = 8) ∧ (A ≥ 0) ∧ (¬ (A < words)) ∧ r = (3, (nc : Int), va)) ∨ ((K = 9) ∧ (A ≥ 0) ∧ (¬ (A < words)) ∧ r = (4, 0, va)) ∨ ((K ≠ 6 ∧ K ≠ 7 ∧ K ≠ 8 ∧ K ≠ 9) ∧ (A ≥ 0) ∧ (¬ (A < words)) ∧ r = (0, 0, 0))) :
    Calls Try.prog 10 #[.agg (refM Ac l.length cc words fuel R cr ⟨rg, (j : Int), steps, 0, value⟩).toArray] w (RefWant w r) := by
  obtain ⟨b, o, hA, hcell⟩ := hins j hj
  rw [hx] at hcell
  subst hA
  have hsf : ¬ (steps ≥ fuel) := by omega
  have hj0 : (0 : Int) ≤ (j : Int) := by omega
  have hj1 : (j : Int) < (l.length : Int) := by omega
  have hz1 : (w.alloc (.cells #[.slice (some ⟨b, o, none⟩) l.length cc, .int .i64 words, .int .i64 fuel, .slice R 16 cr, .int .i64 (j : Int), .int .i64 steps, .int .i64 0, .int .i64 value] 29)).heap.size = w.heap.size + 1 := size_al _ _
  have hz2 : ((w.alloc (.cells #[.slice (some ⟨b, o, none⟩) l.length cc, .int .i64 words, .int .i64 fuel, .slice R 16 cr, .int .i64 (j : Int), .int .i64 steps, .int .i64 0, .int .i64 value] 29)).alloc (.cells #[.int .i64 0, .int .i64 0, .int .i64 0] 35)).heap.size = w.heap.size + 1 + 1 := by rw [size_al, hz1]
  have hx0 := blk_alloc (blk_alloc (blk_new w (.cells #[.slice (some ⟨b, o, none⟩) l.length cc, .int .i64 words, .int .i64 fuel, .slice R 16 cr, .int .i64 (j : Int), .int .i64 steps, .int .i64 0, .int .i64 value] 29)) (.cells #[.int .i64 0, .int .i64 0, .int .i64 0] 35)) (.cells #[.int .i64 K, .int .i64 op, .int .i64 (na : Int), .int .i64 (nb : Int), .int .i64 (nc : Int), .int .i64 n] 76)
  have hx1 := blk_alloc (blk_new (w.alloc (.cells #[.slice (some ⟨b, o, none⟩) l.length cc, .int .i64 words, .int .i64 fuel, .slice R 16 cr, .int .i64 (j : Int), .int .i64 steps, .int .i64 0, .int .i64 value] 29)) (.cells #[.int .i64 0, .int .i64 0, .int .i64 0] 35)) (.cells #[.int .i64 K, .int .i64 op, .int .i64 (na : Int), .int .i64 (nb : Int), .int .i64 (nc : Int), .int .i64 n] 76)
  have hx2 := blk_new ((w.alloc (.cells #[.slice (some ⟨b, o, none⟩) l.length cc, .int .i64 words, .int .i64 fuel, .slice R 16 cr, .int .i64 (j : Int), .int .i64 steps, .int .i64 0, .int .i64 value] 29)).alloc (.cells #[.int .i64 0, .int .i64 0, .int .i64 0] 35)) (.cells #[.int .i64 K, .int .i64 op, .int .i64 (na : Int), .int .i64 (nb : Int), .int .i64 (nc : Int), .int .i64 n] 76)
  have hb5 : Below w.heap.size w ((w.alloc (.cells #[.slice (some ⟨b, o, none⟩) l.length cc, .int .i64 words, .int .i64 fuel, .slice R 16 cr, .int .i64 (j : Int), .int .i64 steps, .int .i64 0, .int .i64 value] 29)).alloc (.cells #[.int .i64 0, .int .i64 0, .int .i64 0] 35)) := ((Below.refl w.heap.size w).al).al
  have hb6 : Below w.heap.size w (((w.alloc (.cells #[.slice (some ⟨b, o, none⟩) l.length cc, .int .i64 words, .int .i64 fuel, .slice R 16 cr, .int .i64 (j : Int), .int .i64 steps, .int .i64 0, .int .i64 value] 29)).alloc (.cells #[.int .i64 0, .int .i64 0, .int .i64 0] 35)).alloc (.cells #[.int .i64 K, .int .i64 op, .int .i64 (na : Int), .int .i64 (nb : Int), .int .i64 (nc : Int), .int .i64 n] 76)) := (((Below.refl w.heap.size w).al).al).al
  rw [hz1] at hx1
  rw [hz2] at hx2
  have k0 : ((w.alloc (.cells #[.slice (some ⟨b, o, none⟩) l.length cc, .int .i64 words, .int .i64 fuel, .slice R 16 cr, .int .i64 (j : Int), .int .i64 steps, .int .i64 0, .int .i64 value] 29)).alloc (.cells #[.int .i64 0, .int .i64 0, .int .i64 0] 35)).cell? ⟨b, o + j * 6, none⟩ = some (.int .i64 K) := hb5.cellOf (hcell 0 _ rfl)
  have k1 : ((w.alloc (.cells #[.slice (some ⟨b, o, none⟩) l.length cc, .int .i64 words, .int .i64 fuel, .slice R 16 cr, .int .i64 (j : Int), .int .i64 steps, .int .i64 0, .int .i64 value] 29)).alloc (.cells #[.int .i64 0, .int .i64 0, .int .i64 0] 35)).cell? ⟨b, o + j * 6 + 1, none⟩ = some (.int .i64 op) := hb5.cellOf (hcell 1 _ rfl)
  have k2 : ((w.alloc (.cells #[.slice (some ⟨b, o, none⟩) l.length cc, .int .i64 words, .int .i64 fuel, .slice R 16 cr, .int .i64 (j : Int), .int .i64 steps, .int .i64 0, .int .i64 value] 29)).alloc (.cells #[.int .i64 0, .int .i64 0, .int .i64 0] 35)).cell? ⟨b, o + j * 6 + 2, none⟩ = some (.int .i64 (na : Int)) := hb5.cellOf (hcell 2 _ rfl)
  have k3 : ((w.alloc (.cells #[.slice (some ⟨b, o, none⟩) l.length cc, .int .i64 words, .int .i64 fuel, .slice R 16 cr, .int .i64 (j : Int), .int .i64 steps, .int .i64 0, .int .i64 value] 29)).alloc (.cells #[.int .i64 0, .int .i64 0, .int .i64 0] 35)).cell? ⟨b, o + j * 6 + 3, none⟩ = some (.int .i64 (nb : Int)) := hb5.cellOf (hcell 3 _ rfl)
  have k4 : ((w.alloc (.cells #[.slice (some ⟨b, o, none⟩) l.length cc, .int .i64 words, .int .i64 fuel, .slice R 16 cr, .int .i64 (j : Int), .int .i64 steps, .int .i64 0, .int .i64 value] 29)).alloc (.cells #[.int .i64 0, .int .i64 0, .int .i64 0] 35)).cell? ⟨b, o + j * 6 + 4, none⟩ = some (.int .i64 (nc : Int)) := hb5.cellOf (hcell 4 _ rfl)
  have k5 : ((w.alloc (.cells #[.slice (some ⟨b, o, none⟩) l.length cc, .int .i64 words, .int .i64 fuel, .slice R 16 cr, .int .i64 (j : Int), .int .i64 steps, .int .i64 0, .int .i64 value] 29)).alloc (.cells #[.int .i64 0, .int .i64 0, .int .i64 0] 35)).cell? ⟨b, o + j * 6 + 5, none⟩ = some (.int .i64 n) := hb5.cellOf (hcell 5 _ rfl)
  have hw6 : ∃ w1, (((w.alloc (.cells #[.slice (some ⟨b, o, none⟩) l.length cc, .int .i64 words, .int .i64 fuel, .slice R 16 cr, .int .i64 (j : Int), .int .i64 steps, .int .i64 0, .int .i64 value] 29)).alloc (.cells #[.int .i64 0, .int .i64 0, .int .i64 0] 35)).alloc (.cells #[.int .i64 K, .int .i64 op, .int .i64 (na : Int), .int .i64 (nb : Int), .int .i64 (nc : Int), .int .i64 n] 76)) = w1 := ⟨_, rfl⟩
  obtain ⟨w1, hw1⟩ := hw6
  rw [hw1] at hx0 hx1 hx2 hb6
  have HR1 := Lib.hid (hrow.below hb6)
  have HX0 := Lib.hid hx0
  have HX1 := Lib.hid hx1
  have HX2 := Lib.hid hx2
  have HB1 := Lib.hid hb6
  have HW := Lib.hid hw1
  have HH := Lib.hid hr
  have HN := Lib.hid (And.intro ha (And.intro hb hc))
  have HQ := Lib.hid (And.intro h64b h64n)
  have HAD := Lib.hid hAd
  have HCASE := Lib.hid hcase
  clear hcase
  clear hx0 hx1 hx2 hb6 hb5 hw1 hcell hx hrow hins hz1 hz2 hr h64b h64n hAd
  have ha0 : (0 : Int) ≤ (na : Int) := by omega
  have ha1 : (na : Int) < 16 := by omega
  have hb0 : (0 : Int) ≤ (nb : Int) := by omega
  have hb1 : (nb : Int) < 16 := by omega
  show Calls Try.prog 10 #[.agg #[.slice (some ⟨b, o, none⟩) l.length cc, .int .i64 words, .int .i64 fuel, .slice R 16 cr, .int .i64 (j : Int), .int .i64 steps, .int .i64 0, .int .i64 value]] w _
  obtain ⟨gR, rfl⟩ : ∃ g, R = some ⟨g, 0, none⟩ := by
    obtain ⟨g, e1, _⟩ := HR1.out.cellA (nums_get (show 0 < rg.length by rw [HH.out]; omega))
    exact ⟨g, e1⟩
  have ga : w1.cell? ⟨gR, na, none⟩ = some (.int .i64 va) := by
    obtain ⟨g', e1, e2⟩ := HR1.out.cellA (nums_get (show na < rg.length by have := HN.out; have := HH.out; omega))
    injection e1 with e1; injection e1 with e1 _ _; subst e1; rw [hva] at e2; exact e2
  have GA := Lib.hid ga
  clear ga
  have g0 : w1.cell? ⟨gR, nb, none⟩ = some (.int .i64 vb) := by
    obtain ⟨g', e1, e2⟩ := HR1.out.cellA (nums_get (show nb < rg.length by have := HN.out; have := HH.out; omega))
    injection e1 with e1; injection e1 with e1 _ _; subst e1; rw [hvb] at e2; exact e2
  have GB := Lib.hid g0
  clear g0
  go_enter Try.func10, Try.ntmps10
  go_wp2_with fail
  rw [HW.out]
  clear k0 k1 k2 k3 k4 k5
  have c3 := blk_cell HX0.out 3
  have x3 := blk_cell HX2.out 3
  have x5 := blk_cell HX2.out 5
  have g0 := GB.out
  go_region_held3 (fun V_ => V_.cell? ⟨w.heap.size + 1 + 1, 3, none⟩ = some (.int .i64 (nb : Int)) ∧ V_.cell? ⟨w.heap.size + 1 + 1, 5, none⟩ = some (.int .i64 n) ∧ V_.cell? ⟨w.heap.size, 3, none⟩ = some (.slice (some ⟨gR, 0, none⟩) 16 cr) ∧ V_.cell? ⟨gR, nb, none⟩ = some (.int .i64 vb)) (first | go_keep | (refine ⟨?_, ?_, ?_, ?_⟩ <;> exact keep_cell hb (by assumption))) (first | (go_at_call 26; go_must (refine (plus_calls _ _ HQ.out.1 HQ.out.2 _).mono ?_); rintro y w2 ⟨rfl, hb⟩))
  have hb' := below_fromdrew hb
  have HXa0 := Lib.hid (below_blk hb' HX0.out (blk_lt HX0.out))
  have HXa1 := Lib.hid (below_blk hb' HX1.out (blk_lt HX1.out))
  have HXa2 := Lib.hid (below_blk hb' HX2.out (blk_lt HX2.out))
  have HBa := Lib.hid (HB1.out.trans (hb'.mono HB1.out.size))
  have HGA := Lib.hid (hb'.cellOf GA.out)
  have HT := Lib.hid (there_at HXa1.out 0 3 (by decide))
  clear c3 x3 x5 g0 hb hb'
  rw [HAD.out]
  have c1 := blk_cell HXa0.out 1
  have c3 := blk_cell HXa0.out 3
  have x0 := blk_cell HXa2.out 0
  have x2 := blk_cell HXa2.out 2
  have x4 := blk_cell HXa2.out 4
  have ga := HGA.out
  rcases HCASE.out with ⟨hK, q0, q1, rfl⟩ | ⟨hK, q0, q1, rfl⟩ | ⟨hK, q0, q1, rfl⟩ | ⟨hK, q0, q1, rfl⟩ | ⟨hK, q0, q1, rfl⟩ | ⟨hK, q0, rfl⟩ | ⟨hK, q0, rfl⟩ | ⟨hK, q0, rfl⟩ | ⟨hK, q0, rfl⟩ | ⟨hK, q0, rfl⟩ | ⟨hK, q0, q1, rfl⟩ | ⟨hK, q0, q1, rfl⟩ | ⟨hK, q0, q1, rfl⟩ | ⟨hK, q0, q1, rfl⟩ | ⟨hK, q0, q1, rfl⟩
  · have HK := Lib.hid hK
    clear hK
    have t6 : (K == 6) = true := by simp [HK.out]
    have t7 : (K == 7) = false := by simp [HK.out]
    have t8 : (K == 8) = false := by simp [HK.out]
    have t9 : (K == 9) = false := by simp [HK.out]
    go_wp2_with (refine wpList_store_mid (by rfl) 35 _ _ (by rfl) (w.heap.size + 1) 0 #[.int .i64 1, .int .i64 A, .int .i64 0] (by rfl) (by rfl) HT.out (by kernel_rfl) (by simp [Value.oneCell']) ?_)
    exact refWant_fin rfl rfl HXa1.out HBa.out
  · have HK := Lib.hid hK
    clear hK
    have t6 : (K == 6) = false := by simp [HK.out]
    have t7 : (K == 7) = true := by simp [HK.out]
    have t8 : (K == 8) = false := by simp [HK.out]
    have t9 : (K == 9) = false := by simp [HK.out]
    go_wp2_with (refine wpList_store_mid (by rfl) 35 _ _ (by rfl) (w.heap.size + 1) 0 #[.int .i64 2, .int .i64 A, .int .i64 va] (by rfl) (by rfl) HT.out (by kernel_rfl) (by simp [Value.oneCell']) ?_)
    exact refWant_fin rfl rfl HXa1.out HBa.out
  · have HK := Lib.hid hK
    clear hK
    have t6 : (K == 6) = false := by simp [HK.out]
    have t7 : (K == 7) = false := by simp [HK.out]
    have t8 : (K == 8) = true := by simp [HK.out]
    have t9 : (K == 9) = false := by simp [HK.out]
    go_wp2_with fail
    go_still_tail 9, (by kernel_rfl)
    go_wp2_with (refine wpList_store_mid (by rfl) 35 _ _ (by rfl) (w.heap.size + 1) 0 #[.int .i64 3, .int .i64 (nc : Int), .int .i64 va] (by rfl) (by rfl) (there_drewN HT.out _) (by kernel_rfl) (by simp [Value.oneCell']) ?_)
    exact refWant_fin rfl rfl (show _ from HXa1.out) (below_drewN HBa.out _)
  · have HK := Lib.hid hK
    clear hK
    have t6 : (K == 6) = false := by simp [HK.out]
    have t7 : (K == 7) = false := by simp [HK.out]
    have t8 : (K == 8) = false := by simp [HK.out]
    have t9 : (K == 9) = true := by simp [HK.out]
    go_wp2_with (refine wpList_store_mid (by rfl) 35 _ _ (by rfl) (w.heap.size + 1) 0 #[.int .i64 4, .int .i64 0, .int .i64 va] (by rfl) (by rfl) HT.out (by kernel_rfl) (by simp [Value.oneCell']) ?_)
    exact refWant_fin rfl rfl HXa1.out HBa.out
  · have HK := Lib.hid hK
    clear hK
    have t6 : (K == 6) = false := by simp [HK.out]
    have t7 : (K == 7) = false := by simp [HK.out]
    have t8 : (K == 8) = false := by simp [HK.out]
    have t9 : (K == 9) = false := by simp [HK.out]
    go_wp2_with (refine wpList_store_mid (by rfl) 35 _ _ (by rfl) (w.heap.size + 1) 0 #[.int .i64 0, .int .i64 0, .int .i64 0] (by rfl) (by rfl) HT.out (by kernel_rfl) (by simp [Value.oneCell']) ?_)
    exact refWant_fin rfl rfl HXa1.out HBa.out
  · have HK := Lib.hid hK
    clear hK
    have t6 : (K == 6) = true := by simp [HK.out]
    have t7 : (K == 7) = false := by simp [HK.out]
    have t8 : (K == 8) = false := by simp [HK.out]
    have t9 : (K == 9) = false := by simp [HK.out]
    go_wp2_with (refine wpList_store_mid (by rfl) 35 _ _ (by rfl) (w.heap.size + 1) 0 #[.int .i64 0, .int .i64 0, .int .i64 0] (by rfl) (by rfl) HT.out (by kernel_rfl) (by simp [Value.oneCell']) ?_)
    exact refWant_fin rfl rfl HXa1.out HBa.out
  · have HK := Lib.hid hK
    clear hK
    have t6 : (K == 6) = false := by simp [HK.out]
    have t7 : (K == 7) = true := by simp [HK.out]
    have t8 : (K == 8) = false := by simp [HK.out]
    have t9 : (K == 9) = false := by simp [HK.out]
    go_wp2_with (refine wpList_store_mid (by rfl) 35 _ _ (by rfl) (w.heap.size + 1) 0 #[.int .i64 0, .int .i64 0, .int .i64 0] (by rfl) (by rfl) HT.out (by kernel_rfl) (by simp [Value.oneCell']) ?_)
    exact refWant_fin rfl rfl HXa1.out HBa.out
  · have HK := Lib.hid hK
    clear hK
    have t6 : (K == 6) = false := by simp [HK.out]
    have t7 : (K == 7) = false := by simp [HK.out]
    have t8 : (K == 8) = true := by simp [HK.out]
    have t9 : (K == 9) = false := by simp [HK.out]
    go_wp2_with fail
    go_still_tail 9, (by kernel_rfl)
    go_wp2_with (refine wpList_store_mid (by rfl) 35 _ _ (by rfl) (w.heap.size + 1) 0 #[.int .i64 3, .int .i64 (nc : Int), .int .i64 va] (by rfl) (by rfl) (there_drewN HT.out _) (by kernel_rfl) (by simp [Value.oneCell']) ?_)
    exact refWant_fin rfl rfl (show _ from HXa1.out) (below_drewN HBa.out _)
  · have HK := Lib.hid hK
    clear hK
    have t6 : (K == 6) = false := by simp [HK.out]
    have t7 : (K == 7) = false := by simp [HK.out]
    have t8 : (K == 8) = false := by simp [HK.out]
    have t9 : (K == 9) = true := by simp [HK.out]
    go_wp2_with (refine wpList_store_mid (by rfl) 35 _ _ (by rfl) (w.heap.size + 1) 0 #[.int .i64 4, .int .i64 0, .int .i64 va] (by rfl) (by rfl) HT.out (by kernel_rfl) (by simp [Value.oneCell']) ?_)
    exact refWant_fin rfl rfl HXa1.out HBa.out
  · have HK := Lib.hid hK
    clear hK
    have t6 : (K == 6) = false := by simp [HK.out]
    have t7 : (K == 7) = false := by simp [HK.out]
    have t8 : (K == 8) = false := by simp [HK.out]
    have t9 : (K == 9) = false := by simp [HK.out]
    go_wp2_with (refine wpList_store_mid (by rfl) 35 _ _ (by rfl) (w.heap.size + 1) 0 #[.int .i64 0, .int .i64 0, .int .i64 0] (by rfl) (by rfl) HT.out (by kernel_rfl) (by simp [Value.oneCell']) ?_)
    exact refWant_fin rfl rfl HXa1.out HBa.out
  · have HK := Lib.hid hK
    clear hK
    have t6 : (K == 6) = true := by simp [HK.out]
    have t7 : (K == 7) = false := by simp [HK.out]
    have t8 : (K == 8) = false := by simp [HK.out]
    have t9 : (K == 9) = false := by simp [HK.out]
    go_wp2_with (refine wpList_store_mid (by rfl) 35 _ _ (by rfl) (w.heap.size + 1) 0 #[.int .i64 0, .int .i64 0, .int .i64 0] (by rfl) (by rfl) HT.out (by kernel_rfl) (by simp [Value.oneCell']) ?_)
    exact refWant_fin rfl rfl HXa1.out HBa.out
  · have HK := Lib.hid hK
    clear hK
    have t6 : (K == 6) = false := by simp [HK.out]
    have t7 : (K == 7) = true := by simp [HK.out]
    have t8 : (K == 8) = false := by simp [HK.out]
    have t9 : (K == 9) = false := by simp [HK.out]
    go_wp2_with (refine wpList_store_mid (by rfl) 35 _ _ (by rfl) (w.heap.size + 1) 0 #[.int .i64 0, .int .i64 0, .int .i64 0] (by rfl) (by rfl) HT.out (by kernel_rfl) (by simp [Value.oneCell']) ?_)
    exact refWant_fin rfl rfl HXa1.out HBa.out
  · have HK := Lib.hid hK
    clear hK
    have t6 : (K == 6) = false := by simp [HK.out]
    have t7 : (K == 7) = false := by simp [HK.out]
    have t8 : (K == 8) = true := by simp [HK.out]
    have t9 : (K == 9) = false := by simp [HK.out]
    go_wp2_with fail
    go_still_tail 9, (by kernel_rfl)
    go_wp2_with (refine wpList_store_mid (by rfl) 35 _ _ (by rfl) (w.heap.size + 1) 0 #[.int .i64 3, .int .i64 (nc : Int), .int .i64 va] (by rfl) (by rfl) (there_drewN HT.out _) (by kernel_rfl) (by simp [Value.oneCell']) ?_)
    exact refWant_fin rfl rfl (show _ from HXa1.out) (below_drewN HBa.out _)
  · have HK := Lib.hid hK
    clear hK
    have t6 : (K == 6) = false := by simp [HK.out]
    have t7 : (K == 7) = false := by simp [HK.out]
    have t8 : (K == 8) = false := by simp [HK.out]
    have t9 : (K == 9) = true := by simp [HK.out]
    go_wp2_with (refine wpList_store_mid (by rfl) 35 _ _ (by rfl) (w.heap.size + 1) 0 #[.int .i64 4, .int .i64 0, .int .i64 va] (by rfl) (by rfl) HT.out (by kernel_rfl) (by simp [Value.oneCell']) ?_)
    exact refWant_fin rfl rfl HXa1.out HBa.out
  · have HK := Lib.hid hK
    clear hK
    have t6 : (K == 6) = false := by simp [HK.out]
    have t7 : (K == 7) = false := by simp [HK.out]
    have t8 : (K == 8) = false := by simp [HK.out]
    have t9 : (K == 9) = false := by simp [HK.out]
    go_wp2_with (refine wpList_store_mid (by rfl) 35 _ _ (by rfl) (w.heap.size + 1) 0 #[.int .i64 0, .int .i64 0, .int .i64 0] (by rfl) (by rfl) HT.out (by kernel_rfl) (by simp [Value.oneCell']) ?_)
    exact refWant_fin rfl rfl HXa1.out HBa.out
theorem ref_want_over (w : World) (Ac : Option Addr) (n cc : Nat) (words fuel : Int) (R : Option Addr) (cr : Nat) (rg : List Int) (at0 steps over value : Int) (ho : over ≠ 0) :
    Calls Try.prog 10 #[.agg (refM Ac n cc words fuel R cr ⟨rg, at0, steps, over, value⟩).toArray] w (RefWant w (0, 0, 0)) := by
  have ho' : (over != 0) = true := by simp [ho]
  clear ho
  have hx1 := blk_new (w.alloc (.cells #[.slice Ac n cc, .int .i64 words, .int .i64 fuel, .slice R 16 cr, .int .i64 at0, .int .i64 steps, .int .i64 over, .int .i64 value] 29)) (.cells #[.int .i64 0, .int .i64 0, .int .i64 0] 35)
  rw [size_al] at hx1
  have hb5 : Below w.heap.size w ((w.alloc (.cells #[.slice Ac n cc, .int .i64 words, .int .i64 fuel, .slice R 16 cr, .int .i64 at0, .int .i64 steps, .int .i64 over, .int .i64 value] 29)).alloc (.cells #[.int .i64 0, .int .i64 0, .int .i64 0] 35)) := ((Below.refl w.heap.size w).al).al
  obtain ⟨w1, hw1⟩ : ∃ w1, ((w.alloc (.cells #[.slice Ac n cc, .int .i64 words, .int .i64 fuel, .slice R 16 cr, .int .i64 at0, .int .i64 steps, .int .i64 over, .int .i64 value] 29)).alloc (.cells #[.int .i64 0, .int .i64 0, .int .i64 0] 35)) = w1 := ⟨_, rfl⟩
  rw [hw1] at hx1 hb5
  have HT := Lib.hid (there_at hx1 0 3 (by decide))
  have HX1 := Lib.hid hx1
  have HB1 := Lib.hid hb5
  have HW := Lib.hid hw1
  clear hx1 hb5 hw1
  show Calls Try.prog 10 #[.agg #[.slice Ac n cc, .int .i64 words, .int .i64 fuel, .slice R 16 cr, .int .i64 at0, .int .i64 steps, .int .i64 over, .int .i64 value]] w _
  go_enter Try.func10, Try.ntmps10
  go_wp2_with (first | (have tk := HW; clear tk; rw [HW.out]; clear HW; refine wpList_store_mid (by rfl) 35 _ _ (by rfl) (w.heap.size + 1) 0 #[.int .i64 0, .int .i64 0, .int .i64 0] (by rfl) (by rfl) HT.out (by kernel_rfl) (by simp [Value.oneCell']) ?_))
  exact refWant_fin rfl rfl HX1.out HB1.out
theorem ref_want_spent (w : World) (Ac : Option Addr) (n cc : Nat) (words fuel : Int) (R : Option Addr) (cr : Nat) (rg : List Int) (at0 steps value : Int) (hs : fuel ≤ steps) :
    Calls Try.prog 10 #[.agg (refM Ac n cc words fuel R cr ⟨rg, at0, steps, 0, value⟩).toArray] w (RefWant w (0, 0, 0)) := by
  have hs' : steps ≥ fuel := hs
  clear hs
  have hx1 := blk_new (w.alloc (.cells #[.slice Ac n cc, .int .i64 words, .int .i64 fuel, .slice R 16 cr, .int .i64 at0, .int .i64 steps, .int .i64 0, .int .i64 value] 29)) (.cells #[.int .i64 0, .int .i64 0, .int .i64 0] 35)
  rw [size_al] at hx1
  have hb5 : Below w.heap.size w ((w.alloc (.cells #[.slice Ac n cc, .int .i64 words, .int .i64 fuel, .slice R 16 cr, .int .i64 at0, .int .i64 steps, .int .i64 0, .int .i64 value] 29)).alloc (.cells #[.int .i64 0, .int .i64 0, .int .i64 0] 35)) := ((Below.refl w.heap.size w).al).al
  obtain ⟨w1, hw1⟩ : ∃ w1, ((w.alloc (.cells #[.slice Ac n cc, .int .i64 words, .int .i64 fuel, .slice R 16 cr, .int .i64 at0, .int .i64 steps, .int .i64 0, .int .i64 value] 29)).alloc (.cells #[.int .i64 0, .int .i64 0, .int .i64 0] 35)) = w1 := ⟨_, rfl⟩
  rw [hw1] at hx1 hb5
  have HT := Lib.hid (there_at hx1 0 3 (by decide))
  have HX1 := Lib.hid hx1
  have HB1 := Lib.hid hb5
  have HW := Lib.hid hw1
  clear hx1 hb5 hw1
  show Calls Try.prog 10 #[.agg #[.slice Ac n cc, .int .i64 words, .int .i64 fuel, .slice R 16 cr, .int .i64 at0, .int .i64 steps, .int .i64 0, .int .i64 value]] w _
  go_enter Try.func10, Try.ntmps10
  go_wp2_with (first | (have tk := HW; clear tk; rw [HW.out]; clear HW; refine wpList_store_mid (by rfl) 35 _ _ (by rfl) (w.heap.size + 1) 0 #[.int .i64 0, .int .i64 0, .int .i64 0] (by rfl) (by rfl) HT.out (by kernel_rfl) (by simp [Value.oneCell']) ?_))
  exact refWant_fin rfl rfl HX1.out HB1.out
theorem refWant_calls (w : World) (l : List Ins) (Ac : Option Addr) (cc : Nat) (words fuel : Int) (R : Option Addr) (cr : Nat) (s : St) (hr : s.rg.length = 16) (hrow : Row w 2 1 (.slice R 16 cr) 16 (nums s.rg)) (hins : insRow w l Ac) (hl : l.length ≤ 100000) (hok : ∀ x ∈ l, okR x) (hn64 : ∀ x ∈ l, b64 x.n) (h64 : reg64 s)
    (ha0 : 0 ≤ s.at0) (ha1 : s.at0 < l.length) (hs1 : s.steps ≤ fuel) :
    Calls Try.prog 10 #[.agg (refM Ac l.length cc words fuel R cr s).toArray] w (RefWant w (wantS l words fuel s)) := by
  obtain ⟨rg, at0, steps, over, value⟩ := s
  simp only at hr hrow ha0 ha1 hs1
  by_cases hov : over = 0
  · subst hov
    by_cases hst : steps = fuel
    · have h := ref_want_spent w Ac l.length cc words fuel R cr rg at0 steps value (by omega)
      rwa [show wantS l words fuel ⟨rg, at0, steps, 0, value⟩ = (0, 0, 0) from by simp [wantS, hst]]
    · obtain ⟨j, rfl⟩ : ∃ j : Nat, at0 = j := ⟨at0.toNat, by omega⟩
      have hj : j < l.length := by omega
      have hx := hok _ (List.getElem_mem hj)
      have hN := hn64 _ (List.getElem_mem hj)
      obtain ⟨K, op, a, b, c, n, hxe⟩ : ∃ K op a b c n, l[j] = (⟨K, op, a, b, c, n⟩ : Ins) := ⟨_, _, _, _, _, _, rfl⟩
      rw [hxe] at hx hN
      obtain ⟨⟨hA0, hA1⟩, ⟨hB0, hB1⟩, hC0, hC1⟩ := hx
      simp only at hA0 hA1 hB0 hB1 hC0 hC1 hN
      obtain ⟨na, rfl⟩ : ∃ i : Nat, a = i := ⟨a.toNat, by omega⟩
      obtain ⟨nb, rfl⟩ : ∃ i : Nat, b = i := ⟨b.toNat, by omega⟩
      obtain ⟨nc, rfl⟩ : ∃ i : Nat, c = i := ⟨c.toNat, by omega⟩
      have gb := reg64_get h64 nb
      obtain ⟨va, rva⟩ : ∃ v, St.reg ⟨rg, (j : Int), steps, 0, value⟩ na = v := ⟨_, rfl⟩
      obtain ⟨vb, rvb⟩ : ∃ v, St.reg ⟨rg, (j : Int), steps, 0, value⟩ nb = v := ⟨_, rfl⟩
      rw [rvb] at gb
      have hS : wantS l words fuel ⟨rg, (j : Int), steps, 0, value⟩ = wantX words ⟨rg, (j : Int), steps, 0, value⟩ ⟨K, op, na, nb, nc, n⟩ := by
        simp only [wantS, hst, not_false_eq_true, and_self, if_true, ne_eq, Int.toNat_natCast, List.getD, List.getElem?_eq_getElem hj, Option.getD_some, hxe]
      rw [hS]
      refine refWant_all w l Ac cc words fuel R cr rg hr steps value hrow hins hl j hj K op n na nb nc hxe (by omega) (by omega) (by omega) (by omega) va vb rva rvb gb hN (wrap64 (vb + n)) rfl _ ?_
      generalize hA : wrap64 (vb + n) = A
      have hadd : addr ⟨rg, (j : Int), steps, 0, value⟩ ⟨K, op, na, nb, nc, n⟩ = A := by simp only [addr, Int.toNat_natCast, rvb, hA]
      simp only [wantX, hadd, Int.toNat_natCast, rva, insideB, Bool.and_eq_true, decide_eq_true_eq]
      by_cases p1 : A ≥ 0 <;> by_cases p2 : A < words <;> by_cases k6 : K = 6 <;> by_cases k7 : K = 7 <;> by_cases k8 : K = 8 <;> by_cases k9 : K = 9 <;> simp_all <;> omega
  · have h := ref_want_over w Ac l.length cc words fuel R cr rg at0 steps over value hov
    rwa [show wantS l words fuel ⟨rg, at0, steps, over, value⟩ = (0, 0, 0) from by simp [wantS, hov]]
end Go.Proofs.Ytnikcdcaaeljmaa.My
