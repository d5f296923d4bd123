/- The document's step. Conditions: the text and the registers' row lie in memory; numbers of 64 bits. -/
import Derived.Test.YtnikcdcaaeljmaaVmRf
namespace Go.Proofs.Ytnikcdcaaeljmaa.My
open Go.RowKit Go.Proofs.Ytnikcdcaaeljmaa.NumA
set_option linter.unusedVariables false
set_option linter.unusedSimpArgs false
/-- the document's machine as a value -/
def refM (Ac : Option Addr) (n cc : Nat) (words fuel : Int) (R : Option Addr) (cr : Nat) (s : St) : List Value := [.slice Ac n cc, .int .i64 words, .int .i64 fuel, .slice R 16 cr, .int .i64 s.at0, .int .i64 s.steps, .int .i64 s.over, .int .i64 s.value]
def RefStep (w : World) (Ac : Option Addr) (n cc : Nat) (words fuel : Int) (R0 : Option Addr) (s : St) (e : Ending) (w' : World) : Prop :=
  ∃ R cr, e = .returned (.agg (refM Ac n cc words fuel R cr s).toArray) ∧ Row w' 2 1 (.slice R 16 cr) 16 (nums s.rg) ∧ Below w.heap.size w w' ∧ (R = R0 ∨ ∀ q, (Value.slice R 16 cr).ownBlock = some q → w.heap.size ≤ q)
theorem row_drewN {w : World} {t : TypeId} {z n : Nat} {v : Value} {xs : List Value} (h : Row w t z v n xs) (k : Nat) : Row (w.drewN k) t z v n xs := h
theorem ref_fin {a : Act} {w w3 : World} {Ac : Option Addr} {n cc : Nat} {words fuel : Int} {R R0 : Option Addr} {cr : Nat} {s : St} (ht : a.tmps.getD 4 undef = .pointer (some ⟨w.heap.size + 1, 0, none⟩)) (hd : a.defers = []) (hx : w3.heap[w.heap.size + 1]? = some (.cells #[.slice none 0 0, .int .i64 0, .int .i64 0, .slice none 0 0, .int .i64 0, .int .i64 0, .int .i64 0, .int .i64 0] 29 (0, 0)))
    (hb : Below w.heap.size w w3) (hr : Row w3 2 1 (.slice R 16 cr) 16 (nums s.rg)) (hR : R = R0 ∨ ∀ q, (Value.slice R 16 cr).ownBlock = some q → w.heap.size ≤ q) : bodyPost Try.prog Try.f13 (RefStep w Ac n cc words fuel R0 s) .ret a (w3.setCells (w.heap.size + 1) 0 (refM Ac n cc words fuel R cr s)) :=
  bodyPost_ret (results_cell rfl _ _ (w.heap.size + 1) _ ht (World.rangeAt_setCells_same _ _ 0 _ (there_at hx 0 8 (by decide))) Try.underlying29 rfl (by kernel_rfl)) hd
    ⟨R, cr, rfl, hr.keep fun q hq => heap_sets (fun e => hr.ne hx (by decide) (by rw [hq, e])) _ 0, below_sets (Nat.le_succ _) _ 0 hb, hR⟩
theorem ref_pre (w : World) (l : List Ins) (Ac : Option Addr) (cc : Nat) (words fuel : Int) (R : Option Addr) (cr : Nat) (rg : List Int) (hr : rg.length = 16) (steps value : Int) (hrow : Row w 2 1 (.slice R 16 cr) 16 (nums rg)) (hins : insRow w l Ac) (hl : l.length ≤ 100000) (j : Nat) (hj : j < l.length) (K op n : Int) (na nb nc : Nat) (hx : l[j] = ⟨K, op, (na : Int), (nb : Int), (nc : Int), n⟩) (hs1 : steps < fuel) :
    ∃ b o gR w1, Ac = some ⟨b, o, none⟩ ∧ R = some ⟨gR, 0, none⟩ ∧ ¬ (steps ≥ fuel) ∧ (0 : Int) ≤ (j : Int) ∧ (j : Int) < (l.length : Int) ∧ ((w.alloc (.cells #[.slice (some ⟨b, o, none⟩) l.length cc, .int .i64 words, .int .i64 fuel, .slice (some ⟨gR, 0, none⟩) 16 cr, .int .i64 (j : Int), .int .i64 (steps + 1), .int .i64 0, .int .i64 value] 29)).alloc (.cells #[.slice none 0 0, .int .i64 0, .int .i64 0, .slice none 0 0, .int .i64 0, .int .i64 0, .int .i64 0, .int .i64 0] 29)).cell? ⟨b, o + j * 6, none⟩ = some (.int .i64 K) ∧ ((w.alloc (.cells #[.slice (some ⟨b, o, none⟩) l.length cc, .int .i64 words, .int .i64 fuel, .slice (some ⟨gR, 0, none⟩) 16 cr, .int .i64 (j : Int), .int .i64 (steps + 1), .int .i64 0, .int .i64 value] 29)).alloc (.cells #[.slice none 0 0, .int .i64 0, .int .i64 0, .slice none 0 0, .int .i64 0, .int .i64 0, .int .i64 0, .int .i64 0] 29)).cell? ⟨b, o + j * 6 + 1, none⟩ = some (.int .i64 op) ∧ ((w.alloc (.cells #[.slice (some ⟨b, o, none⟩) l.length cc, .int .i64 words, .int .i64 fuel, .slice (some ⟨gR, 0, none⟩) 16 cr, .int .i64 (j : Int), .int .i64 (steps + 1), .int .i64 0, .int .i64 value] 29)).alloc (.cells #[.slice none 0 0, .int .i64 0, .int .i64 0, .slice none 0 0, .int .i64 0, .int .i64 0, .int .i64 0, .int .i64 0] 29)).cell? ⟨b, o + j * 6 + 2, none⟩ = some (.int .i64 (na : Int)) ∧ ((w.alloc (.cells #[.slice (some ⟨b, o, none⟩) l.length cc, .int .i64 words, .int .i64 fuel, .slice (some ⟨gR, 0, none⟩) 16 cr, .int .i64 (j : Int), .int .i64 (steps + 1), .int .i64 0, .int .i64 value] 29)).alloc (.cells #[.slice none 0 0, .int .i64 0, .int .i64 0, .slice none 0 0, .int .i64 0, .int .i64 0, .int .i64 0, .int .i64 0] 29)).cell? ⟨b, o + j * 6 + 3, none⟩ = some (.int .i64 (nb : Int)) ∧ ((w.alloc (.cells #[.slice (some ⟨b, o, none⟩) l.length cc, .int .i64 words, .int .i64 fuel, .slice (some ⟨gR, 0, none⟩) 16 cr, .int .i64 (j : Int), .int .i64 (steps + 1), .int .i64 0, .int .i64 value] 29)).alloc (.cells #[.slice none 0 0, .int .i64 0, .int .i64 0, .slice none 0 0, .int .i64 0, .int .i64 0, .int .i64 0, .int .i64 0] 29)).cell? ⟨b, o + j * 6 + 4, none⟩ = some (.int .i64 (nc : Int)) ∧ ((w.alloc (.cells #[.slice (some ⟨b, o, none⟩) l.length cc, .int .i64 words, .int .i64 fuel, .slice (some ⟨gR, 0, none⟩) 16 cr, .int .i64 (j : Int), .int .i64 (steps + 1), .int .i64 0, .int .i64 value] 29)).alloc (.cells #[.slice none 0 0, .int .i64 0, .int .i64 0, .slice none 0 0, .int .i64 0, .int .i64 0, .int .i64 0, .int .i64 0] 29)).cell? ⟨b, o + j * 6 + 5, none⟩ = some (.int .i64 n) ∧ (((w.alloc (.cells #[.slice (some ⟨b, o, none⟩) l.length cc, .int .i64 words, .int .i64 fuel, .slice (some ⟨gR, 0, none⟩) 16 cr, .int .i64 (j : Int), .int .i64 (steps + 1), .int .i64 0, .int .i64 value] 29)).alloc (.cells #[.slice none 0 0, .int .i64 0, .int .i64 0, .slice none 0 0, .int .i64 0, .int .i64 0, .int .i64 0, .int .i64 0] 29)).alloc (.cells #[.int .i64 K, .int .i64 op, .int .i64 (na : Int), .int .i64 (nb : Int), .int .i64 (nc : Int), .int .i64 n] 76)) = w1 ∧ Row w1 2 1 (.slice (some ⟨gR, 0, none⟩) 16 cr) 16 (nums rg) ∧ w1.heap[w.heap.size]? = some (.cells #[.slice (some ⟨b, o, none⟩) l.length cc, .int .i64 words, .int .i64 fuel, .slice (some ⟨gR, 0, none⟩) 16 cr, .int .i64 (j : Int), .int .i64 (steps + 1), .int .i64 0, .int .i64 value] 29 (0, 0)) ∧ w1.heap[w.heap.size + 1]? = some (.cells #[.slice none 0 0, .int .i64 0, .int .i64 0, .slice none 0 0, .int .i64 0, .int .i64 0, .int .i64 0, .int .i64 0] 29 (0, 0)) ∧ w1.heap[w.heap.size + 1 + 1]? = some (.cells #[.int .i64 K, .int .i64 op, .int .i64 (na : Int), .int .i64 (nb : Int), .int .i64 (nc : Int), .int .i64 n] 76 (0, 0)) ∧ Below w.heap.size w w1 ∧ (∀ r, r < 16 → w1.cell? ⟨gR, r, none⟩ = some (.int .i64 (rg.getD r 0))) := by
  obtain ⟨b, o, hA, hcell⟩ := hins j hj
  rw [hx] at hcell
  subst hA
  obtain ⟨gR, rfl⟩ : ∃ g, R = some ⟨g, 0, none⟩ := by
    obtain ⟨g, e1, _⟩ := hrow.cellA (nums_get (show 0 < rg.length by omega))
    exact ⟨g, e1⟩
  have hz1 : (w.alloc (.cells #[.slice (some ⟨b, o, none⟩) l.length cc, .int .i64 words, .int .i64 fuel, .slice (some ⟨gR, 0, none⟩) 16 cr, .int .i64 (j : Int), .int .i64 (steps + 1), .int .i64 0, .int .i64 value] 29)).heap.size = w.heap.size + 1 := size_al _ _
  have hz2 : ((w.alloc (.cells #[.slice (some ⟨b, o, none⟩) l.length cc, .int .i64 words, .int .i64 fuel, .slice (some ⟨gR, 0, none⟩) 16 cr, .int .i64 (j : Int), .int .i64 (steps + 1), .int .i64 0, .int .i64 value] 29)).alloc (.cells #[.slice none 0 0, .int .i64 0, .int .i64 0, .slice none 0 0, .int .i64 0, .int .i64 0, .int .i64 0, .int .i64 0] 29)).heap.size = w.heap.size + 1 + 1 := by rw [size_al, hz1]
  have hx0 := blk_alloc (blk_alloc (blk_new w (.cells #[.slice (some ⟨b, o, none⟩) l.length cc, .int .i64 words, .int .i64 fuel, .slice (some ⟨gR, 0, none⟩) 16 cr, .int .i64 (j : Int), .int .i64 (steps + 1), .int .i64 0, .int .i64 value] 29)) (.cells #[.slice none 0 0, .int .i64 0, .int .i64 0, .slice none 0 0, .int .i64 0, .int .i64 0, .int .i64 0, .int .i64 0] 29)) (.cells #[.int .i64 K, .int .i64 op, .int .i64 (na : Int), .int .i64 (nb : Int), .int .i64 (nc : Int), .int .i64 n] 76)
  have hx1 := blk_alloc (blk_new (w.alloc (.cells #[.slice (some ⟨b, o, none⟩) l.length cc, .int .i64 words, .int .i64 fuel, .slice (some ⟨gR, 0, none⟩) 16 cr, .int .i64 (j : Int), .int .i64 (steps + 1), .int .i64 0, .int .i64 value] 29)) (.cells #[.slice none 0 0, .int .i64 0, .int .i64 0, .slice none 0 0, .int .i64 0, .int .i64 0, .int .i64 0, .int .i64 0] 29)) (.cells #[.int .i64 K, .int .i64 op, .int .i64 (na : Int), .int .i64 (nb : Int), .int .i64 (nc : Int), .int .i64 n] 76)
  have hx2 := blk_new ((w.alloc (.cells #[.slice (some ⟨b, o, none⟩) l.length cc, .int .i64 words, .int .i64 fuel, .slice (some ⟨gR, 0, none⟩) 16 cr, .int .i64 (j : Int), .int .i64 (steps + 1), .int .i64 0, .int .i64 value] 29)).alloc (.cells #[.slice none 0 0, .int .i64 0, .int .i64 0, .slice none 0 0, .int .i64 0, .int .i64 0, .int .i64 0, .int .i64 0] 29)) (.cells #[.int .i64 K, .int .i64 op, .int .i64 (na : Int), .int .i64 (nb : Int), .int .i64 (nc : Int), .int .i64 n] 76)
  have hb5 : Below w.heap.size w ((w.alloc (.cells #[.slice (some ⟨b, o, none⟩) l.length cc, .int .i64 words, .int .i64 fuel, .slice (some ⟨gR, 0, none⟩) 16 cr, .int .i64 (j : Int), .int .i64 (steps + 1), .int .i64 0, .int .i64 value] 29)).alloc (.cells #[.slice none 0 0, .int .i64 0, .int .i64 0, .slice none 0 0, .int .i64 0, .int .i64 0, .int .i64 0, .int .i64 0] 29)) := ((Below.refl w.heap.size w).al).al
  have hb6 : Below w.heap.size w (((w.alloc (.cells #[.slice (some ⟨b, o, none⟩) l.length cc, .int .i64 words, .int .i64 fuel, .slice (some ⟨gR, 0, none⟩) 16 cr, .int .i64 (j : Int), .int .i64 (steps + 1), .int .i64 0, .int .i64 value] 29)).alloc (.cells #[.slice none 0 0, .int .i64 0, .int .i64 0, .slice none 0 0, .int .i64 0, .int .i64 0, .int .i64 0, .int .i64 0] 29)).alloc (.cells #[.int .i64 K, .int .i64 op, .int .i64 (na : Int), .int .i64 (nb : Int), .int .i64 (nc : Int), .int .i64 n] 76)) := (((Below.refl w.heap.size w).al).al).al
  rw [hz1] at hx1
  rw [hz2] at hx2
  have hr6 := hrow.below hb6
  refine ⟨b, o, gR, _, rfl, rfl, by omega, by omega, by omega, hb5.cellOf (hcell 0 _ rfl), hb5.cellOf (hcell 1 _ rfl), hb5.cellOf (hcell 2 _ rfl), hb5.cellOf (hcell 3 _ rfl), hb5.cellOf (hcell 4 _ rfl), hb5.cellOf (hcell 5 _ rfl), rfl, hr6, hx0, hx1, hx2, hb6, fun r h16 => ?_⟩
  obtain ⟨g', e1, e2⟩ := hr6.cellA (nums_get (show r < rg.length by omega))
  injection e1 with e1; injection e1 with e1 _ _; subst e1; exact e2
set_option maxRecDepth 100000 in
set_option maxHeartbeats 8000000 in
theorem ref_halt (w : World) (l : List Ins) (Ac : Option Addr) (cc : Nat) (words fuel : Int) (R : Option Addr) (cr : Nat) (rg : List Int) (hr : rg.length = 16) (steps value : Int) (hrow : Row w 2 1 (.slice R 16 cr) 16 (nums rg)) (hins : insRow w l Ac) (hl : l.length ≤ 100000) (j : Nat) (hj : j < l.length) (op n : Int) (na nb nc : Nat) (hx : l[j] = ⟨1, op, (na : Int), (nb : Int), (nc : Int), n⟩) (ha : na < 16) (hb : nb < 16) (hc : nc < 16) (hs0 : 0 ≤ steps) (hs1 : steps < fuel) (hs2 : fuel ≤ 100000) (va vb vc : Int) (hva : rg.getD na 0 = va) (hvb : rg.getD nb 0 = vb) (hvc : rg.getD nc 0 = vc)  (got : Int) :
    Calls Try.prog 13 #[.agg (refM Ac l.length cc words fuel R cr ⟨rg, (j : Int), steps, 0, value⟩).toArray, .int .i64 got] w (RefStep w Ac l.length cc words fuel R (ended ⟨rg, (j : Int), steps + 1, 0, value⟩ 1 0)) := by
  obtain ⟨b, o, gR, w1, rfl, rfl, hsf, hj0, hj1, k0, k1, k2, k3, k4, k5, hw1, hr1, hx0, hx1, hx2, hb1, hg⟩ := ref_pre w l Ac cc words fuel R cr rg hr steps value hrow hins hl j hj 1 op n na nb nc hx hs1
  have HR1 := Lib.hid hr1
  have HX0 := Lib.hid hx0
  have HX1 := Lib.hid hx1
  have HX2 := Lib.hid hx2
  have HB1 := Lib.hid hb1
  have HW := Lib.hid hw1
  have HG := Lib.hid hg
  have HH := Lib.hid hr
  have HN := Lib.hid (And.intro ha (And.intro hb hc))
  clear hx0 hx1 hx2 hb1 hw1 hx hrow hins hr hr1 hg
  show Calls Try.prog 13 #[.agg #[.slice (some ⟨b, o, none⟩) l.length cc, .int .i64 words, .int .i64 fuel, .slice (some ⟨gR, 0, none⟩) 16 cr, .int .i64 (j : Int), .int .i64 steps, .int .i64 0, .int .i64 value], .int .i64 got] w _
  have ha0 : (0 : Int) ≤ (na : Int) := by omega
  have ha1 : (na : Int) < 16 := by have := HN.out; omega
  have hb0 : (0 : Int) ≤ (nb : Int) := by omega
  have hb1 : (nb : Int) < 16 := by have := HN.out; omega
  have hc0 : (0 : Int) ≤ (nc : Int) := by omega
  have hc1 : (nc : Int) < 16 := by have := HN.out; omega
  go_enter Try.func13, Try.ntmps13
  go_wp2_with (have tk := k0; clear tk; rw [HW.out]; clear k0 k1 k2 k3 k4 k5; have x0 := blk_cell HX2.out 0; have c0 := blk_cell HX0.out 0; have c1 := blk_cell HX0.out 1; have c2 := blk_cell HX0.out 2; have c3 := blk_cell HX0.out 3; have c4 := blk_cell HX0.out 4; have c5 := blk_cell HX0.out 5; have c6 := blk_cell HX0.out 6; have c7 := blk_cell HX0.out 7; have x1 := blk_cell HX2.out 1; have x2 := blk_cell HX2.out 2; have x3 := blk_cell HX2.out 3; have x4 := blk_cell HX2.out 4; have x5 := blk_cell HX2.out 5)
  refine (over_calls _ _ _ _ _ _ _ _ _ _ _ _ _ w1).mono ?_
  rintro y w2 ⟨rfl, hb2⟩
  have HB2 := Lib.hid (HB1.out.trans (hb2.mono HB1.out.size))
  have HX3 := Lib.hid (below_blk hb2 HX1.out (blk_lt HX1.out))
  have HR2 := Lib.hid (HR1.out.below hb2)
  have HT := Lib.hid (there_at HX3.out 0 8 (by decide))
  clear hb2
  go_wp2_with (refine wpList_store_mid (by rfl) 29 _ _ (by rfl) (w.heap.size + 1) 0 #[.slice (some ⟨b, o, none⟩) l.length cc, .int .i64 words, .int .i64 fuel, .slice (some ⟨gR, 0, none⟩) 16 cr, .int .i64 (j : Int), .int .i64 (steps + 1), .int .i64 1, .int .i64 0] (by rfl) (by rfl) HT.out (by kernel_rfl) (by simp [Value.oneCell']) ?_)
  exact ref_fin (s := ended ⟨rg, (j : Int), steps + 1, 0, value⟩ 1 0) rfl rfl HX3.out HB2.out HR2.out (.inl rfl)
set_option maxRecDepth 100000 in
set_option maxHeartbeats 8000000 in
theorem ref_const (w : World) (l : List Ins) (Ac : Option Addr) (cc : Nat) (words fuel : Int) (R : Option Addr) (cr : Nat) (rg : List Int) (hr : rg.length = 16) (steps value : Int) (hrow : Row w 2 1 (.slice R 16 cr) 16 (nums rg)) (hins : insRow w l Ac) (hl : l.length ≤ 100000) (j : Nat) (hj : j < l.length) (op n : Int) (na nb nc : Nat) (hx : l[j] = ⟨2, op, (na : Int), (nb : Int), (nc : Int), n⟩) (ha : na < 16) (hb : nb < 16) (hc : nc < 16) (hs0 : 0 ≤ steps) (hs1 : steps < fuel) (hs2 : fuel ≤ 100000) (va vb vc : Int) (hva : rg.getD na 0 = va) (hvb : rg.getD nb 0 = vb) (hvc : rg.getD nc 0 = vc)  (got : Int) :
    Calls Try.prog 13 #[.agg (refM Ac l.length cc words fuel R cr ⟨rg, (j : Int), steps, 0, value⟩).toArray, .int .i64 got] w (RefStep w Ac l.length cc words fuel R (putR ⟨rg, (j : Int), steps + 1, 0, value⟩ ⟨0, 0, na, 0, 0, 0⟩ n)) := by
  obtain ⟨b, o, gR, w1, rfl, rfl, hsf, hj0, hj1, k0, k1, k2, k3, k4, k5, hw1, hr1, hx0, hx1, hx2, hb1, hg⟩ := ref_pre w l Ac cc words fuel R cr rg hr steps value hrow hins hl j hj 2 op n na nb nc hx hs1
  have HR1 := Lib.hid hr1
  have HX0 := Lib.hid hx0
  have HX1 := Lib.hid hx1
  have HX2 := Lib.hid hx2
  have HB1 := Lib.hid hb1
  have HW := Lib.hid hw1
  have HG := Lib.hid hg
  have HH := Lib.hid hr
  have HN := Lib.hid (And.intro ha (And.intro hb hc))
  clear hx0 hx1 hx2 hb1 hw1 hx hrow hins hr hr1 hg
  show Calls Try.prog 13 #[.agg #[.slice (some ⟨b, o, none⟩) l.length cc, .int .i64 words, .int .i64 fuel, .slice (some ⟨gR, 0, none⟩) 16 cr, .int .i64 (j : Int), .int .i64 steps, .int .i64 0, .int .i64 value], .int .i64 got] w _
  have ha0 : (0 : Int) ≤ (na : Int) := by omega
  have ha1 : (na : Int) < 16 := by have := HN.out; omega
  have hb0 : (0 : Int) ≤ (nb : Int) := by omega
  have hb1 : (nb : Int) < 16 := by have := HN.out; omega
  have hc0 : (0 : Int) ≤ (nc : Int) := by omega
  have hc1 : (nc : Int) < 16 := by have := HN.out; omega
  go_enter Try.func13, Try.ntmps13
  go_wp2_with (have tk := k0; clear tk; rw [HW.out]; clear k0 k1 k2 k3 k4 k5; have x0 := blk_cell HX2.out 0; have c0 := blk_cell HX0.out 0; have c1 := blk_cell HX0.out 1; have c2 := blk_cell HX0.out 2; have c3 := blk_cell HX0.out 3; have c4 := blk_cell HX0.out 4; have c5 := blk_cell HX0.out 5; have c6 := blk_cell HX0.out 6; have c7 := blk_cell HX0.out 7; have x1 := blk_cell HX2.out 1; have x2 := blk_cell HX2.out 2; have x3 := blk_cell HX2.out 3; have x4 := blk_cell HX2.out 4; have x5 := blk_cell HX2.out 5)
  refine (set_ref_calls _ _ _ _ _ _ _ _ _ _ _ rg HH.out na (by have := HN.out; omega) (by omega) (by omega) _ w1 HR1.out).mono ?_
  rintro y w2 ⟨R', cr', rfl, hr2, hb2, ho2⟩
  have HO2 := Lib.hid ho2
  clear ho2
  have HB2 := Lib.hid (HB1.out.trans (hb2.mono HB1.out.size))
  have HX3 := Lib.hid (below_blk hb2 HX1.out (blk_lt HX1.out))
  have HR2 := Lib.hid hr2
  have HT := Lib.hid (there_at HX3.out 0 8 (by decide))
  clear hb2 hr2
  go_wp2_with (refine wpList_store_mid (by rfl) 29 _ _ (by rfl) (w.heap.size + 1) 0 #[.slice (some ⟨b, o, none⟩) l.length cc, .int .i64 words, .int .i64 fuel, .slice R' 16 cr', .int .i64 ((j : Int) + 1), .int .i64 (steps + 1), .int .i64 0, .int .i64 value] (by rfl) (by rfl) HT.out (by kernel_rfl) (by simp [Value.oneCell']) ?_)
  exact ref_fin (s := putR ⟨rg, (j : Int), steps + 1, 0, value⟩ ⟨0, 0, na, 0, 0, 0⟩ n) rfl rfl HX3.out HB2.out HR2.out (.inr fun q hq => Nat.le_trans HB1.out.size (HO2.out q hq))
set_option maxRecDepth 100000 in
set_option maxHeartbeats 8000000 in
theorem ref_fail (w : World) (l : List Ins) (Ac : Option Addr) (cc : Nat) (words fuel : Int) (R : Option Addr) (cr : Nat) (rg : List Int) (hr : rg.length = 16) (steps value : Int) (hrow : Row w 2 1 (.slice R 16 cr) 16 (nums rg)) (hins : insRow w l Ac) (hl : l.length ≤ 100000) (j : Nat) (hj : j < l.length) (op n : Int) (na nb nc : Nat) (hx : l[j] = ⟨13, op, (na : Int), (nb : Int), (nc : Int), n⟩) (ha : na < 16) (hb : nb < 16) (hc : nc < 16) (hs0 : 0 ≤ steps) (hs1 : steps < fuel) (hs2 : fuel ≤ 100000) (va vb vc : Int) (hva : rg.getD na 0 = va) (hvb : rg.getD nb 0 = vb) (hvc : rg.getD nc 0 = vc)  (got : Int) :
    Calls Try.prog 13 #[.agg (refM Ac l.length cc words fuel R cr ⟨rg, (j : Int), steps, 0, value⟩).toArray, .int .i64 got] w (RefStep w Ac l.length cc words fuel R (ended ⟨rg, (j : Int), steps + 1, 0, value⟩ 4 va)) := by
  obtain ⟨b, o, gR, w1, rfl, rfl, hsf, hj0, hj1, k0, k1, k2, k3, k4, k5, hw1, hr1, hx0, hx1, hx2, hb1, hg⟩ := ref_pre w l Ac cc words fuel R cr rg hr steps value hrow hins hl j hj 13 op n na nb nc hx hs1
  have HR1 := Lib.hid hr1
  have HX0 := Lib.hid hx0
  have HX1 := Lib.hid hx1
  have HX2 := Lib.hid hx2
  have HB1 := Lib.hid hb1
  have HW := Lib.hid hw1
  have HG := Lib.hid hg
  have HH := Lib.hid hr
  have HN := Lib.hid (And.intro ha (And.intro hb hc))
  clear hx0 hx1 hx2 hb1 hw1 hx hrow hins hr hr1 hg
  show Calls Try.prog 13 #[.agg #[.slice (some ⟨b, o, none⟩) l.length cc, .int .i64 words, .int .i64 fuel, .slice (some ⟨gR, 0, none⟩) 16 cr, .int .i64 (j : Int), .int .i64 steps, .int .i64 0, .int .i64 value], .int .i64 got] w _
  have g0 : w1.cell? ⟨gR, na, none⟩ = some (.int .i64 va) := (HG.out na (by have := HN.out; omega)).trans (by rw [hva])
  have G0_ := Lib.hid g0
  clear g0
  have ha0 : (0 : Int) ≤ (na : Int) := by omega
  have ha1 : (na : Int) < 16 := by have := HN.out; omega
  have hb0 : (0 : Int) ≤ (nb : Int) := by omega
  have hb1 : (nb : Int) < 16 := by have := HN.out; omega
  have hc0 : (0 : Int) ≤ (nc : Int) := by omega
  have hc1 : (nc : Int) < 16 := by have := HN.out; omega
  go_enter Try.func13, Try.ntmps13
  go_wp2_with (have tk := k0; clear tk; rw [HW.out]; clear k0 k1 k2 k3 k4 k5; have x0 := blk_cell HX2.out 0)
  have c0 := blk_cell HX0.out 0
  have c1 := blk_cell HX0.out 1
  have c2 := blk_cell HX0.out 2
  have c3 := blk_cell HX0.out 3
  have c4 := blk_cell HX0.out 4
  have c5 := blk_cell HX0.out 5
  have c6 := blk_cell HX0.out 6
  have c7 := blk_cell HX0.out 7
  have x1 := blk_cell HX2.out 1
  have x2 := blk_cell HX2.out 2
  have x3 := blk_cell HX2.out 3
  have x4 := blk_cell HX2.out 4
  have x5 := blk_cell HX2.out 5
  have g0 := G0_.out
  go_still_tail 7, (by kernel_rfl)
  go_wp2_with fail
  refine (over_calls _ _ _ _ _ _ _ _ _ _ _ _ _ _).mono ?_
  rintro y w2 ⟨rfl, hb2'⟩
  have hb2 : Below w1.heap.size w1 w2 := ⟨hb2'.os, hb2'.tape, hb2'.output, hb2'.size, hb2'.block⟩
  clear hb2'
  have HB2 := Lib.hid (HB1.out.trans (hb2.mono HB1.out.size))
  have HX3 := Lib.hid (below_blk hb2 HX1.out (blk_lt HX1.out))
  have HR2 := Lib.hid (HR1.out.below hb2)
  have HT := Lib.hid (there_at HX3.out 0 8 (by decide))
  clear hb2
  go_wp2_with (refine wpList_store_mid (by rfl) 29 _ _ (by rfl) (w.heap.size + 1) 0 #[.slice (some ⟨b, o, none⟩) l.length cc, .int .i64 words, .int .i64 fuel, .slice (some ⟨gR, 0, none⟩) 16 cr, .int .i64 (j : Int), .int .i64 (steps + 1), .int .i64 4, .int .i64 va] (by rfl) (by rfl) HT.out (by kernel_rfl) (by simp [Value.oneCell']) ?_)
  exact ref_fin (s := ended ⟨rg, (j : Int), steps + 1, 0, value⟩ 4 va) rfl rfl HX3.out HB2.out HR2.out (.inl rfl)
set_option maxRecDepth 100000 in
set_option maxHeartbeats 8000000 in
theorem ref_move (w : World) (l : List Ins) (Ac : Option Addr) (cc : Nat) (words fuel : Int) (R : Option Addr) (cr : Nat) (rg : List Int) (hr : rg.length = 16) (steps value : Int) (hrow : Row w 2 1 (.slice R 16 cr) 16 (nums rg)) (hins : insRow w l Ac) (hl : l.length ≤ 100000) (j : Nat) (hj : j < l.length) (op n : Int) (na nb nc : Nat) (hx : l[j] = ⟨3, op, (na : Int), (nb : Int), (nc : Int), n⟩) (ha : na < 16) (hb : nb < 16) (hc : nc < 16) (hs0 : 0 ≤ steps) (hs1 : steps < fuel) (hs2 : fuel ≤ 100000) (va vb vc : Int) (hva : rg.getD na 0 = va) (hvb : rg.getD nb 0 = vb) (hvc : rg.getD nc 0 = vc)  (got : Int) :
    Calls Try.prog 13 #[.agg (refM Ac l.length cc words fuel R cr ⟨rg, (j : Int), steps, 0, value⟩).toArray, .int .i64 got] w (RefStep w Ac l.length cc words fuel R (putR ⟨rg, (j : Int), steps + 1, 0, value⟩ ⟨0, 0, na, 0, 0, 0⟩ vb)) := by
  obtain ⟨b, o, gR, w1, rfl, rfl, hsf, hj0, hj1, k0, k1, k2, k3, k4, k5, hw1, hr1, hx0, hx1, hx2, hb1, hg⟩ := ref_pre w l Ac cc words fuel R cr rg hr steps value hrow hins hl j hj 3 op n na nb nc hx hs1
  have HR1 := Lib.hid hr1
  have HX0 := Lib.hid hx0
  have HX1 := Lib.hid hx1
  have HX2 := Lib.hid hx2
  have HB1 := Lib.hid hb1
  have HW := Lib.hid hw1
  have HG := Lib.hid hg
  have HH := Lib.hid hr
  have HN := Lib.hid (And.intro ha (And.intro hb hc))
  clear hx0 hx1 hx2 hb1 hw1 hx hrow hins hr hr1 hg
  show Calls Try.prog 13 #[.agg #[.slice (some ⟨b, o, none⟩) l.length cc, .int .i64 words, .int .i64 fuel, .slice (some ⟨gR, 0, none⟩) 16 cr, .int .i64 (j : Int), .int .i64 steps, .int .i64 0, .int .i64 value], .int .i64 got] w _
  have g0 : w1.cell? ⟨gR, nb, none⟩ = some (.int .i64 vb) := (HG.out nb (by have := HN.out; omega)).trans (by rw [hvb])
  have G0_ := Lib.hid g0
  clear g0
  have ha0 : (0 : Int) ≤ (na : Int) := by omega
  have ha1 : (na : Int) < 16 := by have := HN.out; omega
  have hb0 : (0 : Int) ≤ (nb : Int) := by omega
  have hb1 : (nb : Int) < 16 := by have := HN.out; omega
  have hc0 : (0 : Int) ≤ (nc : Int) := by omega
  have hc1 : (nc : Int) < 16 := by have := HN.out; omega
  go_enter Try.func13, Try.ntmps13
  go_wp2_with (have tk := k0; clear tk; rw [HW.out]; clear k0 k1 k2 k3 k4 k5; have x0 := blk_cell HX2.out 0)
  have c0 := blk_cell HX0.out 0
  have c1 := blk_cell HX0.out 1
  have c2 := blk_cell HX0.out 2
  have c3 := blk_cell HX0.out 3
  have c4 := blk_cell HX0.out 4
  have c5 := blk_cell HX0.out 5
  have c6 := blk_cell HX0.out 6
  have c7 := blk_cell HX0.out 7
  have x1 := blk_cell HX2.out 1
  have x2 := blk_cell HX2.out 2
  have x3 := blk_cell HX2.out 3
  have x4 := blk_cell HX2.out 4
  have x5 := blk_cell HX2.out 5
  have g0 := G0_.out
  go_still_tail 9, (by kernel_rfl)
  go_wp2_with fail
  refine (set_ref_calls _ _ _ _ _ _ _ _ _ _ _ rg HH.out na (by have := HN.out; omega) (by omega) (by omega) _ _ (row_drewN HR1.out _)).mono ?_
  rintro y w2 ⟨R', cr', rfl, hr2, hb2', ho2⟩
  have hb2 : Below w1.heap.size w1 w2 := ⟨hb2'.os, hb2'.tape, hb2'.output, hb2'.size, hb2'.block⟩
  clear hb2'
  have HO2 := Lib.hid ho2
  clear ho2
  have HB2 := Lib.hid (HB1.out.trans (hb2.mono HB1.out.size))
  have HX3 := Lib.hid (below_blk hb2 HX1.out (blk_lt HX1.out))
  have HR2 := Lib.hid hr2
  have HT := Lib.hid (there_at HX3.out 0 8 (by decide))
  clear hb2 hr2
  go_wp2_with (refine wpList_store_mid (by rfl) 29 _ _ (by rfl) (w.heap.size + 1) 0 #[.slice (some ⟨b, o, none⟩) l.length cc, .int .i64 words, .int .i64 fuel, .slice R' 16 cr', .int .i64 ((j : Int) + 1), .int .i64 (steps + 1), .int .i64 0, .int .i64 value] (by rfl) (by rfl) HT.out (by kernel_rfl) (by simp [Value.oneCell']) ?_)
  exact ref_fin (s := putR ⟨rg, (j : Int), steps + 1, 0, value⟩ ⟨0, 0, na, 0, 0, 0⟩ vb) rfl rfl HX3.out HB2.out HR2.out (.inr fun q hq => Nat.le_trans HB1.out.size (HO2.out q hq))
set_option maxRecDepth 100000 in
set_option maxHeartbeats 8000000 in
theorem ref_one (w : World) (l : List Ins) (Ac : Option Addr) (cc : Nat) (words fuel : Int) (R : Option Addr) (cr : Nat) (rg : List Int) (hr : rg.length = 16) (steps value : Int) (hrow : Row w 2 1 (.slice R 16 cr) 16 (nums rg)) (hins : insRow w l Ac) (hl : l.length ≤ 100000) (j : Nat) (hj : j < l.length) (op n : Int) (na nb nc : Nat) (hx : l[j] = ⟨4, op, (na : Int), (nb : Int), (nc : Int), n⟩) (ha : na < 16) (hb : nb < 16) (hc : nc < 16) (hs0 : 0 ≤ steps) (hs1 : steps < fuel) (hs2 : fuel ≤ 100000) (va vb vc : Int) (hva : rg.getD na 0 = va) (hvb : rg.getD nb 0 = vb) (hvc : rg.getD nc 0 = vc)  (got : Int) :
    Calls Try.prog 13 #[.agg (refM Ac l.length cc words fuel R cr ⟨rg, (j : Int), steps, 0, value⟩).toArray, .int .i64 got] w (RefStep w Ac l.length cc words fuel R (putR ⟨rg, (j : Int), steps + 1, 0, value⟩ ⟨0, 0, na, 0, 0, 0⟩ (one op vb).1)) := by
  obtain ⟨b, o, gR, w1, rfl, rfl, hsf, hj0, hj1, k0, k1, k2, k3, k4, k5, hw1, hr1, hx0, hx1, hx2, hb1, hg⟩ := ref_pre w l Ac cc words fuel R cr rg hr steps value hrow hins hl j hj 4 op n na nb nc hx hs1
  have HR1 := Lib.hid hr1
  have HX0 := Lib.hid hx0
  have HX1 := Lib.hid hx1
  have HX2 := Lib.hid hx2
  have HB1 := Lib.hid hb1
  have HW := Lib.hid hw1
  have HG := Lib.hid hg
  have HH := Lib.hid hr
  have HN := Lib.hid (And.intro ha (And.intro hb hc))
  clear hx0 hx1 hx2 hb1 hw1 hx hrow hins hr hr1 hg
  show Calls Try.prog 13 #[.agg #[.slice (some ⟨b, o, none⟩) l.length cc, .int .i64 words, .int .i64 fuel, .slice (some ⟨gR, 0, none⟩) 16 cr, .int .i64 (j : Int), .int .i64 steps, .int .i64 0, .int .i64 value], .int .i64 got] w _
  have g0 : w1.cell? ⟨gR, nb, none⟩ = some (.int .i64 vb) := (HG.out nb (by have := HN.out; omega)).trans (by rw [hvb])
  have G0_ := Lib.hid g0
  clear g0
  have ha0 : (0 : Int) ≤ (na : Int) := by omega
  have ha1 : (na : Int) < 16 := by have := HN.out; omega
  have hb0 : (0 : Int) ≤ (nb : Int) := by omega
  have hb1 : (nb : Int) < 16 := by have := HN.out; omega
  have hc0 : (0 : Int) ≤ (nc : Int) := by omega
  have hc1 : (nc : Int) < 16 := by have := HN.out; omega
  go_enter Try.func13, Try.ntmps13
  go_wp2_with (have tk := k0; clear tk; rw [HW.out]; clear k0 k1 k2 k3 k4 k5; have x0 := blk_cell HX2.out 0)
  have c3 := blk_cell HX0.out 3
  have x1 := blk_cell HX2.out 1
  have x3 := blk_cell HX2.out 3
  have g0 := G0_.out
  go_region_held3 (fun V_ => V_.cell? ⟨w.heap.size + 1 + 1, 1, none⟩ = some (.int .i64 op) ∧ V_.cell? ⟨w.heap.size + 1 + 1, 3, none⟩ = some (.int .i64 (nb : Int)) ∧ V_.cell? ⟨w.heap.size, 3, none⟩ = some (.slice (some ⟨gR, 0, none⟩) 16 cr) ∧ V_.cell? ⟨gR, nb, none⟩ = some (.int .i64 vb)) (first | go_keep | (refine ⟨?_, ?_, ?_, ?_⟩ <;> exact keep_cell hb (by assumption))) (first | (go_at_call 34; go_must (refine (NumA.refOne_calls _ _ _).mono ?_); rintro y w2 ⟨rfl, hb⟩))
  have hb' := below_fromdrew hb
  have HRa := Lib.hid (HR1.out.below hb')
  have HXa0 := Lib.hid (below_blk hb' HX0.out (blk_lt HX0.out))
  have HXa1 := Lib.hid (below_blk hb' HX1.out (blk_lt HX1.out))
  have HXa2 := Lib.hid (below_blk hb' HX2.out (blk_lt HX2.out))
  have HBa := Lib.hid (HB1.out.trans (hb'.mono HB1.out.size))
  clear x1 x3 c3 g0 x0
  clear hb hb'
  have c0 := blk_cell HXa0.out 0
  have c1 := blk_cell HXa0.out 1
  have c2 := blk_cell HXa0.out 2
  have c3 := blk_cell HXa0.out 3
  have c4 := blk_cell HXa0.out 4
  have c5 := blk_cell HXa0.out 5
  have c6 := blk_cell HXa0.out 6
  have c7 := blk_cell HXa0.out 7
  have x0 := blk_cell HXa2.out 0
  have x1 := blk_cell HXa2.out 1
  have x2 := blk_cell HXa2.out 2
  have x3 := blk_cell HXa2.out 3
  have x4 := blk_cell HXa2.out 4
  have x5 := blk_cell HXa2.out 5
  go_wp2_with fail
  refine (set_ref_calls _ _ _ _ _ _ _ _ _ _ _ rg HH.out na (by have := HN.out; omega) (by omega) (by omega) _ _ HRa.out).mono ?_
  rintro y w3 ⟨R', cr', rfl, hr2, hb2', ho2⟩
  have hb2 : Below w2.heap.size w2 w3 := ⟨hb2'.os, hb2'.tape, hb2'.output, hb2'.size, hb2'.block⟩
  clear hb2'
  have HO2 := Lib.hid ho2
  clear ho2
  have HB2 := Lib.hid (HBa.out.trans (hb2.mono HBa.out.size))
  have HX3 := Lib.hid (below_blk hb2 HXa1.out (blk_lt HXa1.out))
  have HR2 := Lib.hid hr2
  have HT := Lib.hid (there_at HX3.out 0 8 (by decide))
  clear hb2 hr2
  go_wp2_with (refine wpList_store_mid (by rfl) 29 _ _ (by rfl) (w.heap.size + 1) 0 #[.slice (some ⟨b, o, none⟩) l.length cc, .int .i64 words, .int .i64 fuel, .slice R' 16 cr', .int .i64 ((j : Int) + 1), .int .i64 (steps + 1), .int .i64 0, .int .i64 value] (by rfl) (by rfl) HT.out (by kernel_rfl) (by simp [Value.oneCell']) ?_)
  exact ref_fin (s := putR ⟨rg, (j : Int), steps + 1, 0, value⟩ ⟨0, 0, na, 0, 0, 0⟩ (one op vb).1) rfl rfl HX3.out HB2.out HR2.out (.inr fun q hq => Nat.le_trans HBa.out.size (HO2.out q hq))
set_option maxRecDepth 100000 in
set_option maxHeartbeats 8000000 in
theorem ref_outneg6 (w : World) (l : List Ins) (Ac : Option Addr) (cc : Nat) (words fuel : Int) (R : Option Addr) (cr : Nat) (rg : List Int) (hr : rg.length = 16) (steps value : Int) (hrow : Row w 2 1 (.slice R 16 cr) 16 (nums rg)) (hins : insRow w l Ac) (hl : l.length ≤ 100000) (j : Nat) (hj : j < l.length) (op n : Int) (na nb nc : Nat) (hx : l[j] = ⟨6, op, (na : Int), (nb : Int), (nc : Int), n⟩) (ha : na < 16) (hb : nb < 16) (hc : nc < 16) (hs0 : 0 ≤ steps) (hs1 : steps < fuel) (hs2 : fuel ≤ 100000) (va vb vc : Int) (hva : rg.getD na 0 = va) (hvb : rg.getD nb 0 = vb) (hvc : rg.getD nc 0 = vc) (h64b : b64 vb) (h64n : b64 n) (A : Int) (hAd : wrap64 (vb + n) = A) (q1 : A < 0) (got : Int) :
    Calls Try.prog 13 #[.agg (refM Ac l.length cc words fuel R cr ⟨rg, (j : Int), steps, 0, value⟩).toArray, .int .i64 got] w (RefStep w Ac l.length cc words fuel R (ended ⟨rg, (j : Int), steps + 1, 0, value⟩ 3 A)) := by
  obtain ⟨b, o, gR, w1, rfl, rfl, hsf, hj0, hj1, k0, k1, k2, k3, k4, k5, hw1, hr1, hx0, hx1, hx2, hb1, hg⟩ := ref_pre w l Ac cc words fuel R cr rg hr steps value hrow hins hl j hj 6 op n na nb nc hx hs1
  have HR1 := Lib.hid hr1
  have HX0 := Lib.hid hx0
  have HX1 := Lib.hid hx1
  have HX2 := Lib.hid hx2
  have HB1 := Lib.hid hb1
  have HW := Lib.hid hw1
  have HG := Lib.hid hg
  have HH := Lib.hid hr
  have HN := Lib.hid (And.intro ha (And.intro hb hc))
  clear hx0 hx1 hx2 hb1 hw1 hx hrow hins hr hr1 hg
  show Calls Try.prog 13 #[.agg #[.slice (some ⟨b, o, none⟩) l.length cc, .int .i64 words, .int .i64 fuel, .slice (some ⟨gR, 0, none⟩) 16 cr, .int .i64 (j : Int), .int .i64 steps, .int .i64 0, .int .i64 value], .int .i64 got] w _
  have g0 : w1.cell? ⟨gR, nb, none⟩ = some (.int .i64 vb) := (HG.out nb (by have := HN.out; omega)).trans (by rw [hvb])
  have G0_ := Lib.hid g0
  clear g0
  have ha0 : (0 : Int) ≤ (na : Int) := by omega
  have ha1 : (na : Int) < 16 := by have := HN.out; omega
  have hb0 : (0 : Int) ≤ (nb : Int) := by omega
  have hb1 : (nb : Int) < 16 := by have := HN.out; omega
  have hc0 : (0 : Int) ≤ (nc : Int) := by omega
  have hc1 : (nc : Int) < 16 := by have := HN.out; omega
  have HQ := Lib.hid (And.intro h64b h64n)
  have HAD := Lib.hid hAd
  clear h64b h64n hAd
  go_enter Try.func13, Try.ntmps13
  go_wp2_with (have tk := k0; clear tk; rw [HW.out]; clear k0 k1 k2 k3 k4 k5; have x0 := blk_cell HX2.out 0)
  have c3 := blk_cell HX0.out 3
  have x3 := blk_cell HX2.out 3
  have x5 := blk_cell HX2.out 5
  have g0 := G0_.out
  go_region_held3 (fun V_ => V_.cell? ⟨w.heap.size + 1 + 1, 3, none⟩ = some (.int .i64 (nb : Int)) ∧ V_.cell? ⟨w.heap.size + 1 + 1, 5, none⟩ = some (.int .i64 n) ∧ V_.cell? ⟨w.heap.size, 3, none⟩ = some (.slice (some ⟨gR, 0, none⟩) 16 cr) ∧ V_.cell? ⟨gR, nb, none⟩ = some (.int .i64 vb)) (first | go_keep | (refine ⟨?_, ?_, ?_, ?_⟩ <;> exact keep_cell hb (by assumption))) (first | (go_at_call 26; go_must (refine (plus_calls _ _ HQ.out.1 HQ.out.2 _).mono ?_); rintro y w2 ⟨rfl, hb⟩))
  have hb' := below_fromdrew hb
  have HRa := Lib.hid (HR1.out.below hb')
  have HXa0 := Lib.hid (below_blk hb' HX0.out (blk_lt HX0.out))
  have HXa1 := Lib.hid (below_blk hb' HX1.out (blk_lt HX1.out))
  have HXa2 := Lib.hid (below_blk hb' HX2.out (blk_lt HX2.out))
  have HBa := Lib.hid (HB1.out.trans (hb'.mono HB1.out.size))
  clear x3 x5 c3 g0 x0
  clear hb hb'
  have c0 := blk_cell HXa0.out 0
  have c1 := blk_cell HXa0.out 1
  have c2 := blk_cell HXa0.out 2
  have c3 := blk_cell HXa0.out 3
  have c4 := blk_cell HXa0.out 4
  have c5 := blk_cell HXa0.out 5
  have c6 := blk_cell HXa0.out 6
  have c7 := blk_cell HXa0.out 7
  have x0 := blk_cell HXa2.out 0
  have x1 := blk_cell HXa2.out 1
  have x2 := blk_cell HXa2.out 2
  have x3 := blk_cell HXa2.out 3
  have x4 := blk_cell HXa2.out 4
  have x5 := blk_cell HXa2.out 5
  rw [HAD.out]
  go_wp2_with fail
  refine (over_calls _ _ _ _ _ _ _ _ _ _ _ _ _ _).mono ?_
  rintro y w3 ⟨rfl, hb2'⟩
  have hb2 : Below w2.heap.size w2 w3 := ⟨hb2'.os, hb2'.tape, hb2'.output, hb2'.size, hb2'.block⟩
  clear hb2'
  have HB2 := Lib.hid (HBa.out.trans (hb2.mono HBa.out.size))
  have HX3 := Lib.hid (below_blk hb2 HXa1.out (blk_lt HXa1.out))
  have HR2 := Lib.hid (HRa.out.below hb2)
  have HT := Lib.hid (there_at HX3.out 0 8 (by decide))
  clear hb2
  go_wp2_with (refine wpList_store_mid (by rfl) 29 _ _ (by rfl) (w.heap.size + 1) 0 #[.slice (some ⟨b, o, none⟩) l.length cc, .int .i64 words, .int .i64 fuel, .slice (some ⟨gR, 0, none⟩) 16 cr, .int .i64 (j : Int), .int .i64 (steps + 1), .int .i64 3, .int .i64 A] (by rfl) (by rfl) HT.out (by kernel_rfl) (by simp [Value.oneCell']) ?_)
  exact ref_fin (s := ended ⟨rg, (j : Int), steps + 1, 0, value⟩ 3 A) rfl rfl HX3.out HB2.out HR2.out (.inl rfl)
set_option maxRecDepth 100000 in
set_option maxHeartbeats 8000000 in
theorem ref_outneg7 (w : World) (l : List Ins) (Ac : Option Addr) (cc : Nat) (words fuel : Int) (R : Option Addr) (cr : Nat) (rg : List Int) (hr : rg.length = 16) (steps value : Int) (hrow : Row w 2 1 (.slice R 16 cr) 16 (nums rg)) (hins : insRow w l Ac) (hl : l.length ≤ 100000) (j : Nat) (hj : j < l.length) (op n : Int) (na nb nc : Nat) (hx : l[j] = ⟨7, op, (na : Int), (nb : Int), (nc : Int), n⟩) (ha : na < 16) (hb : nb < 16) (hc : nc < 16) (hs0 : 0 ≤ steps) (hs1 : steps < fuel) (hs2 : fuel ≤ 100000) (va vb vc : Int) (hva : rg.getD na 0 = va) (hvb : rg.getD nb 0 = vb) (hvc : rg.getD nc 0 = vc) (h64b : b64 vb) (h64n : b64 n) (A : Int) (hAd : wrap64 (vb + n) = A) (q1 : A < 0) (got : Int) :
    Calls Try.prog 13 #[.agg (refM Ac l.length cc words fuel R cr ⟨rg, (j : Int), steps, 0, value⟩).toArray, .int .i64 got] w (RefStep w Ac l.length cc words fuel R (ended ⟨rg, (j : Int), steps + 1, 0, value⟩ 3 A)) := by
  obtain ⟨b, o, gR, w1, rfl, rfl, hsf, hj0, hj1, k0, k1, k2, k3, k4, k5, hw1, hr1, hx0, hx1, hx2, hb1, hg⟩ := ref_pre w l Ac cc words fuel R cr rg hr steps value hrow hins hl j hj 7 op n na nb nc hx hs1
  have HR1 := Lib.hid hr1
  have HX0 := Lib.hid hx0
  have HX1 := Lib.hid hx1
  have HX2 := Lib.hid hx2
  have HB1 := Lib.hid hb1
  have HW := Lib.hid hw1
  have HG := Lib.hid hg
  have HH := Lib.hid hr
  have HN := Lib.hid (And.intro ha (And.intro hb hc))
  clear hx0 hx1 hx2 hb1 hw1 hx hrow hins hr hr1 hg
  show Calls Try.prog 13 #[.agg #[.slice (some ⟨b, o, none⟩) l.length cc, .int .i64 words, .int .i64 fuel, .slice (some ⟨gR, 0, none⟩) 16 cr, .int .i64 (j : Int), .int .i64 steps, .int .i64 0, .int .i64 value], .int .i64 got] w _
  have g0 : w1.cell? ⟨gR, nb, none⟩ = some (.int .i64 vb) := (HG.out nb (by have := HN.out; omega)).trans (by rw [hvb])
  have G0_ := Lib.hid g0
  clear g0
  have ha0 : (0 : Int) ≤ (na : Int) := by omega
  have ha1 : (na : Int) < 16 := by have := HN.out; omega
  have hb0 : (0 : Int) ≤ (nb : Int) := by omega
  have hb1 : (nb : Int) < 16 := by have := HN.out; omega
  have hc0 : (0 : Int) ≤ (nc : Int) := by omega
  have hc1 : (nc : Int) < 16 := by have := HN.out; omega
  have HQ := Lib.hid (And.intro h64b h64n)
  have HAD := Lib.hid hAd
  clear h64b h64n hAd
  go_enter Try.func13, Try.ntmps13
  go_wp2_with (have tk := k0; clear tk; rw [HW.out]; clear k0 k1 k2 k3 k4 k5; have x0 := blk_cell HX2.out 0)
  have c3 := blk_cell HX0.out 3
  have x3 := blk_cell HX2.out 3
  have x5 := blk_cell HX2.out 5
  have g0 := G0_.out
  go_region_held3 (fun V_ => V_.cell? ⟨w.heap.size + 1 + 1, 3, none⟩ = some (.int .i64 (nb : Int)) ∧ V_.cell? ⟨w.heap.size + 1 + 1, 5, none⟩ = some (.int .i64 n) ∧ V_.cell? ⟨w.heap.size, 3, none⟩ = some (.slice (some ⟨gR, 0, none⟩) 16 cr) ∧ V_.cell? ⟨gR, nb, none⟩ = some (.int .i64 vb)) (first | go_keep | (refine ⟨?_, ?_, ?_, ?_⟩ <;> exact keep_cell hb (by assumption))) (first | (go_at_call 26; go_must (refine (plus_calls _ _ HQ.out.1 HQ.out.2 _).mono ?_); rintro y w2 ⟨rfl, hb⟩))
  have hb' := below_fromdrew hb
  have HRa := Lib.hid (HR1.out.below hb')
  have HXa0 := Lib.hid (below_blk hb' HX0.out (blk_lt HX0.out))
  have HXa1 := Lib.hid (below_blk hb' HX1.out (blk_lt HX1.out))
  have HXa2 := Lib.hid (below_blk hb' HX2.out (blk_lt HX2.out))
  have HBa := Lib.hid (HB1.out.trans (hb'.mono HB1.out.size))
  clear x3 x5 c3 g0 x0
  clear hb hb'
  have c0 := blk_cell HXa0.out 0
  have c1 := blk_cell HXa0.out 1
  have c2 := blk_cell HXa0.out 2
  have c3 := blk_cell HXa0.out 3
  have c4 := blk_cell HXa0.out 4
  have c5 := blk_cell HXa0.out 5
  have c6 := blk_cell HXa0.out 6
  have c7 := blk_cell HXa0.out 7
  have x0 := blk_cell HXa2.out 0
  have x1 := blk_cell HXa2.out 1
  have x2 := blk_cell HXa2.out 2
  have x3 := blk_cell HXa2.out 3
  have x4 := blk_cell HXa2.out 4
  have x5 := blk_cell HXa2.out 5
  rw [HAD.out]
  go_wp2_with fail
  refine (over_calls _ _ _ _ _ _ _ _ _ _ _ _ _ _).mono ?_
  rintro y w3 ⟨rfl, hb2'⟩
  have hb2 : Below w2.heap.size w2 w3 := ⟨hb2'.os, hb2'.tape, hb2'.output, hb2'.size, hb2'.block⟩
  clear hb2'
  have HB2 := Lib.hid (HBa.out.trans (hb2.mono HBa.out.size))
  have HX3 := Lib.hid (below_blk hb2 HXa1.out (blk_lt HXa1.out))
  have HR2 := Lib.hid (HRa.out.below hb2)
  have HT := Lib.hid (there_at HX3.out 0 8 (by decide))
  clear hb2
  go_wp2_with (refine wpList_store_mid (by rfl) 29 _ _ (by rfl) (w.heap.size + 1) 0 #[.slice (some ⟨b, o, none⟩) l.length cc, .int .i64 words, .int .i64 fuel, .slice (some ⟨gR, 0, none⟩) 16 cr, .int .i64 (j : Int), .int .i64 (steps + 1), .int .i64 3, .int .i64 A] (by rfl) (by rfl) HT.out (by kernel_rfl) (by simp [Value.oneCell']) ?_)
  exact ref_fin (s := ended ⟨rg, (j : Int), steps + 1, 0, value⟩ 3 A) rfl rfl HX3.out HB2.out HR2.out (.inl rfl)
set_option maxRecDepth 100000 in
set_option maxHeartbeats 8000000 in
theorem ref_outbig6 (w : World) (l : List Ins) (Ac : Option Addr) (cc : Nat) (words fuel : Int) (R : Option Addr) (cr : Nat) (rg : List Int) (hr : rg.length = 16) (steps value : Int) (hrow : Row w 2 1 (.slice R 16 cr) 16 (nums rg)) (hins : insRow w l Ac) (hl : l.length ≤ 100000) (j : Nat) (hj : j < l.length) (op n : Int) (na nb nc : Nat) (hx : l[j] = ⟨6, op, (na : Int), (nb : Int), (nc : Int), n⟩) (ha : na < 16) (hb : nb < 16) (hc : nc < 16) (hs0 : 0 ≤ steps) (hs1 : steps < fuel) (hs2 : fuel ≤ 100000) (va vb vc : Int) (hva : rg.getD na 0 = va) (hvb : rg.getD nb 0 = vb) (hvc : rg.getD nc 0 = vc) (h64b : b64 vb) (h64n : b64 n) (A : Int) (hAd : wrap64 (vb + n) = A) (q1 : ¬ (A < 0)) (q2 : A ≥ words) (got : Int) :
    Calls Try.prog 13 #[.agg (refM Ac l.length cc words fuel R cr ⟨rg, (j : Int), steps, 0, value⟩).toArray, .int .i64 got] w (RefStep w Ac l.length cc words fuel R (ended ⟨rg, (j : Int), steps + 1, 0, value⟩ 3 A)) := by
  obtain ⟨b, o, gR, w1, rfl, rfl, hsf, hj0, hj1, k0, k1, k2, k3, k4, k5, hw1, hr1, hx0, hx1, hx2, hb1, hg⟩ := ref_pre w l Ac cc words fuel R cr rg hr steps value hrow hins hl j hj 6 op n na nb nc hx hs1
  have HR1 := Lib.hid hr1
  have HX0 := Lib.hid hx0
  have HX1 := Lib.hid hx1
  have HX2 := Lib.hid hx2
  have HB1 := Lib.hid hb1
  have HW := Lib.hid hw1
  have HG := Lib.hid hg
  have HH := Lib.hid hr
  have HN := Lib.hid (And.intro ha (And.intro hb hc))
  clear hx0 hx1 hx2 hb1 hw1 hx hrow hins hr hr1 hg
  show Calls Try.prog 13 #[.agg #[.slice (some ⟨b, o, none⟩) l.length cc, .int .i64 words, .int .i64 fuel, .slice (some ⟨gR, 0, none⟩) 16 cr, .int .i64 (j : Int), .int .i64 steps, .int .i64 0, .int .i64 value], .int .i64 got] w _
  have g0 : w1.cell? ⟨gR, nb, none⟩ = some (.int .i64 vb) := (HG.out nb (by have := HN.out; omega)).trans (by rw [hvb])
  have G0_ := Lib.hid g0
  clear g0
  have ha0 : (0 : Int) ≤ (na : Int) := by omega
  have ha1 : (na : Int) < 16 := by have := HN.out; omega
  have hb0 : (0 : Int) ≤ (nb : Int) := by omega
  have hb1 : (nb : Int) < 16 := by have := HN.out; omega
  have hc0 : (0 : Int) ≤ (nc : Int) := by omega
  have hc1 : (nc : Int) < 16 := by have := HN.out; omega
  have HQ := Lib.hid (And.intro h64b h64n)
  have HAD := Lib.hid hAd
  clear h64b h64n hAd
  go_enter Try.func13, Try.ntmps13
  go_wp2_with (have tk := k0; clear tk; rw [HW.out]; clear k0 k1 k2 k3 k4 k5; have x0 := blk_cell HX2.out 0)
  have c3 := blk_cell HX0.out 3
  have x3 := blk_cell HX2.out 3
  have x5 := blk_cell HX2.out 5
  have g0 := G0_.out
  go_region_held3 (fun V_ => V_.cell? ⟨w.heap.size + 1 + 1, 3, none⟩ = some (.int .i64 (nb : Int)) ∧ V_.cell? ⟨w.heap.size + 1 + 1, 5, none⟩ = some (.int .i64 n) ∧ V_.cell? ⟨w.heap.size, 3, none⟩ = some (.slice (some ⟨gR, 0, none⟩) 16 cr) ∧ V_.cell? ⟨gR, nb, none⟩ = some (.int .i64 vb)) (first | go_keep | (refine ⟨?_, ?_, ?_, ?_⟩ <;> exact keep_cell hb (by assumption))) (first | (go_at_call 26; go_must (refine (plus_calls _ _ HQ.out.1 HQ.out.2 _).mono ?_); rintro y w2 ⟨rfl, hb⟩))
  have hb' := below_fromdrew hb
  have HRa := Lib.hid (HR1.out.below hb')
  have HXa0 := Lib.hid (below_blk hb' HX0.out (blk_lt HX0.out))
  have HXa1 := Lib.hid (below_blk hb' HX1.out (blk_lt HX1.out))
  have HXa2 := Lib.hid (below_blk hb' HX2.out (blk_lt HX2.out))
  have HBa := Lib.hid (HB1.out.trans (hb'.mono HB1.out.size))
  clear x3 x5 c3 g0 x0
  clear hb hb'
  have c0 := blk_cell HXa0.out 0
  have c1 := blk_cell HXa0.out 1
  have c2 := blk_cell HXa0.out 2
  have c3 := blk_cell HXa0.out 3
  have c4 := blk_cell HXa0.out 4
  have c5 := blk_cell HXa0.out 5
  have c6 := blk_cell HXa0.out 6
  have c7 := blk_cell HXa0.out 7
  have x0 := blk_cell HXa2.out 0
  have x1 := blk_cell HXa2.out 1
  have x2 := blk_cell HXa2.out 2
  have x3 := blk_cell HXa2.out 3
  have x4 := blk_cell HXa2.out 4
  have x5 := blk_cell HXa2.out 5
  rw [HAD.out]
  go_wp2_with fail
  refine (over_calls _ _ _ _ _ _ _ _ _ _ _ _ _ _).mono ?_
  rintro y w3 ⟨rfl, hb2'⟩
  have hb2 : Below w2.heap.size w2 w3 := ⟨hb2'.os, hb2'.tape, hb2'.output, hb2'.size, hb2'.block⟩
  clear hb2'
  have HB2 := Lib.hid (HBa.out.trans (hb2.mono HBa.out.size))
  have HX3 := Lib.hid (below_blk hb2 HXa1.out (blk_lt HXa1.out))
  have HR2 := Lib.hid (HRa.out.below hb2)
  have HT := Lib.hid (there_at HX3.out 0 8 (by decide))
  clear hb2
  go_wp2_with (refine wpList_store_mid (by rfl) 29 _ _ (by rfl) (w.heap.size + 1) 0 #[.slice (some ⟨b, o, none⟩) l.length cc, .int .i64 words, .int .i64 fuel, .slice (some ⟨gR, 0, none⟩) 16 cr, .int .i64 (j : Int), .int .i64 (steps + 1), .int .i64 3, .int .i64 A] (by rfl) (by rfl) HT.out (by kernel_rfl) (by simp [Value.oneCell']) ?_)
  exact ref_fin (s := ended ⟨rg, (j : Int), steps + 1, 0, value⟩ 3 A) rfl rfl HX3.out HB2.out HR2.out (.inl rfl)
set_option maxRecDepth 100000 in
set_option maxHeartbeats 8000000 in
theorem ref_outbig7 (w : World) (l : List Ins) (Ac : Option Addr) (cc : Nat) (words fuel : Int) (R : Option Addr) (cr : Nat) (rg : List Int) (hr : rg.length = 16) (steps value : Int) (hrow : Row w 2 1 (.slice R 16 cr) 16 (nums rg)) (hins : insRow w l Ac) (hl : l.length ≤ 100000) (j : Nat) (hj : j < l.length) (op n : Int) (na nb nc : Nat) (hx : l[j] = ⟨7, op, (na : Int), (nb : Int), (nc : Int), n⟩) (ha : na < 16) (hb : nb < 16) (hc : nc < 16) (hs0 : 0 ≤ steps) (hs1 : steps < fuel) (hs2 : fuel ≤ 100000) (va vb vc : Int) (hva : rg.getD na 0 = va) (hvb : rg.getD nb 0 = vb) (hvc : rg.getD nc 0 = vc) (h64b : b64 vb) (h64n : b64 n) (A : Int) (hAd : wrap64 (vb + n) = A) (q1 : ¬ (A < 0)) (q2 : A ≥ words) (got : Int) :
    Calls Try.prog 13 #[.agg (refM Ac l.length cc words fuel R cr ⟨rg, (j : Int), steps, 0, value⟩).toArray, .int .i64 got] w (RefStep w Ac l.length cc words fuel R (ended ⟨rg, (j : Int), steps + 1, 0, value⟩ 3 A)) := by
  obtain ⟨b, o, gR, w1, rfl, rfl, hsf, hj0, hj1, k0, k1, k2, k3, k4, k5, hw1, hr1, hx0, hx1, hx2, hb1, hg⟩ := ref_pre w l Ac cc words fuel R cr rg hr steps value hrow hins hl j hj 7 op n na nb nc hx hs1
  have HR1 := Lib.hid hr1
  have HX0 := Lib.hid hx0
  have HX1 := Lib.hid hx1
  have HX2 := Lib.hid hx2
  have HB1 := Lib.hid hb1
  have HW := Lib.hid hw1
  have HG := Lib.hid hg
  have HH := Lib.hid hr
  have HN := Lib.hid (And.intro ha (And.intro hb hc))
  clear hx0 hx1 hx2 hb1 hw1 hx hrow hins hr hr1 hg
  show Calls Try.prog 13 #[.agg #[.slice (some ⟨b, o, none⟩) l.length cc, .int .i64 words, .int .i64 fuel, .slice (some ⟨gR, 0, none⟩) 16 cr, .int .i64 (j : Int), .int .i64 steps, .int .i64 0, .int .i64 value], .int .i64 got] w _
  have g0 : w1.cell? ⟨gR, nb, none⟩ = some (.int .i64 vb) := (HG.out nb (by have := HN.out; omega)).trans (by rw [hvb])
  have G0_ := Lib.hid g0
  clear g0
  have ha0 : (0 : Int) ≤ (na : Int) := by omega
  have ha1 : (na : Int) < 16 := by have := HN.out; omega
  have hb0 : (0 : Int) ≤ (nb : Int) := by omega
  have hb1 : (nb : Int) < 16 := by have := HN.out; omega
  have hc0 : (0 : Int) ≤ (nc : Int) := by omega
  have hc1 : (nc : Int) < 16 := by have := HN.out; omega
  have HQ := Lib.hid (And.intro h64b h64n)
  have HAD := Lib.hid hAd
  clear h64b h64n hAd
  go_enter Try.func13, Try.ntmps13
  go_wp2_with (have tk := k0; clear tk; rw [HW.out]; clear k0 k1 k2 k3 k4 k5; have x0 := blk_cell HX2.out 0)
  have c3 := blk_cell HX0.out 3
  have x3 := blk_cell HX2.out 3
  have x5 := blk_cell HX2.out 5
  have g0 := G0_.out
  go_region_held3 (fun V_ => V_.cell? ⟨w.heap.size + 1 + 1, 3, none⟩ = some (.int .i64 (nb : Int)) ∧ V_.cell? ⟨w.heap.size + 1 + 1, 5, none⟩ = some (.int .i64 n) ∧ V_.cell? ⟨w.heap.size, 3, none⟩ = some (.slice (some ⟨gR, 0, none⟩) 16 cr) ∧ V_.cell? ⟨gR, nb, none⟩ = some (.int .i64 vb)) (first | go_keep | (refine ⟨?_, ?_, ?_, ?_⟩ <;> exact keep_cell hb (by assumption))) (first | (go_at_call 26; go_must (refine (plus_calls _ _ HQ.out.1 HQ.out.2 _).mono ?_); rintro y w2 ⟨rfl, hb⟩))
  have hb' := below_fromdrew hb
  have HRa := Lib.hid (HR1.out.below hb')
  have HXa0 := Lib.hid (below_blk hb' HX0.out (blk_lt HX0.out))
  have HXa1 := Lib.hid (below_blk hb' HX1.out (blk_lt HX1.out))
  have HXa2 := Lib.hid (below_blk hb' HX2.out (blk_lt HX2.out))
  have HBa := Lib.hid (HB1.out.trans (hb'.mono HB1.out.size))
  clear x3 x5 c3 g0 x0
  clear hb hb'
  have c0 := blk_cell HXa0.out 0
  have c1 := blk_cell HXa0.out 1
  have c2 := blk_cell HXa0.out 2
  have c3 := blk_cell HXa0.out 3
  have c4 := blk_cell HXa0.out 4
  have c5 := blk_cell HXa0.out 5
  have c6 := blk_cell HXa0.out 6
  have c7 := blk_cell HXa0.out 7
  have x0 := blk_cell HXa2.out 0
  have x1 := blk_cell HXa2.out 1
  have x2 := blk_cell HXa2.out 2
  have x3 := blk_cell HXa2.out 3
  have x4 := blk_cell HXa2.out 4
  have x5 := blk_cell HXa2.out 5
  rw [HAD.out]
  go_wp2_with fail
  refine (over_calls _ _ _ _ _ _ _ _ _ _ _ _ _ _).mono ?_
  rintro y w3 ⟨rfl, hb2'⟩
  have hb2 : Below w2.heap.size w2 w3 := ⟨hb2'.os, hb2'.tape, hb2'.output, hb2'.size, hb2'.block⟩
  clear hb2'
  have HB2 := Lib.hid (HBa.out.trans (hb2.mono HBa.out.size))
  have HX3 := Lib.hid (below_blk hb2 HXa1.out (blk_lt HXa1.out))
  have HR2 := Lib.hid (HRa.out.below hb2)
  have HT := Lib.hid (there_at HX3.out 0 8 (by decide))
  clear hb2
  go_wp2_with (refine wpList_store_mid (by rfl) 29 _ _ (by rfl) (w.heap.size + 1) 0 #[.slice (some ⟨b, o, none⟩) l.length cc, .int .i64 words, .int .i64 fuel, .slice (some ⟨gR, 0, none⟩) 16 cr, .int .i64 (j : Int), .int .i64 (steps + 1), .int .i64 3, .int .i64 A] (by rfl) (by rfl) HT.out (by kernel_rfl) (by simp [Value.oneCell']) ?_)
  exact ref_fin (s := ended ⟨rg, (j : Int), steps + 1, 0, value⟩ 3 A) rfl rfl HX3.out HB2.out HR2.out (.inl rfl)
set_option maxRecDepth 100000 in
set_option maxHeartbeats 8000000 in
theorem ref_load (w : World) (l : List Ins) (Ac : Option Addr) (cc : Nat) (words fuel : Int) (R : Option Addr) (cr : Nat) (rg : List Int) (hr : rg.length = 16) (steps value : Int) (hrow : Row w 2 1 (.slice R 16 cr) 16 (nums rg)) (hins : insRow w l Ac) (hl : l.length ≤ 100000) (j : Nat) (hj : j < l.length) (op n : Int) (na nb nc : Nat) (hx : l[j] = ⟨6, op, (na : Int), (nb : Int), (nc : Int), n⟩) (ha : na < 16) (hb : nb < 16) (hc : nc < 16) (hs0 : 0 ≤ steps) (hs1 : steps < fuel) (hs2 : fuel ≤ 100000) (va vb vc : Int) (hva : rg.getD na 0 = va) (hvb : rg.getD nb 0 = vb) (hvc : rg.getD nc 0 = vc) (h64b : b64 vb) (h64n : b64 n) (A : Int) (hAd : wrap64 (vb + n) = A) (q1 : ¬ (A < 0)) (q2 : ¬ (A ≥ words)) (got : Int) :
    Calls Try.prog 13 #[.agg (refM Ac l.length cc words fuel R cr ⟨rg, (j : Int), steps, 0, value⟩).toArray, .int .i64 got] w (RefStep w Ac l.length cc words fuel R (putR ⟨rg, (j : Int), steps + 1, 0, value⟩ ⟨0, 0, na, 0, 0, 0⟩ got)) := by
  obtain ⟨b, o, gR, w1, rfl, rfl, hsf, hj0, hj1, k0, k1, k2, k3, k4, k5, hw1, hr1, hx0, hx1, hx2, hb1, hg⟩ := ref_pre w l Ac cc words fuel R cr rg hr steps value hrow hins hl j hj 6 op n na nb nc hx hs1
  have HR1 := Lib.hid hr1
  have HX0 := Lib.hid hx0
  have HX1 := Lib.hid hx1
  have HX2 := Lib.hid hx2
  have HB1 := Lib.hid hb1
  have HW := Lib.hid hw1
  have HG := Lib.hid hg
  have HH := Lib.hid hr
  have HN := Lib.hid (And.intro ha (And.intro hb hc))
  clear hx0 hx1 hx2 hb1 hw1 hx hrow hins hr hr1 hg
  show Calls Try.prog 13 #[.agg #[.slice (some ⟨b, o, none⟩) l.length cc, .int .i64 words, .int .i64 fuel, .slice (some ⟨gR, 0, none⟩) 16 cr, .int .i64 (j : Int), .int .i64 steps, .int .i64 0, .int .i64 value], .int .i64 got] w _
  have g0 : w1.cell? ⟨gR, nb, none⟩ = some (.int .i64 vb) := (HG.out nb (by have := HN.out; omega)).trans (by rw [hvb])
  have G0_ := Lib.hid g0
  clear g0
  have ha0 : (0 : Int) ≤ (na : Int) := by omega
  have ha1 : (na : Int) < 16 := by have := HN.out; omega
  have hb0 : (0 : Int) ≤ (nb : Int) := by omega
  have hb1 : (nb : Int) < 16 := by have := HN.out; omega
  have hc0 : (0 : Int) ≤ (nc : Int) := by omega
  have hc1 : (nc : Int) < 16 := by have := HN.out; omega
  have HQ := Lib.hid (And.intro h64b h64n)
  have HAD := Lib.hid hAd
  clear h64b h64n hAd
  go_enter Try.func13, Try.ntmps13
  go_wp2_with (have tk := k0; clear tk; rw [HW.out]; clear k0 k1 k2 k3 k4 k5; have x0 := blk_cell HX2.out 0)
  have c3 := blk_cell HX0.out 3
  have x3 := blk_cell HX2.out 3
  have x5 := blk_cell HX2.out 5
  have g0 := G0_.out
  go_region_held3 (fun V_ => V_.cell? ⟨w.heap.size + 1 + 1, 3, none⟩ = some (.int .i64 (nb : Int)) ∧ V_.cell? ⟨w.heap.size + 1 + 1, 5, none⟩ = some (.int .i64 n) ∧ V_.cell? ⟨w.heap.size, 3, none⟩ = some (.slice (some ⟨gR, 0, none⟩) 16 cr) ∧ V_.cell? ⟨gR, nb, none⟩ = some (.int .i64 vb)) (first | go_keep | (refine ⟨?_, ?_, ?_, ?_⟩ <;> exact keep_cell hb (by assumption))) (first | (go_at_call 26; go_must (refine (plus_calls _ _ HQ.out.1 HQ.out.2 _).mono ?_); rintro y w2 ⟨rfl, hb⟩))
  have hb' := below_fromdrew hb
  have HRa := Lib.hid (HR1.out.below hb')
  have HXa0 := Lib.hid (below_blk hb' HX0.out (blk_lt HX0.out))
  have HXa1 := Lib.hid (below_blk hb' HX1.out (blk_lt HX1.out))
  have HXa2 := Lib.hid (below_blk hb' HX2.out (blk_lt HX2.out))
  have HBa := Lib.hid (HB1.out.trans (hb'.mono HB1.out.size))
  clear x3 x5 c3 g0 x0
  clear hb hb'
  have c0 := blk_cell HXa0.out 0
  have c1 := blk_cell HXa0.out 1
  have c2 := blk_cell HXa0.out 2
  have c3 := blk_cell HXa0.out 3
  have c4 := blk_cell HXa0.out 4
  have c5 := blk_cell HXa0.out 5
  have c6 := blk_cell HXa0.out 6
  have c7 := blk_cell HXa0.out 7
  have x0 := blk_cell HXa2.out 0
  have x1 := blk_cell HXa2.out 1
  have x2 := blk_cell HXa2.out 2
  have x3 := blk_cell HXa2.out 3
  have x4 := blk_cell HXa2.out 4
  have x5 := blk_cell HXa2.out 5
  rw [HAD.out]
  go_wp2_with fail
  refine (set_ref_calls _ _ _ _ _ _ _ _ _ _ _ rg HH.out na (by have := HN.out; omega) (by omega) (by omega) _ _ HRa.out).mono ?_
  rintro y w3 ⟨R', cr', rfl, hr2, hb2', ho2⟩
  have hb2 : Below w2.heap.size w2 w3 := ⟨hb2'.os, hb2'.tape, hb2'.output, hb2'.size, hb2'.block⟩
  clear hb2'
  have HO2 := Lib.hid ho2
  clear ho2
  have HB2 := Lib.hid (HBa.out.trans (hb2.mono HBa.out.size))
  have HX3 := Lib.hid (below_blk hb2 HXa1.out (blk_lt HXa1.out))
  have HR2 := Lib.hid hr2
  have HT := Lib.hid (there_at HX3.out 0 8 (by decide))
  clear hb2 hr2
  go_wp2_with (refine wpList_store_mid (by rfl) 29 _ _ (by rfl) (w.heap.size + 1) 0 #[.slice (some ⟨b, o, none⟩) l.length cc, .int .i64 words, .int .i64 fuel, .slice R' 16 cr', .int .i64 ((j : Int) + 1), .int .i64 (steps + 1), .int .i64 0, .int .i64 value] (by rfl) (by rfl) HT.out (by kernel_rfl) (by simp [Value.oneCell']) ?_)
  exact ref_fin (s := putR ⟨rg, (j : Int), steps + 1, 0, value⟩ ⟨0, 0, na, 0, 0, 0⟩ got) rfl rfl HX3.out HB2.out HR2.out (.inr fun q hq => Nat.le_trans HBa.out.size (HO2.out q hq))
set_option maxRecDepth 100000 in
set_option maxHeartbeats 8000000 in
theorem ref_store (w : World) (l : List Ins) (Ac : Option Addr) (cc : Nat) (words fuel : Int) (R : Option Addr) (cr : Nat) (rg : List Int) (hr : rg.length = 16) (steps value : Int) (hrow : Row w 2 1 (.slice R 16 cr) 16 (nums rg)) (hins : insRow w l Ac) (hl : l.length ≤ 100000) (j : Nat) (hj : j < l.length) (op n : Int) (na nb nc : Nat) (hx : l[j] = ⟨7, op, (na : Int), (nb : Int), (nc : Int), n⟩) (ha : na < 16) (hb : nb < 16) (hc : nc < 16) (hs0 : 0 ≤ steps) (hs1 : steps < fuel) (hs2 : fuel ≤ 100000) (va vb vc : Int) (hva : rg.getD na 0 = va) (hvb : rg.getD nb 0 = vb) (hvc : rg.getD nc 0 = vc) (h64b : b64 vb) (h64n : b64 n) (A : Int) (hAd : wrap64 (vb + n) = A) (q1 : ¬ (A < 0)) (q2 : ¬ (A ≥ words)) (got : Int) :
    Calls Try.prog 13 #[.agg (refM Ac l.length cc words fuel R cr ⟨rg, (j : Int), steps, 0, value⟩).toArray, .int .i64 got] w (RefStep w Ac l.length cc words fuel R (next ⟨rg, (j : Int), steps + 1, 0, value⟩)) := by
  obtain ⟨b, o, gR, w1, rfl, rfl, hsf, hj0, hj1, k0, k1, k2, k3, k4, k5, hw1, hr1, hx0, hx1, hx2, hb1, hg⟩ := ref_pre w l Ac cc words fuel R cr rg hr steps value hrow hins hl j hj 7 op n na nb nc hx hs1
  have HR1 := Lib.hid hr1
  have HX0 := Lib.hid hx0
  have HX1 := Lib.hid hx1
  have HX2 := Lib.hid hx2
  have HB1 := Lib.hid hb1
  have HW := Lib.hid hw1
  have HG := Lib.hid hg
  have HH := Lib.hid hr
  have HN := Lib.hid (And.intro ha (And.intro hb hc))
  clear hx0 hx1 hx2 hb1 hw1 hx hrow hins hr hr1 hg
  show Calls Try.prog 13 #[.agg #[.slice (some ⟨b, o, none⟩) l.length cc, .int .i64 words, .int .i64 fuel, .slice (some ⟨gR, 0, none⟩) 16 cr, .int .i64 (j : Int), .int .i64 steps, .int .i64 0, .int .i64 value], .int .i64 got] w _
  have g0 : w1.cell? ⟨gR, nb, none⟩ = some (.int .i64 vb) := (HG.out nb (by have := HN.out; omega)).trans (by rw [hvb])
  have G0_ := Lib.hid g0
  clear g0
  have ha0 : (0 : Int) ≤ (na : Int) := by omega
  have ha1 : (na : Int) < 16 := by have := HN.out; omega
  have hb0 : (0 : Int) ≤ (nb : Int) := by omega
  have hb1 : (nb : Int) < 16 := by have := HN.out; omega
  have hc0 : (0 : Int) ≤ (nc : Int) := by omega
  have hc1 : (nc : Int) < 16 := by have := HN.out; omega
  have HQ := Lib.hid (And.intro h64b h64n)
  have HAD := Lib.hid hAd
  clear h64b h64n hAd
  go_enter Try.func13, Try.ntmps13
  go_wp2_with (have tk := k0; clear tk; rw [HW.out]; clear k0 k1 k2 k3 k4 k5; have x0 := blk_cell HX2.out 0)
  have c3 := blk_cell HX0.out 3
  have x3 := blk_cell HX2.out 3
  have x5 := blk_cell HX2.out 5
  have g0 := G0_.out
  go_region_held3 (fun V_ => V_.cell? ⟨w.heap.size + 1 + 1, 3, none⟩ = some (.int .i64 (nb : Int)) ∧ V_.cell? ⟨w.heap.size + 1 + 1, 5, none⟩ = some (.int .i64 n) ∧ V_.cell? ⟨w.heap.size, 3, none⟩ = some (.slice (some ⟨gR, 0, none⟩) 16 cr) ∧ V_.cell? ⟨gR, nb, none⟩ = some (.int .i64 vb)) (first | go_keep | (refine ⟨?_, ?_, ?_, ?_⟩ <;> exact keep_cell hb (by assumption))) (first | (go_at_call 26; go_must (refine (plus_calls _ _ HQ.out.1 HQ.out.2 _).mono ?_); rintro y w2 ⟨rfl, hb⟩))
  have hb' := below_fromdrew hb
  have HRa := Lib.hid (HR1.out.below hb')
  have HXa0 := Lib.hid (below_blk hb' HX0.out (blk_lt HX0.out))
  have HXa1 := Lib.hid (below_blk hb' HX1.out (blk_lt HX1.out))
  have HXa2 := Lib.hid (below_blk hb' HX2.out (blk_lt HX2.out))
  have HBa := Lib.hid (HB1.out.trans (hb'.mono HB1.out.size))
  clear x3 x5 c3 g0 x0
  clear hb hb'
  have c0 := blk_cell HXa0.out 0
  have c1 := blk_cell HXa0.out 1
  have c2 := blk_cell HXa0.out 2
  have c3 := blk_cell HXa0.out 3
  have c4 := blk_cell HXa0.out 4
  have c5 := blk_cell HXa0.out 5
  have c6 := blk_cell HXa0.out 6
  have c7 := blk_cell HXa0.out 7
  have x0 := blk_cell HXa2.out 0
  have x1 := blk_cell HXa2.out 1
  have x2 := blk_cell HXa2.out 2
  have x3 := blk_cell HXa2.out 3
  have x4 := blk_cell HXa2.out 4
  have x5 := blk_cell HXa2.out 5
  rw [HAD.out]
  have ff := blk_free HXa0.out
  have hk9 : Keep (fun q => q = w.heap.size) w2 (w2.setCell ⟨w.heap.size, 4, none⟩ (.int .i64 ((j : Int) + 1))) := Keep.set (O := fun q => q = w.heap.size) (Keep.refl _ w2) (p := ⟨w.heap.size, 4, none⟩) (.inl rfl) (.int .i64 ((j : Int) + 1))
  have hx9 : (w2.setCell ⟨w.heap.size, 4, none⟩ (.int .i64 ((j : Int) + 1))).heap[w.heap.size + 1]? = some (.cells #[.slice none 0 0, .int .i64 0, .int .i64 0, .slice none 0 0, .int .i64 0, .int .i64 0, .int .i64 0, .int .i64 0] 29 (0, 0)) := hk9.blk (show w2.heap[w.heap.size + 1]? = _ from HXa1.out) (by omega)
  have HX9 := Lib.hid hx9
  have HTA := Lib.hid (there_at hx9 0 8 (by decide))
  have HR9 := Lib.hid (show Row (w2.setCell ⟨w.heap.size, 4, none⟩ (.int .i64 ((j : Int) + 1))) 2 1 (.slice (some ⟨gR, 0, none⟩) 16 cr) 16 (nums rg) from Row.keep HRa.out fun q hq => hk9.block q (show q < w2.heap.size from HRa.out.lt hq) (fun e => HRa.out.ne HXa0.out (by decide) (by rw [hq, e])))
  have HB9 := Lib.hid (show Below w.heap.size w (w2.setCell ⟨w.heap.size, 4, none⟩ (.int .i64 ((j : Int) + 1))) from Below.trans (show Below w.heap.size w w2 from ⟨HBa.out.os, HBa.out.tape, HBa.out.output, HBa.out.size, HBa.out.block⟩) (hk9.toBelow HBa.out.size (fun q h => by subst h; exact Nat.le_refl _)))
  clear hk9 hx9
  go_wp2_with (refine wpList_store_mid (by rfl) 29 _ _ (by rfl) (w.heap.size + 1) 0 #[.slice (some ⟨b, o, none⟩) l.length cc, .int .i64 words, .int .i64 fuel, .slice (some ⟨gR, 0, none⟩) 16 cr, .int .i64 ((j : Int) + 1), .int .i64 (steps + 1), .int .i64 0, .int .i64 value] (by rfl) (by rfl) HTA.out (by kernel_rfl) (by simp [Value.oneCell']) ?_)
  exact ref_fin (s := next ⟨rg, (j : Int), steps + 1, 0, value⟩) rfl rfl HX9.out HB9.out HR9.out (.inl rfl)
set_option maxRecDepth 100000 in
set_option maxHeartbeats 8000000 in
theorem ref_into (w : World) (l : List Ins) (Ac : Option Addr) (cc : Nat) (words fuel : Int) (R : Option Addr) (cr : Nat) (rg : List Int) (hr : rg.length = 16) (steps value : Int) (hrow : Row w 2 1 (.slice R 16 cr) 16 (nums rg)) (hins : insRow w l Ac) (hl : l.length ≤ 100000) (j : Nat) (hj : j < l.length) (op n : Int) (na nb nc : Nat) (hx : l[j] = ⟨8, op, (na : Int), (nb : Int), (nc : Int), n⟩) (ha : na < 16) (hb : nb < 16) (hc : nc < 16) (hs0 : 0 ≤ steps) (hs1 : steps < fuel) (hs2 : fuel ≤ 100000) (va vb vc : Int) (hva : rg.getD na 0 = va) (hvb : rg.getD nb 0 = vb) (hvc : rg.getD nc 0 = vc)  (got : Int) :
    Calls Try.prog 13 #[.agg (refM Ac l.length cc words fuel R cr ⟨rg, (j : Int), steps, 0, value⟩).toArray, .int .i64 got] w (RefStep w Ac l.length cc words fuel R (next ⟨rg, (j : Int), steps + 1, 0, value⟩)) := by
  obtain ⟨b, o, gR, w1, rfl, rfl, hsf, hj0, hj1, k0, k1, k2, k3, k4, k5, hw1, hr1, hx0, hx1, hx2, hb1, hg⟩ := ref_pre w l Ac cc words fuel R cr rg hr steps value hrow hins hl j hj 8 op n na nb nc hx hs1
  have HR1 := Lib.hid hr1
  have HX0 := Lib.hid hx0
  have HX1 := Lib.hid hx1
  have HX2 := Lib.hid hx2
  have HB1 := Lib.hid hb1
  have HW := Lib.hid hw1
  have HG := Lib.hid hg
  have HH := Lib.hid hr
  have HN := Lib.hid (And.intro ha (And.intro hb hc))
  clear hx0 hx1 hx2 hb1 hw1 hx hrow hins hr hr1 hg
  show Calls Try.prog 13 #[.agg #[.slice (some ⟨b, o, none⟩) l.length cc, .int .i64 words, .int .i64 fuel, .slice (some ⟨gR, 0, none⟩) 16 cr, .int .i64 (j : Int), .int .i64 steps, .int .i64 0, .int .i64 value], .int .i64 got] w _
  have ha0 : (0 : Int) ≤ (na : Int) := by omega
  have ha1 : (na : Int) < 16 := by have := HN.out; omega
  have hb0 : (0 : Int) ≤ (nb : Int) := by omega
  have hb1 : (nb : Int) < 16 := by have := HN.out; omega
  have hc0 : (0 : Int) ≤ (nc : Int) := by omega
  have hc1 : (nc : Int) < 16 := by have := HN.out; omega
  have FF := Lib.hid (blk_free HX0.out)
  have hk9 : Keep (fun q => q = w.heap.size) w1 (w1.setCell ⟨w.heap.size, 4, none⟩ (.int .i64 ((j : Int) + 1))) := Keep.set (O := fun q => q = w.heap.size) (Keep.refl _ w1) (p := ⟨w.heap.size, 4, none⟩) (.inl rfl) (.int .i64 ((j : Int) + 1))
  have hx9 : (w1.setCell ⟨w.heap.size, 4, none⟩ (.int .i64 ((j : Int) + 1))).heap[w.heap.size + 1]? = some (.cells #[.slice none 0 0, .int .i64 0, .int .i64 0, .slice none 0 0, .int .i64 0, .int .i64 0, .int .i64 0, .int .i64 0] 29 (0, 0)) := hk9.blk (show w1.heap[w.heap.size + 1]? = _ from HX1.out) (by omega)
  have HX9 := Lib.hid hx9
  have HTA := Lib.hid (there_at hx9 0 8 (by decide))
  have HR9 := Lib.hid (show Row (w1.setCell ⟨w.heap.size, 4, none⟩ (.int .i64 ((j : Int) + 1))) 2 1 (.slice (some ⟨gR, 0, none⟩) 16 cr) 16 (nums rg) from Row.keep HR1.out fun q hq => hk9.block q (show q < w1.heap.size from HR1.out.lt hq) (fun e => HR1.out.ne HX0.out (by decide) (by rw [hq, e])))
  have HB9 := Lib.hid (show Below w.heap.size w (w1.setCell ⟨w.heap.size, 4, none⟩ (.int .i64 ((j : Int) + 1))) from Below.trans (show Below w.heap.size w w1 from ⟨HB1.out.os, HB1.out.tape, HB1.out.output, HB1.out.size, HB1.out.block⟩) (hk9.toBelow HB1.out.size (fun q h => by subst h; exact Nat.le_refl _)))
  clear hk9 hx9
  go_enter Try.func13, Try.ntmps13
  go_wp2_with (first | (have tk := HTA; clear tk; (refine wpList_store_mid (by rfl) 29 _ _ (by rfl) (w.heap.size + 1) 0 #[.slice (some ⟨b, o, none⟩) l.length cc, .int .i64 words, .int .i64 fuel, .slice (some ⟨gR, 0, none⟩) 16 cr, .int .i64 ((j : Int) + 1), .int .i64 (steps + 1), .int .i64 0, .int .i64 value] (by rfl) (by rfl) HTA.out (by kernel_rfl) (by simp [Value.oneCell']) ?_)) | (have tk := k0; clear tk; rw [HW.out]; clear k0 k1 k2 k3 k4 k5; have x0 := blk_cell HX2.out 0; have c0 := blk_cell HX0.out 0; have c1 := blk_cell HX0.out 1; have c2 := blk_cell HX0.out 2; have c3 := blk_cell HX0.out 3; have c4 := blk_cell HX0.out 4; have c5 := blk_cell HX0.out 5; have c6 := blk_cell HX0.out 6; have c7 := blk_cell HX0.out 7; have x1 := blk_cell HX2.out 1; have x2 := blk_cell HX2.out 2; have x3 := blk_cell HX2.out 3; have x4 := blk_cell HX2.out 4; have x5 := blk_cell HX2.out 5; have ff := FF.out))
  exact ref_fin (s := next ⟨rg, (j : Int), steps + 1, 0, value⟩) rfl rfl HX9.out HB9.out HR9.out (.inl rfl)
set_option maxRecDepth 100000 in
set_option maxHeartbeats 8000000 in
theorem ref_emit (w : World) (l : List Ins) (Ac : Option Addr) (cc : Nat) (words fuel : Int) (R : Option Addr) (cr : Nat) (rg : List Int) (hr : rg.length = 16) (steps value : Int) (hrow : Row w 2 1 (.slice R 16 cr) 16 (nums rg)) (hins : insRow w l Ac) (hl : l.length ≤ 100000) (j : Nat) (hj : j < l.length) (op n : Int) (na nb nc : Nat) (hx : l[j] = ⟨9, op, (na : Int), (nb : Int), (nc : Int), n⟩) (ha : na < 16) (hb : nb < 16) (hc : nc < 16) (hs0 : 0 ≤ steps) (hs1 : steps < fuel) (hs2 : fuel ≤ 100000) (va vb vc : Int) (hva : rg.getD na 0 = va) (hvb : rg.getD nb 0 = vb) (hvc : rg.getD nc 0 = vc)  (got : Int) :
    Calls Try.prog 13 #[.agg (refM Ac l.length cc words fuel R cr ⟨rg, (j : Int), steps, 0, value⟩).toArray, .int .i64 got] w (RefStep w Ac l.length cc words fuel R (next ⟨rg, (j : Int), steps + 1, 0, value⟩)) := by
  obtain ⟨b, o, gR, w1, rfl, rfl, hsf, hj0, hj1, k0, k1, k2, k3, k4, k5, hw1, hr1, hx0, hx1, hx2, hb1, hg⟩ := ref_pre w l Ac cc words fuel R cr rg hr steps value hrow hins hl j hj 9 op n na nb nc hx hs1
  have HR1 := Lib.hid hr1
  have HX0 := Lib.hid hx0
  have HX1 := Lib.hid hx1
  have HX2 := Lib.hid hx2
  have HB1 := Lib.hid hb1
  have HW := Lib.hid hw1
  have HG := Lib.hid hg
  have HH := Lib.hid hr
  have HN := Lib.hid (And.intro ha (And.intro hb hc))
  clear hx0 hx1 hx2 hb1 hw1 hx hrow hins hr hr1 hg
  show Calls Try.prog 13 #[.agg #[.slice (some ⟨b, o, none⟩) l.length cc, .int .i64 words, .int .i64 fuel, .slice (some ⟨gR, 0, none⟩) 16 cr, .int .i64 (j : Int), .int .i64 steps, .int .i64 0, .int .i64 value], .int .i64 got] w _
  have ha0 : (0 : Int) ≤ (na : Int) := by omega
  have ha1 : (na : Int) < 16 := by have := HN.out; omega
  have hb0 : (0 : Int) ≤ (nb : Int) := by omega
  have hb1 : (nb : Int) < 16 := by have := HN.out; omega
  have hc0 : (0 : Int) ≤ (nc : Int) := by omega
  have hc1 : (nc : Int) < 16 := by have := HN.out; omega
  have FF := Lib.hid (blk_free HX0.out)
  have hk9 : Keep (fun q => q = w.heap.size) w1 (w1.setCell ⟨w.heap.size, 4, none⟩ (.int .i64 ((j : Int) + 1))) := Keep.set (O := fun q => q = w.heap.size) (Keep.refl _ w1) (p := ⟨w.heap.size, 4, none⟩) (.inl rfl) (.int .i64 ((j : Int) + 1))
  have hx9 : (w1.setCell ⟨w.heap.size, 4, none⟩ (.int .i64 ((j : Int) + 1))).heap[w.heap.size + 1]? = some (.cells #[.slice none 0 0, .int .i64 0, .int .i64 0, .slice none 0 0, .int .i64 0, .int .i64 0, .int .i64 0, .int .i64 0] 29 (0, 0)) := hk9.blk (show w1.heap[w.heap.size + 1]? = _ from HX1.out) (by omega)
  have HX9 := Lib.hid hx9
  have HTA := Lib.hid (there_at hx9 0 8 (by decide))
  have HR9 := Lib.hid (show Row (w1.setCell ⟨w.heap.size, 4, none⟩ (.int .i64 ((j : Int) + 1))) 2 1 (.slice (some ⟨gR, 0, none⟩) 16 cr) 16 (nums rg) from Row.keep HR1.out fun q hq => hk9.block q (show q < w1.heap.size from HR1.out.lt hq) (fun e => HR1.out.ne HX0.out (by decide) (by rw [hq, e])))
  have HB9 := Lib.hid (show Below w.heap.size w (w1.setCell ⟨w.heap.size, 4, none⟩ (.int .i64 ((j : Int) + 1))) from Below.trans (show Below w.heap.size w w1 from ⟨HB1.out.os, HB1.out.tape, HB1.out.output, HB1.out.size, HB1.out.block⟩) (hk9.toBelow HB1.out.size (fun q h => by subst h; exact Nat.le_refl _)))
  clear hk9 hx9
  go_enter Try.func13, Try.ntmps13
  go_wp2_with (first | (have tk := HTA; clear tk; (refine wpList_store_mid (by rfl) 29 _ _ (by rfl) (w.heap.size + 1) 0 #[.slice (some ⟨b, o, none⟩) l.length cc, .int .i64 words, .int .i64 fuel, .slice (some ⟨gR, 0, none⟩) 16 cr, .int .i64 ((j : Int) + 1), .int .i64 (steps + 1), .int .i64 0, .int .i64 value] (by rfl) (by rfl) HTA.out (by kernel_rfl) (by simp [Value.oneCell']) ?_)) | (have tk := k0; clear tk; rw [HW.out]; clear k0 k1 k2 k3 k4 k5; have x0 := blk_cell HX2.out 0; have c0 := blk_cell HX0.out 0; have c1 := blk_cell HX0.out 1; have c2 := blk_cell HX0.out 2; have c3 := blk_cell HX0.out 3; have c4 := blk_cell HX0.out 4; have c5 := blk_cell HX0.out 5; have c6 := blk_cell HX0.out 6; have c7 := blk_cell HX0.out 7; have x1 := blk_cell HX2.out 1; have x2 := blk_cell HX2.out 2; have x3 := blk_cell HX2.out 3; have x4 := blk_cell HX2.out 4; have x5 := blk_cell HX2.out 5; have ff := FF.out))
  exact ref_fin (s := next ⟨rg, (j : Int), steps + 1, 0, value⟩) rfl rfl HX9.out HB9.out HR9.out (.inl rfl)
set_option maxRecDepth 100000 in
set_option maxHeartbeats 8000000 in
theorem ref_jump (w : World) (l : List Ins) (Ac : Option Addr) (cc : Nat) (words fuel : Int) (R : Option Addr) (cr : Nat) (rg : List Int) (hr : rg.length = 16) (steps value : Int) (hrow : Row w 2 1 (.slice R 16 cr) 16 (nums rg)) (hins : insRow w l Ac) (hl : l.length ≤ 100000) (j : Nat) (hj : j < l.length) (op n : Int) (na nb nc : Nat) (hx : l[j] = ⟨10, op, (na : Int), (nb : Int), (nc : Int), n⟩) (ha : na < 16) (hb : nb < 16) (hc : nc < 16) (hs0 : 0 ≤ steps) (hs1 : steps < fuel) (hs2 : fuel ≤ 100000) (va vb vc : Int) (hva : rg.getD na 0 = va) (hvb : rg.getD nb 0 = vb) (hvc : rg.getD nc 0 = vc)  (got : Int) :
    Calls Try.prog 13 #[.agg (refM Ac l.length cc words fuel R cr ⟨rg, (j : Int), steps, 0, value⟩).toArray, .int .i64 got] w (RefStep w Ac l.length cc words fuel R (⟨rg, n, steps + 1, 0, value⟩)) := by
  obtain ⟨b, o, gR, w1, rfl, rfl, hsf, hj0, hj1, k0, k1, k2, k3, k4, k5, hw1, hr1, hx0, hx1, hx2, hb1, hg⟩ := ref_pre w l Ac cc words fuel R cr rg hr steps value hrow hins hl j hj 10 op n na nb nc hx hs1
  have HR1 := Lib.hid hr1
  have HX0 := Lib.hid hx0
  have HX1 := Lib.hid hx1
  have HX2 := Lib.hid hx2
  have HB1 := Lib.hid hb1
  have HW := Lib.hid hw1
  have HG := Lib.hid hg
  have HH := Lib.hid hr
  have HN := Lib.hid (And.intro ha (And.intro hb hc))
  clear hx0 hx1 hx2 hb1 hw1 hx hrow hins hr hr1 hg
  show Calls Try.prog 13 #[.agg #[.slice (some ⟨b, o, none⟩) l.length cc, .int .i64 words, .int .i64 fuel, .slice (some ⟨gR, 0, none⟩) 16 cr, .int .i64 (j : Int), .int .i64 steps, .int .i64 0, .int .i64 value], .int .i64 got] w _
  have g0 : w1.cell? ⟨gR, na, none⟩ = some (.int .i64 va) := (HG.out na (by have := HN.out; omega)).trans (by rw [hva])
  have G0_ := Lib.hid g0
  clear g0
  have ha0 : (0 : Int) ≤ (na : Int) := by omega
  have ha1 : (na : Int) < 16 := by have := HN.out; omega
  have hb0 : (0 : Int) ≤ (nb : Int) := by omega
  have hb1 : (nb : Int) < 16 := by have := HN.out; omega
  have hc0 : (0 : Int) ≤ (nc : Int) := by omega
  have hc1 : (nc : Int) < 16 := by have := HN.out; omega
  have FF := Lib.hid (blk_free HX0.out)
  have hk9 : Keep (fun q => q = w.heap.size) w1 ((w1.setCell ⟨w.heap.size, 4, none⟩ (.int .i64 ((j : Int) + 1))).setCell ⟨w.heap.size, 4, none⟩ (.int .i64 n)) := Keep.set (O := fun q => q = w.heap.size) (Keep.set (O := fun q => q = w.heap.size) (Keep.refl _ w1) (p := ⟨w.heap.size, 4, none⟩) (.inl rfl) (.int .i64 ((j : Int) + 1))) (p := ⟨w.heap.size, 4, none⟩) (.inl rfl) (.int .i64 n)
  have hx9 : ((w1.setCell ⟨w.heap.size, 4, none⟩ (.int .i64 ((j : Int) + 1))).setCell ⟨w.heap.size, 4, none⟩ (.int .i64 n)).heap[w.heap.size + 1]? = some (.cells #[.slice none 0 0, .int .i64 0, .int .i64 0, .slice none 0 0, .int .i64 0, .int .i64 0, .int .i64 0, .int .i64 0] 29 (0, 0)) := hk9.blk (show w1.heap[w.heap.size + 1]? = _ from HX1.out) (by omega)
  have HX9 := Lib.hid hx9
  have HTA := Lib.hid (there_at hx9 0 8 (by decide))
  have HR9 := Lib.hid (show Row ((w1.setCell ⟨w.heap.size, 4, none⟩ (.int .i64 ((j : Int) + 1))).setCell ⟨w.heap.size, 4, none⟩ (.int .i64 n)) 2 1 (.slice (some ⟨gR, 0, none⟩) 16 cr) 16 (nums rg) from Row.keep HR1.out fun q hq => hk9.block q (show q < w1.heap.size from HR1.out.lt hq) (fun e => HR1.out.ne HX0.out (by decide) (by rw [hq, e])))
  have HB9 := Lib.hid (show Below w.heap.size w ((w1.setCell ⟨w.heap.size, 4, none⟩ (.int .i64 ((j : Int) + 1))).setCell ⟨w.heap.size, 4, none⟩ (.int .i64 n)) from Below.trans (show Below w.heap.size w w1 from ⟨HB1.out.os, HB1.out.tape, HB1.out.output, HB1.out.size, HB1.out.block⟩) (hk9.toBelow HB1.out.size (fun q h => by subst h; exact Nat.le_refl _)))
  clear hk9 hx9
  go_enter Try.func13, Try.ntmps13
  go_wp2_with (first | (have tk := HTA; clear tk; (refine wpList_store_mid (by rfl) 29 _ _ (by rfl) (w.heap.size + 1) 0 #[.slice (some ⟨b, o, none⟩) l.length cc, .int .i64 words, .int .i64 fuel, .slice (some ⟨gR, 0, none⟩) 16 cr, .int .i64 n, .int .i64 (steps + 1), .int .i64 0, .int .i64 value] (by rfl) (by rfl) HTA.out (by kernel_rfl) (by simp [Value.oneCell']) ?_)) | (have tk := k0; clear tk; rw [HW.out]; clear k0 k1 k2 k3 k4 k5; have x0 := blk_cell HX2.out 0; have c0 := blk_cell HX0.out 0; have c1 := blk_cell HX0.out 1; have c2 := blk_cell HX0.out 2; have c3 := blk_cell HX0.out 3; have c4 := blk_cell HX0.out 4; have c5 := blk_cell HX0.out 5; have c6 := blk_cell HX0.out 6; have c7 := blk_cell HX0.out 7; have x1 := blk_cell HX2.out 1; have x2 := blk_cell HX2.out 2; have x3 := blk_cell HX2.out 3; have x4 := blk_cell HX2.out 4; have x5 := blk_cell HX2.out 5; have g0 := G0_.out; have ff := FF.out))
  exact ref_fin (s := ⟨rg, n, steps + 1, 0, value⟩) rfl rfl HX9.out HB9.out HR9.out (.inl rfl)
set_option maxRecDepth 100000 in
set_option maxHeartbeats 8000000 in
theorem ref_zero (w : World) (l : List Ins) (Ac : Option Addr) (cc : Nat) (words fuel : Int) (R : Option Addr) (cr : Nat) (rg : List Int) (hr : rg.length = 16) (steps value : Int) (hrow : Row w 2 1 (.slice R 16 cr) 16 (nums rg)) (hins : insRow w l Ac) (hl : l.length ≤ 100000) (j : Nat) (hj : j < l.length) (op n : Int) (na nb nc : Nat) (hx : l[j] = ⟨11, op, (na : Int), (nb : Int), (nc : Int), n⟩) (ha : na < 16) (hb : nb < 16) (hc : nc < 16) (hs0 : 0 ≤ steps) (hs1 : steps < fuel) (hs2 : fuel ≤ 100000) (va vb vc : Int) (hva : rg.getD na 0 = va) (hvb : rg.getD nb 0 = vb) (hvc : rg.getD nc 0 = vc) (q1 : (va == 0) = true) (got : Int) :
    Calls Try.prog 13 #[.agg (refM Ac l.length cc words fuel R cr ⟨rg, (j : Int), steps, 0, value⟩).toArray, .int .i64 got] w (RefStep w Ac l.length cc words fuel R (⟨rg, n, steps + 1, 0, value⟩)) := by
  obtain ⟨b, o, gR, w1, rfl, rfl, hsf, hj0, hj1, k0, k1, k2, k3, k4, k5, hw1, hr1, hx0, hx1, hx2, hb1, hg⟩ := ref_pre w l Ac cc words fuel R cr rg hr steps value hrow hins hl j hj 11 op n na nb nc hx hs1
  have HR1 := Lib.hid hr1
  have HX0 := Lib.hid hx0
  have HX1 := Lib.hid hx1
  have HX2 := Lib.hid hx2
  have HB1 := Lib.hid hb1
  have HW := Lib.hid hw1
  have HG := Lib.hid hg
  have HH := Lib.hid hr
  have HN := Lib.hid (And.intro ha (And.intro hb hc))
  clear hx0 hx1 hx2 hb1 hw1 hx hrow hins hr hr1 hg
  show Calls Try.prog 13 #[.agg #[.slice (some ⟨b, o, none⟩) l.length cc, .int .i64 words, .int .i64 fuel, .slice (some ⟨gR, 0, none⟩) 16 cr, .int .i64 (j : Int), .int .i64 steps, .int .i64 0, .int .i64 value], .int .i64 got] w _
  have g0 : w1.cell? ⟨gR, na, none⟩ = some (.int .i64 va) := (HG.out na (by have := HN.out; omega)).trans (by rw [hva])
  have G0_ := Lib.hid g0
  clear g0
  have ha0 : (0 : Int) ≤ (na : Int) := by omega
  have ha1 : (na : Int) < 16 := by have := HN.out; omega
  have hb0 : (0 : Int) ≤ (nb : Int) := by omega
  have hb1 : (nb : Int) < 16 := by have := HN.out; omega
  have hc0 : (0 : Int) ≤ (nc : Int) := by omega
  have hc1 : (nc : Int) < 16 := by have := HN.out; omega
  have FF := Lib.hid (blk_free HX0.out)
  have hk9 : Keep (fun q => q = w.heap.size) w1 ((w1.setCell ⟨w.heap.size, 4, none⟩ (.int .i64 ((j : Int) + 1))).setCell ⟨w.heap.size, 4, none⟩ (.int .i64 n)) := Keep.set (O := fun q => q = w.heap.size) (Keep.set (O := fun q => q = w.heap.size) (Keep.refl _ w1) (p := ⟨w.heap.size, 4, none⟩) (.inl rfl) (.int .i64 ((j : Int) + 1))) (p := ⟨w.heap.size, 4, none⟩) (.inl rfl) (.int .i64 n)
  have hx9 : ((w1.setCell ⟨w.heap.size, 4, none⟩ (.int .i64 ((j : Int) + 1))).setCell ⟨w.heap.size, 4, none⟩ (.int .i64 n)).heap[w.heap.size + 1]? = some (.cells #[.slice none 0 0, .int .i64 0, .int .i64 0, .slice none 0 0, .int .i64 0, .int .i64 0, .int .i64 0, .int .i64 0] 29 (0, 0)) := hk9.blk (show w1.heap[w.heap.size + 1]? = _ from HX1.out) (by omega)
  have HX9 := Lib.hid hx9
  have HTA := Lib.hid (there_at hx9 0 8 (by decide))
  have HR9 := Lib.hid (show Row ((w1.setCell ⟨w.heap.size, 4, none⟩ (.int .i64 ((j : Int) + 1))).setCell ⟨w.heap.size, 4, none⟩ (.int .i64 n)) 2 1 (.slice (some ⟨gR, 0, none⟩) 16 cr) 16 (nums rg) from Row.keep HR1.out fun q hq => hk9.block q (show q < w1.heap.size from HR1.out.lt hq) (fun e => HR1.out.ne HX0.out (by decide) (by rw [hq, e])))
  have HB9 := Lib.hid (show Below w.heap.size w ((w1.setCell ⟨w.heap.size, 4, none⟩ (.int .i64 ((j : Int) + 1))).setCell ⟨w.heap.size, 4, none⟩ (.int .i64 n)) from Below.trans (show Below w.heap.size w w1 from ⟨HB1.out.os, HB1.out.tape, HB1.out.output, HB1.out.size, HB1.out.block⟩) (hk9.toBelow HB1.out.size (fun q h => by subst h; exact Nat.le_refl _)))
  clear hk9 hx9
  go_enter Try.func13, Try.ntmps13
  go_wp2_with (first | (have tk := HTA; clear tk; (refine wpList_store_mid (by rfl) 29 _ _ (by rfl) (w.heap.size + 1) 0 #[.slice (some ⟨b, o, none⟩) l.length cc, .int .i64 words, .int .i64 fuel, .slice (some ⟨gR, 0, none⟩) 16 cr, .int .i64 n, .int .i64 (steps + 1), .int .i64 0, .int .i64 value] (by rfl) (by rfl) HTA.out (by kernel_rfl) (by simp [Value.oneCell']) ?_)) | (have tk := k0; clear tk; rw [HW.out]; clear k0 k1 k2 k3 k4 k5; have x0 := blk_cell HX2.out 0; have c0 := blk_cell HX0.out 0; have c1 := blk_cell HX0.out 1; have c2 := blk_cell HX0.out 2; have c3 := blk_cell HX0.out 3; have c4 := blk_cell HX0.out 4; have c5 := blk_cell HX0.out 5; have c6 := blk_cell HX0.out 6; have c7 := blk_cell HX0.out 7; have x1 := blk_cell HX2.out 1; have x2 := blk_cell HX2.out 2; have x3 := blk_cell HX2.out 3; have x4 := blk_cell HX2.out 4; have x5 := blk_cell HX2.out 5; have g0 := G0_.out; have ff := FF.out))
  exact ref_fin (s := ⟨rg, n, steps + 1, 0, value⟩) rfl rfl HX9.out HB9.out HR9.out (.inl rfl)
set_option maxRecDepth 100000 in
set_option maxHeartbeats 8000000 in
theorem ref_zerono (w : World) (l : List Ins) (Ac : Option Addr) (cc : Nat) (words fuel : Int) (R : Option Addr) (cr : Nat) (rg : List Int) (hr : rg.length = 16) (steps value : Int) (hrow : Row w 2 1 (.slice R 16 cr) 16 (nums rg)) (hins : insRow w l Ac) (hl : l.length ≤ 100000) (j : Nat) (hj : j < l.length) (op n : Int) (na nb nc : Nat) (hx : l[j] = ⟨11, op, (na : Int), (nb : Int), (nc : Int), n⟩) (ha : na < 16) (hb : nb < 16) (hc : nc < 16) (hs0 : 0 ≤ steps) (hs1 : steps < fuel) (hs2 : fuel ≤ 100000) (va vb vc : Int) (hva : rg.getD na 0 = va) (hvb : rg.getD nb 0 = vb) (hvc : rg.getD nc 0 = vc) (q1 : (va == 0) = false) (got : Int) :
    Calls Try.prog 13 #[.agg (refM Ac l.length cc words fuel R cr ⟨rg, (j : Int), steps, 0, value⟩).toArray, .int .i64 got] w (RefStep w Ac l.length cc words fuel R (next ⟨rg, (j : Int), steps + 1, 0, value⟩)) := by
  obtain ⟨b, o, gR, w1, rfl, rfl, hsf, hj0, hj1, k0, k1, k2, k3, k4, k5, hw1, hr1, hx0, hx1, hx2, hb1, hg⟩ := ref_pre w l Ac cc words fuel R cr rg hr steps value hrow hins hl j hj 11 op n na nb nc hx hs1
  have HR1 := Lib.hid hr1
  have HX0 := Lib.hid hx0
  have HX1 := Lib.hid hx1
  have HX2 := Lib.hid hx2
  have HB1 := Lib.hid hb1
  have HW := Lib.hid hw1
  have HG := Lib.hid hg
  have HH := Lib.hid hr
  have HN := Lib.hid (And.intro ha (And.intro hb hc))
  clear hx0 hx1 hx2 hb1 hw1 hx hrow hins hr hr1 hg
  show Calls Try.prog 13 #[.agg #[.slice (some ⟨b, o, none⟩) l.length cc, .int .i64 words, .int .i64 fuel, .slice (some ⟨gR, 0, none⟩) 16 cr, .int .i64 (j : Int), .int .i64 steps, .int .i64 0, .int .i64 value], .int .i64 got] w _
  have g0 : w1.cell? ⟨gR, na, none⟩ = some (.int .i64 va) := (HG.out na (by have := HN.out; omega)).trans (by rw [hva])
  have G0_ := Lib.hid g0
  clear g0
  have ha0 : (0 : Int) ≤ (na : Int) := by omega
  have ha1 : (na : Int) < 16 := by have := HN.out; omega
  have hb0 : (0 : Int) ≤ (nb : Int) := by omega
  have hb1 : (nb : Int) < 16 := by have := HN.out; omega
  have hc0 : (0 : Int) ≤ (nc : Int) := by omega
  have hc1 : (nc : Int) < 16 := by have := HN.out; omega
  have FF := Lib.hid (blk_free HX0.out)
  have hk9 : Keep (fun q => q = w.heap.size) w1 (w1.setCell ⟨w.heap.size, 4, none⟩ (.int .i64 ((j : Int) + 1))) := Keep.set (O := fun q => q = w.heap.size) (Keep.refl _ w1) (p := ⟨w.heap.size, 4, none⟩) (.inl rfl) (.int .i64 ((j : Int) + 1))
  have hx9 : (w1.setCell ⟨w.heap.size, 4, none⟩ (.int .i64 ((j : Int) + 1))).heap[w.heap.size + 1]? = some (.cells #[.slice none 0 0, .int .i64 0, .int .i64 0, .slice none 0 0, .int .i64 0, .int .i64 0, .int .i64 0, .int .i64 0] 29 (0, 0)) := hk9.blk (show w1.heap[w.heap.size + 1]? = _ from HX1.out) (by omega)
  have HX9 := Lib.hid hx9
  have HTA := Lib.hid (there_at hx9 0 8 (by decide))
  have HR9 := Lib.hid (show Row (w1.setCell ⟨w.heap.size, 4, none⟩ (.int .i64 ((j : Int) + 1))) 2 1 (.slice (some ⟨gR, 0, none⟩) 16 cr) 16 (nums rg) from Row.keep HR1.out fun q hq => hk9.block q (show q < w1.heap.size from HR1.out.lt hq) (fun e => HR1.out.ne HX0.out (by decide) (by rw [hq, e])))
  have HB9 := Lib.hid (show Below w.heap.size w (w1.setCell ⟨w.heap.size, 4, none⟩ (.int .i64 ((j : Int) + 1))) from Below.trans (show Below w.heap.size w w1 from ⟨HB1.out.os, HB1.out.tape, HB1.out.output, HB1.out.size, HB1.out.block⟩) (hk9.toBelow HB1.out.size (fun q h => by subst h; exact Nat.le_refl _)))
  clear hk9 hx9
  go_enter Try.func13, Try.ntmps13
  go_wp2_with (first | (have tk := HTA; clear tk; (refine wpList_store_mid (by rfl) 29 _ _ (by rfl) (w.heap.size + 1) 0 #[.slice (some ⟨b, o, none⟩) l.length cc, .int .i64 words, .int .i64 fuel, .slice (some ⟨gR, 0, none⟩) 16 cr, .int .i64 ((j : Int) + 1), .int .i64 (steps + 1), .int .i64 0, .int .i64 value] (by rfl) (by rfl) HTA.out (by kernel_rfl) (by simp [Value.oneCell']) ?_)) | (have tk := k0; clear tk; rw [HW.out]; clear k0 k1 k2 k3 k4 k5; have x0 := blk_cell HX2.out 0; have c0 := blk_cell HX0.out 0; have c1 := blk_cell HX0.out 1; have c2 := blk_cell HX0.out 2; have c3 := blk_cell HX0.out 3; have c4 := blk_cell HX0.out 4; have c5 := blk_cell HX0.out 5; have c6 := blk_cell HX0.out 6; have c7 := blk_cell HX0.out 7; have x1 := blk_cell HX2.out 1; have x2 := blk_cell HX2.out 2; have x3 := blk_cell HX2.out 3; have x4 := blk_cell HX2.out 4; have x5 := blk_cell HX2.out 5; have g0 := G0_.out; have ff := FF.out))
  exact ref_fin (s := next ⟨rg, (j : Int), steps + 1, 0, value⟩) rfl rfl HX9.out HB9.out HR9.out (.inl rfl)
set_option maxRecDepth 100000 in
set_option maxHeartbeats 8000000 in
theorem ref_other (w : World) (l : List Ins) (Ac : Option Addr) (cc : Nat) (words fuel : Int) (R : Option Addr) (cr : Nat) (rg : List Int) (hr : rg.length = 16) (steps value : Int) (hrow : Row w 2 1 (.slice R 16 cr) 16 (nums rg)) (hins : insRow w l Ac) (hl : l.length ≤ 100000) (j : Nat) (hj : j < l.length) (op n : Int) (na nb nc : Nat) (hx : l[j] = ⟨12, op, (na : Int), (nb : Int), (nc : Int), n⟩) (ha : na < 16) (hb : nb < 16) (hc : nc < 16) (hs0 : 0 ≤ steps) (hs1 : steps < fuel) (hs2 : fuel ≤ 100000) (va vb vc : Int) (hva : rg.getD na 0 = va) (hvb : rg.getD nb 0 = vb) (hvc : rg.getD nc 0 = vc) (q1 : (va != 0) = true) (got : Int) :
    Calls Try.prog 13 #[.agg (refM Ac l.length cc words fuel R cr ⟨rg, (j : Int), steps, 0, value⟩).toArray, .int .i64 got] w (RefStep w Ac l.length cc words fuel R (⟨rg, n, steps + 1, 0, value⟩)) := by
  obtain ⟨b, o, gR, w1, rfl, rfl, hsf, hj0, hj1, k0, k1, k2, k3, k4, k5, hw1, hr1, hx0, hx1, hx2, hb1, hg⟩ := ref_pre w l Ac cc words fuel R cr rg hr steps value hrow hins hl j hj 12 op n na nb nc hx hs1
  have HR1 := Lib.hid hr1
  have HX0 := Lib.hid hx0
  have HX1 := Lib.hid hx1
  have HX2 := Lib.hid hx2
  have HB1 := Lib.hid hb1
  have HW := Lib.hid hw1
  have HG := Lib.hid hg
  have HH := Lib.hid hr
  have HN := Lib.hid (And.intro ha (And.intro hb hc))
  clear hx0 hx1 hx2 hb1 hw1 hx hrow hins hr hr1 hg
  show Calls Try.prog 13 #[.agg #[.slice (some ⟨b, o, none⟩) l.length cc, .int .i64 words, .int .i64 fuel, .slice (some ⟨gR, 0, none⟩) 16 cr, .int .i64 (j : Int), .int .i64 steps, .int .i64 0, .int .i64 value], .int .i64 got] w _
  have g0 : w1.cell? ⟨gR, na, none⟩ = some (.int .i64 va) := (HG.out na (by have := HN.out; omega)).trans (by rw [hva])
  have G0_ := Lib.hid g0
  clear g0
  have ha0 : (0 : Int) ≤ (na : Int) := by omega
  have ha1 : (na : Int) < 16 := by have := HN.out; omega
  have hb0 : (0 : Int) ≤ (nb : Int) := by omega
  have hb1 : (nb : Int) < 16 := by have := HN.out; omega
  have hc0 : (0 : Int) ≤ (nc : Int) := by omega
  have hc1 : (nc : Int) < 16 := by have := HN.out; omega
  have FF := Lib.hid (blk_free HX0.out)
  have hk9 : Keep (fun q => q = w.heap.size) w1 ((w1.setCell ⟨w.heap.size, 4, none⟩ (.int .i64 ((j : Int) + 1))).setCell ⟨w.heap.size, 4, none⟩ (.int .i64 n)) := Keep.set (O := fun q => q = w.heap.size) (Keep.set (O := fun q => q = w.heap.size) (Keep.refl _ w1) (p := ⟨w.heap.size, 4, none⟩) (.inl rfl) (.int .i64 ((j : Int) + 1))) (p := ⟨w.heap.size, 4, none⟩) (.inl rfl) (.int .i64 n)
  have hx9 : ((w1.setCell ⟨w.heap.size, 4, none⟩ (.int .i64 ((j : Int) + 1))).setCell ⟨w.heap.size, 4, none⟩ (.int .i64 n)).heap[w.heap.size + 1]? = some (.cells #[.slice none 0 0, .int .i64 0, .int .i64 0, .slice none 0 0, .int .i64 0, .int .i64 0, .int .i64 0, .int .i64 0] 29 (0, 0)) := hk9.blk (show w1.heap[w.heap.size + 1]? = _ from HX1.out) (by omega)
  have HX9 := Lib.hid hx9
  have HTA := Lib.hid (there_at hx9 0 8 (by decide))
  have HR9 := Lib.hid (show Row ((w1.setCell ⟨w.heap.size, 4, none⟩ (.int .i64 ((j : Int) + 1))).setCell ⟨w.heap.size, 4, none⟩ (.int .i64 n)) 2 1 (.slice (some ⟨gR, 0, none⟩) 16 cr) 16 (nums rg) from Row.keep HR1.out fun q hq => hk9.block q (show q < w1.heap.size from HR1.out.lt hq) (fun e => HR1.out.ne HX0.out (by decide) (by rw [hq, e])))
  have HB9 := Lib.hid (show Below w.heap.size w ((w1.setCell ⟨w.heap.size, 4, none⟩ (.int .i64 ((j : Int) + 1))).setCell ⟨w.heap.size, 4, none⟩ (.int .i64 n)) from Below.trans (show Below w.heap.size w w1 from ⟨HB1.out.os, HB1.out.tape, HB1.out.output, HB1.out.size, HB1.out.block⟩) (hk9.toBelow HB1.out.size (fun q h => by subst h; exact Nat.le_refl _)))
  clear hk9 hx9
  go_enter Try.func13, Try.ntmps13
  go_wp2_with (first | (have tk := HTA; clear tk; (refine wpList_store_mid (by rfl) 29 _ _ (by rfl) (w.heap.size + 1) 0 #[.slice (some ⟨b, o, none⟩) l.length cc, .int .i64 words, .int .i64 fuel, .slice (some ⟨gR, 0, none⟩) 16 cr, .int .i64 n, .int .i64 (steps + 1), .int .i64 0, .int .i64 value] (by rfl) (by rfl) HTA.out (by kernel_rfl) (by simp [Value.oneCell']) ?_)) | (have tk := k0; clear tk; rw [HW.out]; clear k0 k1 k2 k3 k4 k5; have x0 := blk_cell HX2.out 0; have c0 := blk_cell HX0.out 0; have c1 := blk_cell HX0.out 1; have c2 := blk_cell HX0.out 2; have c3 := blk_cell HX0.out 3; have c4 := blk_cell HX0.out 4; have c5 := blk_cell HX0.out 5; have c6 := blk_cell HX0.out 6; have c7 := blk_cell HX0.out 7; have x1 := blk_cell HX2.out 1; have x2 := blk_cell HX2.out 2; have x3 := blk_cell HX2.out 3; have x4 := blk_cell HX2.out 4; have x5 := blk_cell HX2.out 5; have g0 := G0_.out; have ff := FF.out))
  exact ref_fin (s := ⟨rg, n, steps + 1, 0, value⟩) rfl rfl HX9.out HB9.out HR9.out (.inl rfl)
set_option maxRecDepth 100000 in
set_option maxHeartbeats 8000000 in
theorem ref_otherno (w : World) (l : List Ins) (Ac : Option Addr) (cc : Nat) (words fuel : Int) (R : Option Addr) (cr : Nat) (rg : List Int) (hr : rg.length = 16) (steps value : Int) (hrow : Row w 2 1 (.slice R 16 cr) 16 (nums rg)) (hins : insRow w l Ac) (hl : l.length ≤ 100000) (j : Nat) (hj : j < l.length) (op n : Int) (na nb nc : Nat) (hx : l[j] = ⟨12, op, (na : Int), (nb : Int), (nc : Int), n⟩) (ha : na < 16) (hb : nb < 16) (hc : nc < 16) (hs0 : 0 ≤ steps) (hs1 : steps < fuel) (hs2 : fuel ≤ 100000) (va vb vc : Int) (hva : rg.getD na 0 = va) (hvb : rg.getD nb 0 = vb) (hvc : rg.getD nc 0 = vc) (q1 : (va != 0) = false) (got : Int) :
    Calls Try.prog 13 #[.agg (refM Ac l.length cc words fuel R cr ⟨rg, (j : Int), steps, 0, value⟩).toArray, .int .i64 got] w (RefStep w Ac l.length cc words fuel R (next ⟨rg, (j : Int), steps + 1, 0, value⟩)) := by
  obtain ⟨b, o, gR, w1, rfl, rfl, hsf, hj0, hj1, k0, k1, k2, k3, k4, k5, hw1, hr1, hx0, hx1, hx2, hb1, hg⟩ := ref_pre w l Ac cc words fuel R cr rg hr steps value hrow hins hl j hj 12 op n na nb nc hx hs1
  have HR1 := Lib.hid hr1
  have HX0 := Lib.hid hx0
  have HX1 := Lib.hid hx1
  have HX2 := Lib.hid hx2
  have HB1 := Lib.hid hb1
  have HW := Lib.hid hw1
  have HG := Lib.hid hg
  have HH := Lib.hid hr
  have HN := Lib.hid (And.intro ha (And.intro hb hc))
  clear hx0 hx1 hx2 hb1 hw1 hx hrow hins hr hr1 hg
  show Calls Try.prog 13 #[.agg #[.slice (some ⟨b, o, none⟩) l.length cc, .int .i64 words, .int .i64 fuel, .slice (some ⟨gR, 0, none⟩) 16 cr, .int .i64 (j : Int), .int .i64 steps, .int .i64 0, .int .i64 value], .int .i64 got] w _
  have g0 : w1.cell? ⟨gR, na, none⟩ = some (.int .i64 va) := (HG.out na (by have := HN.out; omega)).trans (by rw [hva])
  have G0_ := Lib.hid g0
  clear g0
  have ha0 : (0 : Int) ≤ (na : Int) := by omega
  have ha1 : (na : Int) < 16 := by have := HN.out; omega
  have hb0 : (0 : Int) ≤ (nb : Int) := by omega
  have hb1 : (nb : Int) < 16 := by have := HN.out; omega
  have hc0 : (0 : Int) ≤ (nc : Int) := by omega
  have hc1 : (nc : Int) < 16 := by have := HN.out; omega
  have FF := Lib.hid (blk_free HX0.out)
  have hk9 : Keep (fun q => q = w.heap.size) w1 (w1.setCell ⟨w.heap.size, 4, none⟩ (.int .i64 ((j : Int) + 1))) := Keep.set (O := fun q => q = w.heap.size) (Keep.refl _ w1) (p := ⟨w.heap.size, 4, none⟩) (.inl rfl) (.int .i64 ((j : Int) + 1))
  have hx9 : (w1.setCell ⟨w.heap.size, 4, none⟩ (.int .i64 ((j : Int) + 1))).heap[w.heap.size + 1]? = some (.cells #[.slice none 0 0, .int .i64 0, .int .i64 0, .slice none 0 0, .int .i64 0, .int .i64 0, .int .i64 0, .int .i64 0] 29 (0, 0)) := hk9.blk (show w1.heap[w.heap.size + 1]? = _ from HX1.out) (by omega)
  have HX9 := Lib.hid hx9
  have HTA := Lib.hid (there_at hx9 0 8 (by decide))
  have HR9 := Lib.hid (show Row (w1.setCell ⟨w.heap.size, 4, none⟩ (.int .i64 ((j : Int) + 1))) 2 1 (.slice (some ⟨gR, 0, none⟩) 16 cr) 16 (nums rg) from Row.keep HR1.out fun q hq => hk9.block q (show q < w1.heap.size from HR1.out.lt hq) (fun e => HR1.out.ne HX0.out (by decide) (by rw [hq, e])))
  have HB9 := Lib.hid (show Below w.heap.size w (w1.setCell ⟨w.heap.size, 4, none⟩ (.int .i64 ((j : Int) + 1))) from Below.trans (show Below w.heap.size w w1 from ⟨HB1.out.os, HB1.out.tape, HB1.out.output, HB1.out.size, HB1.out.block⟩) (hk9.toBelow HB1.out.size (fun q h => by subst h; exact Nat.le_refl _)))
  clear hk9 hx9
  go_enter Try.func13, Try.ntmps13
  go_wp2_with (first | (have tk := HTA; clear tk; (refine wpList_store_mid (by rfl) 29 _ _ (by rfl) (w.heap.size + 1) 0 #[.slice (some ⟨b, o, none⟩) l.length cc, .int .i64 words, .int .i64 fuel, .slice (some ⟨gR, 0, none⟩) 16 cr, .int .i64 ((j : Int) + 1), .int .i64 (steps + 1), .int .i64 0, .int .i64 value] (by rfl) (by rfl) HTA.out (by kernel_rfl) (by simp [Value.oneCell']) ?_)) | (have tk := k0; clear tk; rw [HW.out]; clear k0 k1 k2 k3 k4 k5; have x0 := blk_cell HX2.out 0; have c0 := blk_cell HX0.out 0; have c1 := blk_cell HX0.out 1; have c2 := blk_cell HX0.out 2; have c3 := blk_cell HX0.out 3; have c4 := blk_cell HX0.out 4; have c5 := blk_cell HX0.out 5; have c6 := blk_cell HX0.out 6; have c7 := blk_cell HX0.out 7; have x1 := blk_cell HX2.out 1; have x2 := blk_cell HX2.out 2; have x3 := blk_cell HX2.out 3; have x4 := blk_cell HX2.out 4; have x5 := blk_cell HX2.out 5; have g0 := G0_.out; have ff := FF.out))
  exact ref_fin (s := next ⟨rg, (j : Int), steps + 1, 0, value⟩) rfl rfl HX9.out HB9.out HR9.out (.inl rfl)
set_option maxRecDepth 100000 in
set_option maxHeartbeats 8000000 in
theorem ref_two (w : World) (l : List Ins) (Ac : Option Addr) (cc : Nat) (words fuel : Int) (R : Option Addr) (cr : Nat) (rg : List Int) (hr : rg.length = 16) (steps value : Int) (hrow : Row w 2 1 (.slice R 16 cr) 16 (nums rg)) (hins : insRow w l Ac) (hl : l.length ≤ 100000) (j : Nat) (hj : j < l.length) (op n : Int) (na nb nc : Nat) (hx : l[j] = ⟨5, op, (na : Int), (nb : Int), (nc : Int), n⟩) (ha : na < 16) (hb : nb < 16) (hc : nc < 16) (hs0 : 0 ≤ steps) (hs1 : steps < fuel) (hs2 : fuel ≤ 100000) (va vb vc : Int) (hva : rg.getD na 0 = va) (hvb : rg.getD nb 0 = vb) (hvc : rg.getD nc 0 = vc) (h64b : b64 vb) (h64c : b64 vc) (hok : (two op vb vc).2 = true) (got : Int) :
    Calls Try.prog 13 #[.agg (refM Ac l.length cc words fuel R cr ⟨rg, (j : Int), steps, 0, value⟩).toArray, .int .i64 got] w (RefStep w Ac l.length cc words fuel R (putR ⟨rg, (j : Int), steps + 1, 0, value⟩ ⟨0, 0, na, 0, 0, 0⟩ (two op vb vc).1)) := by
  obtain ⟨b, o, gR, w1, rfl, rfl, hsf, hj0, hj1, k0, k1, k2, k3, k4, k5, hw1, hr1, hx0, hx1, hx2, hb1, hg⟩ := ref_pre w l Ac cc words fuel R cr rg hr steps value hrow hins hl j hj 5 op n na nb nc hx hs1
  have HR1 := Lib.hid hr1
  have HX0 := Lib.hid hx0
  have HX1 := Lib.hid hx1
  have HX2 := Lib.hid hx2
  have HB1 := Lib.hid hb1
  have HW := Lib.hid hw1
  have HG := Lib.hid hg
  have HH := Lib.hid hr
  have HN := Lib.hid (And.intro ha (And.intro hb hc))
  clear hx0 hx1 hx2 hb1 hw1 hx hrow hins hr hr1 hg
  show Calls Try.prog 13 #[.agg #[.slice (some ⟨b, o, none⟩) l.length cc, .int .i64 words, .int .i64 fuel, .slice (some ⟨gR, 0, none⟩) 16 cr, .int .i64 (j : Int), .int .i64 steps, .int .i64 0, .int .i64 value], .int .i64 got] w _
  have g0 : w1.cell? ⟨gR, nb, none⟩ = some (.int .i64 vb) := (HG.out nb (by have := HN.out; omega)).trans (by rw [hvb])
  have G0_ := Lib.hid g0
  clear g0
  have g1 : w1.cell? ⟨gR, nc, none⟩ = some (.int .i64 vc) := (HG.out nc (by have := HN.out; omega)).trans (by rw [hvc])
  have G1_ := Lib.hid g1
  clear g1
  have ha0 : (0 : Int) ≤ (na : Int) := by omega
  have ha1 : (na : Int) < 16 := by have := HN.out; omega
  have hb0 : (0 : Int) ≤ (nb : Int) := by omega
  have hb1 : (nb : Int) < 16 := by have := HN.out; omega
  have hc0 : (0 : Int) ≤ (nc : Int) := by omega
  have hc1 : (nc : Int) < 16 := by have := HN.out; omega
  have HQ := Lib.hid (And.intro h64b h64c)
  clear h64b h64c
  go_enter Try.func13, Try.ntmps13
  go_wp2_with (have tk := k0; clear tk; rw [HW.out]; clear k0 k1 k2 k3 k4 k5; have x0 := blk_cell HX2.out 0)
  have c3 := blk_cell HX0.out 3
  have x1 := blk_cell HX2.out 1
  have x3 := blk_cell HX2.out 3
  have x4 := blk_cell HX2.out 4
  have g0 := G0_.out
  have g1 := G1_.out
  go_region_held3 (fun V_ => V_.cell? ⟨w.heap.size + 1 + 1, 1, none⟩ = some (.int .i64 op) ∧ V_.cell? ⟨w.heap.size + 1 + 1, 3, none⟩ = some (.int .i64 (nb : Int)) ∧ V_.cell? ⟨w.heap.size + 1 + 1, 4, none⟩ = some (.int .i64 (nc : Int)) ∧ V_.cell? ⟨w.heap.size, 3, none⟩ = some (.slice (some ⟨gR, 0, none⟩) 16 cr) ∧ V_.cell? ⟨gR, nb, none⟩ = some (.int .i64 vb) ∧ V_.cell? ⟨gR, nc, none⟩ = some (.int .i64 vc)) (first | go_keep | (refine ⟨?_, ?_, ?_, ?_, ?_, ?_⟩ <;> exact keep_cell hb (by assumption))) (first | (go_at_call 35; go_must (refine (refTwo_calls _ _ _ HQ.out.1.1 HQ.out.1.2 HQ.out.2.1 HQ.out.2.2 _).mono ?_); rintro y w2 ⟨rfl, hb⟩))
  have hb' := below_fromdrew hb
  have HRa := Lib.hid (HR1.out.below hb')
  have HXa0 := Lib.hid (below_blk hb' HX0.out (blk_lt HX0.out))
  have HXa1 := Lib.hid (below_blk hb' HX1.out (blk_lt HX1.out))
  have HXa2 := Lib.hid (below_blk hb' HX2.out (blk_lt HX2.out))
  have HBa := Lib.hid (HB1.out.trans (hb'.mono HB1.out.size))
  clear x1 x3 x4 c3 g0 g1 x0
  clear hb hb'
  have c0 := blk_cell HXa0.out 0
  have c1 := blk_cell HXa0.out 1
  have c2 := blk_cell HXa0.out 2
  have c3 := blk_cell HXa0.out 3
  have c4 := blk_cell HXa0.out 4
  have c5 := blk_cell HXa0.out 5
  have c6 := blk_cell HXa0.out 6
  have c7 := blk_cell HXa0.out 7
  have x0 := blk_cell HXa2.out 0
  have x1 := blk_cell HXa2.out 1
  have x2 := blk_cell HXa2.out 2
  have x3 := blk_cell HXa2.out 3
  have x4 := blk_cell HXa2.out 4
  have x5 := blk_cell HXa2.out 5
  go_wp2_with fail
  refine (set_ref_calls _ _ _ _ _ _ _ _ _ _ _ rg HH.out na (by have := HN.out; omega) (by omega) (by omega) _ _ HRa.out).mono ?_
  rintro y w3 ⟨R', cr', rfl, hr2, hb2', ho2⟩
  have hb2 : Below w2.heap.size w2 w3 := ⟨hb2'.os, hb2'.tape, hb2'.output, hb2'.size, hb2'.block⟩
  clear hb2'
  have HO2 := Lib.hid ho2
  clear ho2
  have HB2 := Lib.hid (HBa.out.trans (hb2.mono HBa.out.size))
  have HX3 := Lib.hid (below_blk hb2 HXa1.out (blk_lt HXa1.out))
  have HR2 := Lib.hid hr2
  have HT := Lib.hid (there_at HX3.out 0 8 (by decide))
  clear hb2 hr2
  go_wp2_with (refine wpList_store_mid (by rfl) 29 _ _ (by rfl) (w.heap.size + 1) 0 #[.slice (some ⟨b, o, none⟩) l.length cc, .int .i64 words, .int .i64 fuel, .slice R' 16 cr', .int .i64 ((j : Int) + 1), .int .i64 (steps + 1), .int .i64 0, .int .i64 value] (by rfl) (by rfl) HT.out (by kernel_rfl) (by simp [Value.oneCell']) ?_)
  exact ref_fin (s := putR ⟨rg, (j : Int), steps + 1, 0, value⟩ ⟨0, 0, na, 0, 0, 0⟩ (two op vb vc).1) rfl rfl HX3.out HB2.out HR2.out (.inr fun q hq => Nat.le_trans HBa.out.size (HO2.out q hq))
set_option maxRecDepth 100000 in
set_option maxHeartbeats 8000000 in
theorem ref_twono (w : World) (l : List Ins) (Ac : Option Addr) (cc : Nat) (words fuel : Int) (R : Option Addr) (cr : Nat) (rg : List Int) (hr : rg.length = 16) (steps value : Int) (hrow : Row w 2 1 (.slice R 16 cr) 16 (nums rg)) (hins : insRow w l Ac) (hl : l.length ≤ 100000) (j : Nat) (hj : j < l.length) (op n : Int) (na nb nc : Nat) (hx : l[j] = ⟨5, op, (na : Int), (nb : Int), (nc : Int), n⟩) (ha : na < 16) (hb : nb < 16) (hc : nc < 16) (hs0 : 0 ≤ steps) (hs1 : steps < fuel) (hs2 : fuel ≤ 100000) (va vb vc : Int) (hva : rg.getD na 0 = va) (hvb : rg.getD nb 0 = vb) (hvc : rg.getD nc 0 = vc) (h64b : b64 vb) (h64c : b64 vc) (hok : (two op vb vc).2 = false) (got : Int) :
    Calls Try.prog 13 #[.agg (refM Ac l.length cc words fuel R cr ⟨rg, (j : Int), steps, 0, value⟩).toArray, .int .i64 got] w (RefStep w Ac l.length cc words fuel R (ended ⟨rg, (j : Int), steps + 1, 0, value⟩ 2 0)) := by
  obtain ⟨b, o, gR, w1, rfl, rfl, hsf, hj0, hj1, k0, k1, k2, k3, k4, k5, hw1, hr1, hx0, hx1, hx2, hb1, hg⟩ := ref_pre w l Ac cc words fuel R cr rg hr steps value hrow hins hl j hj 5 op n na nb nc hx hs1
  have HR1 := Lib.hid hr1
  have HX0 := Lib.hid hx0
  have HX1 := Lib.hid hx1
  have HX2 := Lib.hid hx2
  have HB1 := Lib.hid hb1
  have HW := Lib.hid hw1
  have HG := Lib.hid hg
  have HH := Lib.hid hr
  have HN := Lib.hid (And.intro ha (And.intro hb hc))
  clear hx0 hx1 hx2 hb1 hw1 hx hrow hins hr hr1 hg
  show Calls Try.prog 13 #[.agg #[.slice (some ⟨b, o, none⟩) l.length cc, .int .i64 words, .int .i64 fuel, .slice (some ⟨gR, 0, none⟩) 16 cr, .int .i64 (j : Int), .int .i64 steps, .int .i64 0, .int .i64 value], .int .i64 got] w _
  have g0 : w1.cell? ⟨gR, nb, none⟩ = some (.int .i64 vb) := (HG.out nb (by have := HN.out; omega)).trans (by rw [hvb])
  have G0_ := Lib.hid g0
  clear g0
  have g1 : w1.cell? ⟨gR, nc, none⟩ = some (.int .i64 vc) := (HG.out nc (by have := HN.out; omega)).trans (by rw [hvc])
  have G1_ := Lib.hid g1
  clear g1
  have ha0 : (0 : Int) ≤ (na : Int) := by omega
  have ha1 : (na : Int) < 16 := by have := HN.out; omega
  have hb0 : (0 : Int) ≤ (nb : Int) := by omega
  have hb1 : (nb : Int) < 16 := by have := HN.out; omega
  have hc0 : (0 : Int) ≤ (nc : Int) := by omega
  have hc1 : (nc : Int) < 16 := by have := HN.out; omega
  have HQ := Lib.hid (And.intro h64b h64c)
  clear h64b h64c
  go_enter Try.func13, Try.ntmps13
  go_wp2_with (have tk := k0; clear tk; rw [HW.out]; clear k0 k1 k2 k3 k4 k5; have x0 := blk_cell HX2.out 0)
  have c3 := blk_cell HX0.out 3
  have x1 := blk_cell HX2.out 1
  have x3 := blk_cell HX2.out 3
  have x4 := blk_cell HX2.out 4
  have g0 := G0_.out
  have g1 := G1_.out
  go_region_held3 (fun V_ => V_.cell? ⟨w.heap.size + 1 + 1, 1, none⟩ = some (.int .i64 op) ∧ V_.cell? ⟨w.heap.size + 1 + 1, 3, none⟩ = some (.int .i64 (nb : Int)) ∧ V_.cell? ⟨w.heap.size + 1 + 1, 4, none⟩ = some (.int .i64 (nc : Int)) ∧ V_.cell? ⟨w.heap.size, 3, none⟩ = some (.slice (some ⟨gR, 0, none⟩) 16 cr) ∧ V_.cell? ⟨gR, nb, none⟩ = some (.int .i64 vb) ∧ V_.cell? ⟨gR, nc, none⟩ = some (.int .i64 vc)) (first | go_keep | (refine ⟨?_, ?_, ?_, ?_, ?_, ?_⟩ <;> exact keep_cell hb (by assumption))) (first | (go_at_call 35; go_must (refine (refTwo_calls _ _ _ HQ.out.1.1 HQ.out.1.2 HQ.out.2.1 HQ.out.2.2 _).mono ?_); rintro y w2 ⟨rfl, hb⟩))
  have hb' := below_fromdrew hb
  have HRa := Lib.hid (HR1.out.below hb')
  have HXa0 := Lib.hid (below_blk hb' HX0.out (blk_lt HX0.out))
  have HXa1 := Lib.hid (below_blk hb' HX1.out (blk_lt HX1.out))
  have HXa2 := Lib.hid (below_blk hb' HX2.out (blk_lt HX2.out))
  have HBa := Lib.hid (HB1.out.trans (hb'.mono HB1.out.size))
  clear x1 x3 x4 c3 g0 g1 x0
  clear hb hb'
  have c0 := blk_cell HXa0.out 0
  have c1 := blk_cell HXa0.out 1
  have c2 := blk_cell HXa0.out 2
  have c3 := blk_cell HXa0.out 3
  have c4 := blk_cell HXa0.out 4
  have c5 := blk_cell HXa0.out 5
  have c6 := blk_cell HXa0.out 6
  have c7 := blk_cell HXa0.out 7
  have x0 := blk_cell HXa2.out 0
  have x1 := blk_cell HXa2.out 1
  have x2 := blk_cell HXa2.out 2
  have x3 := blk_cell HXa2.out 3
  have x4 := blk_cell HXa2.out 4
  have x5 := blk_cell HXa2.out 5
  go_wp2_with fail
  refine (over_calls _ _ _ _ _ _ _ _ _ _ _ _ _ _).mono ?_
  rintro y w3 ⟨rfl, hb2'⟩
  have hb2 : Below w2.heap.size w2 w3 := ⟨hb2'.os, hb2'.tape, hb2'.output, hb2'.size, hb2'.block⟩
  clear hb2'
  have HB2 := Lib.hid (HBa.out.trans (hb2.mono HBa.out.size))
  have HX3 := Lib.hid (below_blk hb2 HXa1.out (blk_lt HXa1.out))
  have HR2 := Lib.hid (HRa.out.below hb2)
  have HT := Lib.hid (there_at HX3.out 0 8 (by decide))
  clear hb2
  go_wp2_with (refine wpList_store_mid (by rfl) 29 _ _ (by rfl) (w.heap.size + 1) 0 #[.slice (some ⟨b, o, none⟩) l.length cc, .int .i64 words, .int .i64 fuel, .slice (some ⟨gR, 0, none⟩) 16 cr, .int .i64 (j : Int), .int .i64 (steps + 1), .int .i64 2, .int .i64 0] (by rfl) (by rfl) HT.out (by kernel_rfl) (by simp [Value.oneCell']) ?_)
  exact ref_fin (s := ended ⟨rg, (j : Int), steps + 1, 0, value⟩ 2 0) rfl rfl HX3.out HB2.out HR2.out (.inl rfl)
end Go.Proofs.Ytnikcdcaaeljmaa.My
