/- What a machine reckons: registers set. Conditions: the machine lies in memory, and the instruction's registers are registers. -/
import Derived.Test.YtnikcdcaaeljmaaVmPart
import Derived.Test.YtnikcdcaaeljmaaNumH
import Derived.Deep.AppendLies
import Derived.Deep.RegionLaw
namespace Go.Proofs.Ytnikcdcaaeljmaa.My
open Go.RowKit Go.Proofs.Ytnikcdcaaeljmaa.NumA
set_option linter.unusedVariables false
set_option linter.unusedSimpArgs false
theorem two_calls (op a b : Int) (w : World) : Calls Try.prog 41 #[.int .i64 op, .int .i64 a, .int .i64 b] w fun e w' => e = .returned (.tuple #[.int .i64 (two op a b).1, .bool (two op a b).2]) ∧ Below w.heap.size w w' :=
  (two_same op a b w).mono fun e w' h => ⟨h.1, h.2 ▸ Below.refl _ _⟩
theorem one_calls (op a : Int) (w : World) : Calls Try.prog 40 #[.int .i64 op, .int .i64 a] w fun e w' => e = .returned (.tuple #[.int .i64 (one op a).1, .bool (one op a).2]) ∧ w' = w := one_same op a w
theorem below_fromdrew {w w1 : World} (hb : Below w.drew.heap.size w.drew w1) : Below w.heap.size w w1 := ⟨hb.os, hb.tape, hb.output, hb.size, hb.block⟩
theorem keep_cell {W w1 : World} {a : Addr} {v : Value} (hb : Below W.heap.size W w1) (h : W.cell? a = some v) : w1.cell? a = some v := (hb.cell (World.block_lt_of_cell? W _ h)).trans h
def reckonS (s : St) (x : Ins) : St :=
  if x.kind = 2 then putR s x x.n else if x.kind = 3 then putR s x (s.reg x.b.toNat) else if x.kind = 4 then putR s x (one x.op (s.reg x.b.toNat)).1
  else if x.kind = 5 then (if (two x.op (s.reg x.b.toNat) (s.reg x.c.toNat)).2 = true then putR s x (two x.op (s.reg x.b.toNat) (s.reg x.c.toNat)).1 else ended s 2 0) else next s
set_option maxRecDepth 100000 in
set_option maxHeartbeats 2000000 in
theorem reckon_const (w : World) (p : Nat) (s : St) (code : Value) (words fuel : Int) (first : List Value) (h : vmAt w p s.cells code words fuel first) (hr : s.rg.length = 16) (op n : Int) (na nb nc : Nat) (ha : na < 16) (hb : nb < 16) (hc : nc < 16)
    (h0 : 0 ≤ s.at0) (h1 : s.at0 ≤ 100000) :
    Calls Try.prog 31 #[.pointer (some ⟨p, 0, none⟩), .agg #[.int .i64 2, .int .i64 op, .int .i64 (na : Int), .int .i64 (nb : Int), .int .i64 (nc : Int), .int .i64 n]] w fun e w' => e = .returned (.tuple #[]) ∧ Did w p (putR s ⟨0, 0, na, 0, 0, 0⟩ (n)) code words fuel first w' := by
  have HB0 := Lib.hid (Below.al (Below.refl w.heap.size w) (o := .cells #[.int .i64 2, .int .i64 op, .int .i64 (na : Int), .int .i64 (nb : Int), .int .i64 (nc : Int), .int .i64 n] 76))
  have hbx := blk_new w (.cells #[.int .i64 2, .int .i64 op, .int .i64 (na : Int), .int .i64 (nb : Int), .int .i64 (nc : Int), .int .i64 n] 76)
  have hk := h.keep HB0.out
  generalize hw0 : w.alloc (.cells #[.int .i64 2, .int .i64 op, .int .i64 (na : Int), .int .i64 (nb : Int), .int .i64 (nc : Int), .int .i64 n] 76) = w0 at HB0 hbx hk
  have F0 := Lib.hid (show w0.cell? ⟨w.heap.size, 0, none⟩ = some (.int .i64 2) by rw [blk_cell hbx]; rfl)
  have F1 := Lib.hid (show w0.cell? ⟨w.heap.size, 1, none⟩ = some (.int .i64 op) by rw [blk_cell hbx]; rfl)
  have F2 := Lib.hid (show w0.cell? ⟨w.heap.size, 2, none⟩ = some (.int .i64 (na : Int)) by rw [blk_cell hbx]; rfl)
  have F3 := Lib.hid (show w0.cell? ⟨w.heap.size, 3, none⟩ = some (.int .i64 (nb : Int)) by rw [blk_cell hbx]; rfl)
  have F4 := Lib.hid (show w0.cell? ⟨w.heap.size, 4, none⟩ = some (.int .i64 (nc : Int)) by rw [blk_cell hbx]; rfl)
  have F5 := Lib.hid (show w0.cell? ⟨w.heap.size, 5, none⟩ = some (.int .i64 n) by rw [blk_cell hbx]; rfl)
  have G2 := Lib.hid (show w0.cell? ⟨p, nb, none⟩ = some (.int .i64 (s.reg nb)) by rw [hk.cell (by omega), St.cell hr hb])
  have G3 := Lib.hid (show w0.cell? ⟨p, nc, none⟩ = some (.int .i64 (s.reg nc)) by rw [hk.cell (by omega), St.cell hr hc])
  have G4 := Lib.hid (show w0.cell? ⟨p, 16, none⟩ = some (.int .i64 s.at0) by rw [hk.cell (by omega), St.cell16 hr])
  have HBX := Lib.hid hbx
  have HW := Lib.hid hw0
  have HV := Lib.hid hk
  have HR := Lib.hid hr
  have HN := Lib.hid ha
  have ha0 : (0 : Int) ≤ (na : Int) := by omega
  have ha1 : (na : Int) < 16 := by omega
  have hb0 : (0 : Int) ≤ (nb : Int) := by omega
  have hb1 : (nb : Int) < 16 := by omega
  have hc0 : (0 : Int) ≤ (nc : Int) := by omega
  have hc1 : (nc : Int) < 16 := by omega
  clear hbx hk h hr hw0
  go_enter Try.func31, Try.ntmps31
  go_wp2
  rw [HW.out]
  have f0 := F0.out
  have f1 := F1.out
  have f2 := F2.out
  have f3 := F3.out
  have f4 := F4.out
  have f5 := F5.out
  have g2 := G2.out
  have g3 := G3.out
  go_wp2
  go_still_tail 9, (by kernel_rfl)
  refine wpList_store_vm (by rfl) 2 _ _ (by rfl) p na (by rfl) .i64 (n) (by rfl) (by kernel_rfl) (vm_drew HV.out) (by have := HN.out; omega) ?_
  intro w2 hw2 hk2
  rw [St.setR HR.out HN.out] at hw2
  have c16 := (hw2.cell (i := 16) (by decide)).trans (St.cell16 (s := { s with rg := s.rg.set na (n) }) (by simp [HR.out]))
  have H2 := Lib.hid hw2
  have K2 := Lib.hid (Keep.trans (O := fun k => k = p) (Keep.drew (Keep.refl _ w0)) hk2 (fun _ _ e => e))
  clear hw2 hk2 f0 f1 f2 f3 f4 f5 g2 g3
  go_wp2_with (refine wpList_store_vm (by rfl) 3 _ _ (by rfl) p 16 (by rfl) .i64 (s.at0 + 1) (by rfl) (by kernel_rfl) H2.out (by decide) ?_; intro w3 hw3 hk3; rw [St.set16 (s := { s with rg := s.rg.set na (n) }) (by simp [HR.out])] at hw3; have H3 := Lib.hid hw3; have K3 := Lib.hid hk3; clear hw3 hk3)
  first | go_end0 | refine bodyPost_ret (results_none rfl _ _ _) rfl ?_
  exact ⟨rfl, Did.below HB0.out ⟨K2.out.step K3.out, H3.out⟩⟩
set_option maxRecDepth 100000 in
set_option maxHeartbeats 2000000 in
theorem reckon_move (w : World) (p : Nat) (s : St) (code : Value) (words fuel : Int) (first : List Value) (h : vmAt w p s.cells code words fuel first) (hr : s.rg.length = 16) (op n : Int) (na nb nc : Nat) (ha : na < 16) (hb : nb < 16) (hc : nc < 16)
    (h0 : 0 ≤ s.at0) (h1 : s.at0 ≤ 100000) :
    Calls Try.prog 31 #[.pointer (some ⟨p, 0, none⟩), .agg #[.int .i64 3, .int .i64 op, .int .i64 (na : Int), .int .i64 (nb : Int), .int .i64 (nc : Int), .int .i64 n]] w fun e w' => e = .returned (.tuple #[]) ∧ Did w p (putR s ⟨0, 0, na, 0, 0, 0⟩ (s.reg nb)) code words fuel first w' := by
  have HB0 := Lib.hid (Below.al (Below.refl w.heap.size w) (o := .cells #[.int .i64 3, .int .i64 op, .int .i64 (na : Int), .int .i64 (nb : Int), .int .i64 (nc : Int), .int .i64 n] 76))
  have hbx := blk_new w (.cells #[.int .i64 3, .int .i64 op, .int .i64 (na : Int), .int .i64 (nb : Int), .int .i64 (nc : Int), .int .i64 n] 76)
  have hk := h.keep HB0.out
  generalize hw0 : w.alloc (.cells #[.int .i64 3, .int .i64 op, .int .i64 (na : Int), .int .i64 (nb : Int), .int .i64 (nc : Int), .int .i64 n] 76) = w0 at HB0 hbx hk
  have F0 := Lib.hid (show w0.cell? ⟨w.heap.size, 0, none⟩ = some (.int .i64 3) by rw [blk_cell hbx]; rfl)
  have F1 := Lib.hid (show w0.cell? ⟨w.heap.size, 1, none⟩ = some (.int .i64 op) by rw [blk_cell hbx]; rfl)
  have F2 := Lib.hid (show w0.cell? ⟨w.heap.size, 2, none⟩ = some (.int .i64 (na : Int)) by rw [blk_cell hbx]; rfl)
  have F3 := Lib.hid (show w0.cell? ⟨w.heap.size, 3, none⟩ = some (.int .i64 (nb : Int)) by rw [blk_cell hbx]; rfl)
  have F4 := Lib.hid (show w0.cell? ⟨w.heap.size, 4, none⟩ = some (.int .i64 (nc : Int)) by rw [blk_cell hbx]; rfl)
  have F5 := Lib.hid (show w0.cell? ⟨w.heap.size, 5, none⟩ = some (.int .i64 n) by rw [blk_cell hbx]; rfl)
  have G2 := Lib.hid (show w0.cell? ⟨p, nb, none⟩ = some (.int .i64 (s.reg nb)) by rw [hk.cell (by omega), St.cell hr hb])
  have G3 := Lib.hid (show w0.cell? ⟨p, nc, none⟩ = some (.int .i64 (s.reg nc)) by rw [hk.cell (by omega), St.cell hr hc])
  have G4 := Lib.hid (show w0.cell? ⟨p, 16, none⟩ = some (.int .i64 s.at0) by rw [hk.cell (by omega), St.cell16 hr])
  have HBX := Lib.hid hbx
  have HW := Lib.hid hw0
  have HV := Lib.hid hk
  have HR := Lib.hid hr
  have HN := Lib.hid ha
  have ha0 : (0 : Int) ≤ (na : Int) := by omega
  have ha1 : (na : Int) < 16 := by omega
  have hb0 : (0 : Int) ≤ (nb : Int) := by omega
  have hb1 : (nb : Int) < 16 := by omega
  have hc0 : (0 : Int) ≤ (nc : Int) := by omega
  have hc1 : (nc : Int) < 16 := by omega
  clear hbx hk h hr hw0
  go_enter Try.func31, Try.ntmps31
  go_wp2
  rw [HW.out]
  have f0 := F0.out
  have f1 := F1.out
  have f2 := F2.out
  have f3 := F3.out
  have f4 := F4.out
  have f5 := F5.out
  have g2 := G2.out
  have g3 := G3.out
  go_wp2
  go_still_tail 15, (by kernel_rfl)
  refine wpList_store_vm (by rfl) 2 _ _ (by rfl) p na (by rfl) .i64 (s.reg nb) (by rfl) (by kernel_rfl) (vm_drew HV.out) (by have := HN.out; omega) ?_
  intro w2 hw2 hk2
  rw [St.setR HR.out HN.out] at hw2
  have c16 := (hw2.cell (i := 16) (by decide)).trans (St.cell16 (s := { s with rg := s.rg.set na (s.reg nb) }) (by simp [HR.out]))
  have H2 := Lib.hid hw2
  have K2 := Lib.hid (Keep.trans (O := fun k => k = p) (Keep.drew (Keep.refl _ w0)) hk2 (fun _ _ e => e))
  clear hw2 hk2 f0 f1 f2 f3 f4 f5 g2 g3
  go_wp2_with (refine wpList_store_vm (by rfl) 3 _ _ (by rfl) p 16 (by rfl) .i64 (s.at0 + 1) (by rfl) (by kernel_rfl) H2.out (by decide) ?_; intro w3 hw3 hk3; rw [St.set16 (s := { s with rg := s.rg.set na (s.reg nb) }) (by simp [HR.out])] at hw3; have H3 := Lib.hid hw3; have K3 := Lib.hid hk3; clear hw3 hk3)
  first | go_end0 | refine bodyPost_ret (results_none rfl _ _ _) rfl ?_
  exact ⟨rfl, Did.below HB0.out ⟨K2.out.step K3.out, H3.out⟩⟩
set_option maxRecDepth 100000 in
set_option maxHeartbeats 2000000 in
theorem reckon_else (w : World) (p : Nat) (s : St) (code : Value) (words fuel : Int) (first : List Value) (h : vmAt w p s.cells code words fuel first) (hr : s.rg.length = 16) (k : Int) (op n : Int) (na nb nc : Nat) (ha : na < 16) (hb : nb < 16) (hc : nc < 16)
    (h0 : 0 ≤ s.at0) (h1 : s.at0 ≤ 100000) (k2 : (k == 2) = false) (k3 : (k == 3) = false) (k4 : (k == 4) = false) (k5 : (k == 5) = false) :
    Calls Try.prog 31 #[.pointer (some ⟨p, 0, none⟩), .agg #[.int .i64 k, .int .i64 op, .int .i64 (na : Int), .int .i64 (nb : Int), .int .i64 (nc : Int), .int .i64 n]] w fun e w' => e = .returned (.tuple #[]) ∧ Did w p (next s) code words fuel first w' := by
  have HB0 := Lib.hid (Below.al (Below.refl w.heap.size w) (o := .cells #[.int .i64 k, .int .i64 op, .int .i64 (na : Int), .int .i64 (nb : Int), .int .i64 (nc : Int), .int .i64 n] 76))
  have hbx := blk_new w (.cells #[.int .i64 k, .int .i64 op, .int .i64 (na : Int), .int .i64 (nb : Int), .int .i64 (nc : Int), .int .i64 n] 76)
  have hk := h.keep HB0.out
  generalize hw0 : w.alloc (.cells #[.int .i64 k, .int .i64 op, .int .i64 (na : Int), .int .i64 (nb : Int), .int .i64 (nc : Int), .int .i64 n] 76) = w0 at HB0 hbx hk
  have F0 := Lib.hid (show w0.cell? ⟨w.heap.size, 0, none⟩ = some (.int .i64 k) by rw [blk_cell hbx]; rfl)
  have F1 := Lib.hid (show w0.cell? ⟨w.heap.size, 1, none⟩ = some (.int .i64 op) by rw [blk_cell hbx]; rfl)
  have F2 := Lib.hid (show w0.cell? ⟨w.heap.size, 2, none⟩ = some (.int .i64 (na : Int)) by rw [blk_cell hbx]; rfl)
  have F3 := Lib.hid (show w0.cell? ⟨w.heap.size, 3, none⟩ = some (.int .i64 (nb : Int)) by rw [blk_cell hbx]; rfl)
  have F4 := Lib.hid (show w0.cell? ⟨w.heap.size, 4, none⟩ = some (.int .i64 (nc : Int)) by rw [blk_cell hbx]; rfl)
  have F5 := Lib.hid (show w0.cell? ⟨w.heap.size, 5, none⟩ = some (.int .i64 n) by rw [blk_cell hbx]; rfl)
  have G2 := Lib.hid (show w0.cell? ⟨p, nb, none⟩ = some (.int .i64 (s.reg nb)) by rw [hk.cell (by omega), St.cell hr hb])
  have G3 := Lib.hid (show w0.cell? ⟨p, nc, none⟩ = some (.int .i64 (s.reg nc)) by rw [hk.cell (by omega), St.cell hr hc])
  have G4 := Lib.hid (show w0.cell? ⟨p, 16, none⟩ = some (.int .i64 s.at0) by rw [hk.cell (by omega), St.cell16 hr])
  have HBX := Lib.hid hbx
  have HW := Lib.hid hw0
  have HV := Lib.hid hk
  have HR := Lib.hid hr
  have HN := Lib.hid ha
  have ha0 : (0 : Int) ≤ (na : Int) := by omega
  have ha1 : (na : Int) < 16 := by omega
  have hb0 : (0 : Int) ≤ (nb : Int) := by omega
  have hb1 : (nb : Int) < 16 := by omega
  have hc0 : (0 : Int) ≤ (nc : Int) := by omega
  have hc1 : (nc : Int) < 16 := by omega
  clear hbx hk h hr hw0
  go_enter Try.func31, Try.ntmps31
  have hw := HW.out
  have f0 := F0.out
  have g4 := G4.out
  go_wp2_with (refine wpList_store_vm (by rfl) 3 _ _ (by rfl) p 16 (by rfl) .i64 (s.at0 + 1) (by rfl) (by kernel_rfl) HV.out (by decide) ?_; intro w3 hw3 hk3; rw [St.set16 (s := s) (by simp [HR.out])] at hw3; have H3 := Lib.hid hw3; have K3 := Lib.hid hk3; clear hw3 hk3)
  first | go_end0 | refine bodyPost_ret (results_none rfl _ _ _) rfl ?_
  exact ⟨rfl, Did.below HB0.out (Did.of H3.out K3.out)⟩
set_option maxRecDepth 100000 in
set_option maxHeartbeats 2000000 in
theorem reckon_two (w : World) (p : Nat) (s : St) (code : Value) (words fuel : Int) (first : List Value) (h : vmAt w p s.cells code words fuel first) (hr : s.rg.length = 16) (op n : Int) (na nb nc : Nat) (ha : na < 16) (hb : nb < 16) (hc : nc < 16)
    (h0 : 0 ≤ s.at0) (h1 : s.at0 ≤ 100000) (hok : (two op (s.reg nb) (s.reg nc)).2 = true) :
    Calls Try.prog 31 #[.pointer (some ⟨p, 0, none⟩), .agg #[.int .i64 5, .int .i64 op, .int .i64 (na : Int), .int .i64 (nb : Int), .int .i64 (nc : Int), .int .i64 n]] w fun e w' => e = .returned (.tuple #[]) ∧ Did w p (putR s ⟨0, 0, na, 0, 0, 0⟩ ((two op (s.reg nb) (s.reg nc)).1)) code words fuel first w' := by
  have HB0 := Lib.hid (Below.al (Below.refl w.heap.size w) (o := .cells #[.int .i64 5, .int .i64 op, .int .i64 (na : Int), .int .i64 (nb : Int), .int .i64 (nc : Int), .int .i64 n] 76))
  have hbx := blk_new w (.cells #[.int .i64 5, .int .i64 op, .int .i64 (na : Int), .int .i64 (nb : Int), .int .i64 (nc : Int), .int .i64 n] 76)
  have hk := h.keep HB0.out
  generalize hw0 : w.alloc (.cells #[.int .i64 5, .int .i64 op, .int .i64 (na : Int), .int .i64 (nb : Int), .int .i64 (nc : Int), .int .i64 n] 76) = w0 at HB0 hbx hk
  have F0 := Lib.hid (show w0.cell? ⟨w.heap.size, 0, none⟩ = some (.int .i64 5) by rw [blk_cell hbx]; rfl)
  have F1 := Lib.hid (show w0.cell? ⟨w.heap.size, 1, none⟩ = some (.int .i64 op) by rw [blk_cell hbx]; rfl)
  have F2 := Lib.hid (show w0.cell? ⟨w.heap.size, 2, none⟩ = some (.int .i64 (na : Int)) by rw [blk_cell hbx]; rfl)
  have F3 := Lib.hid (show w0.cell? ⟨w.heap.size, 3, none⟩ = some (.int .i64 (nb : Int)) by rw [blk_cell hbx]; rfl)
  have F4 := Lib.hid (show w0.cell? ⟨w.heap.size, 4, none⟩ = some (.int .i64 (nc : Int)) by rw [blk_cell hbx]; rfl)
  have F5 := Lib.hid (show w0.cell? ⟨w.heap.size, 5, none⟩ = some (.int .i64 n) by rw [blk_cell hbx]; rfl)
  have G2 := Lib.hid (show w0.cell? ⟨p, nb, none⟩ = some (.int .i64 (s.reg nb)) by rw [hk.cell (by omega), St.cell hr hb])
  have G3 := Lib.hid (show w0.cell? ⟨p, nc, none⟩ = some (.int .i64 (s.reg nc)) by rw [hk.cell (by omega), St.cell hr hc])
  have G4 := Lib.hid (show w0.cell? ⟨p, 16, none⟩ = some (.int .i64 s.at0) by rw [hk.cell (by omega), St.cell16 hr])
  have HBX := Lib.hid hbx
  have HW := Lib.hid hw0
  have HV := Lib.hid hk
  have HR := Lib.hid hr
  have HN := Lib.hid ha
  have ha0 : (0 : Int) ≤ (na : Int) := by omega
  have ha1 : (na : Int) < 16 := by omega
  have hb0 : (0 : Int) ≤ (nb : Int) := by omega
  have hb1 : (nb : Int) < 16 := by omega
  have hc0 : (0 : Int) ≤ (nc : Int) := by omega
  have hc1 : (nc : Int) < 16 := by omega
  clear hbx hk h hr hw0
  go_enter Try.func31, Try.ntmps31
  go_wp2
  rw [HW.out]
  have f0 := F0.out
  have f1 := F1.out
  have f2 := F2.out
  have f3 := F3.out
  have f4 := F4.out
  have f5 := F5.out
  have g2 := G2.out
  have g3 := G3.out
  go_wp2
  go_region_held3 (fun W => W.cell? ⟨w.heap.size, 1, none⟩ = some (.int .i64 op) ∧ W.cell? ⟨w.heap.size, 2, none⟩ = some (.int .i64 (na : Int)) ∧ W.cell? ⟨w.heap.size, 3, none⟩ = some (.int .i64 (nb : Int)) ∧ W.cell? ⟨w.heap.size, 4, none⟩ = some (.int .i64 (nc : Int)) ∧ W.cell? ⟨p, nb, none⟩ = some (.int .i64 (s.reg nb)) ∧ W.cell? ⟨p, nc, none⟩ = some (.int .i64 (s.reg nc))) (first | go_keep | (refine ⟨?_, ?_, ?_, ?_, ?_, ?_⟩ <;> exact keep_cell hb (by assumption))) (first | (go_at_call 41; go_must (refine (two_calls _ _ _ _).mono ?_); rintro y w1 ⟨rfl, hb⟩))
  have hb' := below_fromdrew hb
  have hv1 := HV.out.keep hb'
  have hx1 := below_blk hb' HBX.out (blk_lt HBX.out)
  have HB1 := Lib.hid (HB0.out.trans (hb'.mono HB0.out.size))
  have HV1 := Lib.hid hv1
  clear f0 f1 f2 f3 f4 f5 g2 g3 hb hb' hv1
  have f2 := blk_cell hx1 2
  clear hx1
  go_wp2
  go_still_tail 8, (by kernel_rfl)
  refine wpList_store_vm (by rfl) 2 _ _ (by rfl) p na (by rfl) .i64 ((two op (s.reg nb) (s.reg nc)).1) (by rfl) (by kernel_rfl) (vm_drew HV1.out) (by have := HN.out; omega) ?_
  intro w2 hw2 hk2
  rw [St.setR HR.out HN.out] at hw2
  have c16 := (hw2.cell (i := 16) (by decide)).trans (St.cell16 (s := { s with rg := s.rg.set na ((two op (s.reg nb) (s.reg nc)).1) }) (by simp [HR.out]))
  have H2 := Lib.hid hw2
  have K2 := Lib.hid (Keep.trans (O := fun k => k = p) (Keep.drew (Keep.refl _ w1)) hk2 (fun _ _ e => e))
  clear hw2 hk2 f2
  go_wp2_with (refine wpList_store_vm (by rfl) 3 _ _ (by rfl) p 16 (by rfl) .i64 (s.at0 + 1) (by rfl) (by kernel_rfl) H2.out (by decide) ?_; intro w3 hw3 hk3; rw [St.set16 (s := { s with rg := s.rg.set na ((two op (s.reg nb) (s.reg nc)).1) }) (by simp [HR.out])] at hw3; have H3 := Lib.hid hw3; have K3 := Lib.hid hk3; clear hw3 hk3)
  first | go_end0 | refine bodyPost_ret (results_none rfl _ _ _) rfl ?_
  exact ⟨rfl, Did.below HB1.out ⟨K2.out.step K3.out, H3.out⟩⟩
set_option maxRecDepth 100000 in
set_option maxHeartbeats 2000000 in
theorem reckon_twono (w : World) (p : Nat) (s : St) (code : Value) (words fuel : Int) (first : List Value) (h : vmAt w p s.cells code words fuel first) (hr : s.rg.length = 16) (op n : Int) (na nb nc : Nat) (ha : na < 16) (hb : nb < 16) (hc : nc < 16)
    (h0 : 0 ≤ s.at0) (h1 : s.at0 ≤ 100000) (hok : (two op (s.reg nb) (s.reg nc)).2 = false) :
    Calls Try.prog 31 #[.pointer (some ⟨p, 0, none⟩), .agg #[.int .i64 5, .int .i64 op, .int .i64 (na : Int), .int .i64 (nb : Int), .int .i64 (nc : Int), .int .i64 n]] w fun e w' => e = .returned (.tuple #[]) ∧ Did w p (ended s 2 0) code words fuel first w' := by
  have HB0 := Lib.hid (Below.al (Below.refl w.heap.size w) (o := .cells #[.int .i64 5, .int .i64 op, .int .i64 (na : Int), .int .i64 (nb : Int), .int .i64 (nc : Int), .int .i64 n] 76))
  have hbx := blk_new w (.cells #[.int .i64 5, .int .i64 op, .int .i64 (na : Int), .int .i64 (nb : Int), .int .i64 (nc : Int), .int .i64 n] 76)
  have hk := h.keep HB0.out
  generalize hw0 : w.alloc (.cells #[.int .i64 5, .int .i64 op, .int .i64 (na : Int), .int .i64 (nb : Int), .int .i64 (nc : Int), .int .i64 n] 76) = w0 at HB0 hbx hk
  have F0 := Lib.hid (show w0.cell? ⟨w.heap.size, 0, none⟩ = some (.int .i64 5) by rw [blk_cell hbx]; rfl)
  have F1 := Lib.hid (show w0.cell? ⟨w.heap.size, 1, none⟩ = some (.int .i64 op) by rw [blk_cell hbx]; rfl)
  have F2 := Lib.hid (show w0.cell? ⟨w.heap.size, 2, none⟩ = some (.int .i64 (na : Int)) by rw [blk_cell hbx]; rfl)
  have F3 := Lib.hid (show w0.cell? ⟨w.heap.size, 3, none⟩ = some (.int .i64 (nb : Int)) by rw [blk_cell hbx]; rfl)
  have F4 := Lib.hid (show w0.cell? ⟨w.heap.size, 4, none⟩ = some (.int .i64 (nc : Int)) by rw [blk_cell hbx]; rfl)
  have F5 := Lib.hid (show w0.cell? ⟨w.heap.size, 5, none⟩ = some (.int .i64 n) by rw [blk_cell hbx]; rfl)
  have G2 := Lib.hid (show w0.cell? ⟨p, nb, none⟩ = some (.int .i64 (s.reg nb)) by rw [hk.cell (by omega), St.cell hr hb])
  have G3 := Lib.hid (show w0.cell? ⟨p, nc, none⟩ = some (.int .i64 (s.reg nc)) by rw [hk.cell (by omega), St.cell hr hc])
  have G4 := Lib.hid (show w0.cell? ⟨p, 16, none⟩ = some (.int .i64 s.at0) by rw [hk.cell (by omega), St.cell16 hr])
  have HBX := Lib.hid hbx
  have HW := Lib.hid hw0
  have HV := Lib.hid hk
  have HR := Lib.hid hr
  have HN := Lib.hid ha
  have ha0 : (0 : Int) ≤ (na : Int) := by omega
  have ha1 : (na : Int) < 16 := by omega
  have hb0 : (0 : Int) ≤ (nb : Int) := by omega
  have hb1 : (nb : Int) < 16 := by omega
  have hc0 : (0 : Int) ≤ (nc : Int) := by omega
  have hc1 : (nc : Int) < 16 := by omega
  clear hbx hk h hr hw0
  go_enter Try.func31, Try.ntmps31
  go_wp2
  rw [HW.out]
  have f0 := F0.out
  have f1 := F1.out
  have f2 := F2.out
  have f3 := F3.out
  have f4 := F4.out
  have f5 := F5.out
  have g2 := G2.out
  have g3 := G3.out
  go_wp2
  go_region_held3 (fun W => W.cell? ⟨w.heap.size, 1, none⟩ = some (.int .i64 op) ∧ W.cell? ⟨w.heap.size, 2, none⟩ = some (.int .i64 (na : Int)) ∧ W.cell? ⟨w.heap.size, 3, none⟩ = some (.int .i64 (nb : Int)) ∧ W.cell? ⟨w.heap.size, 4, none⟩ = some (.int .i64 (nc : Int)) ∧ W.cell? ⟨p, nb, none⟩ = some (.int .i64 (s.reg nb)) ∧ W.cell? ⟨p, nc, none⟩ = some (.int .i64 (s.reg nc))) (first | go_keep | (refine ⟨?_, ?_, ?_, ?_, ?_, ?_⟩ <;> exact keep_cell hb (by assumption))) (first | (go_at_call 41; go_must (refine (two_calls _ _ _ _).mono ?_); rintro y w1 ⟨rfl, hb⟩))
  have hb' := below_fromdrew hb
  have hv1 := HV.out.keep hb'
  have hx1 := below_blk hb' HBX.out (blk_lt HBX.out)
  have HB1 := Lib.hid (HB0.out.trans (hb'.mono HB0.out.size))
  have HV1 := Lib.hid hv1
  clear f0 f1 f2 f3 f4 f5 g2 g3 hb hb' hv1
  clear hx1
  go_wp2_with (go_at_call 28; go_must (refine (end_calls _ p s code words fuel first HV1.out HR.out _ _).mono ?_); rintro y w2 ⟨rfl, hd⟩; have HD := Lib.hid hd; clear hd)
  first | go_end0 | refine bodyPost_ret (results_none rfl _ _ _) rfl ?_
  exact ⟨rfl, Did.below HB1.out HD.out⟩
set_option maxRecDepth 100000 in
set_option maxHeartbeats 2000000 in
theorem reckon_one (w : World) (p : Nat) (s : St) (code : Value) (words fuel : Int) (first : List Value) (h : vmAt w p s.cells code words fuel first) (hr : s.rg.length = 16) (op n : Int) (na nb nc : Nat) (ha : na < 16) (hb : nb < 16) (hc : nc < 16)
    (h0 : 0 ≤ s.at0) (h1 : s.at0 ≤ 100000) :
    Calls Try.prog 31 #[.pointer (some ⟨p, 0, none⟩), .agg #[.int .i64 4, .int .i64 op, .int .i64 (na : Int), .int .i64 (nb : Int), .int .i64 (nc : Int), .int .i64 n]] w fun e w' => e = .returned (.tuple #[]) ∧ Did w p (putR s ⟨0, 0, na, 0, 0, 0⟩ ((one op (s.reg nb)).1)) code words fuel first w' := by
  have HB0 := Lib.hid (Below.al (Below.refl w.heap.size w) (o := .cells #[.int .i64 4, .int .i64 op, .int .i64 (na : Int), .int .i64 (nb : Int), .int .i64 (nc : Int), .int .i64 n] 76))
  have hbx := blk_new w (.cells #[.int .i64 4, .int .i64 op, .int .i64 (na : Int), .int .i64 (nb : Int), .int .i64 (nc : Int), .int .i64 n] 76)
  have hk := h.keep HB0.out
  generalize hw0 : w.alloc (.cells #[.int .i64 4, .int .i64 op, .int .i64 (na : Int), .int .i64 (nb : Int), .int .i64 (nc : Int), .int .i64 n] 76) = w0 at HB0 hbx hk
  have F0 := Lib.hid (show w0.cell? ⟨w.heap.size, 0, none⟩ = some (.int .i64 4) by rw [blk_cell hbx]; rfl)
  have F1 := Lib.hid (show w0.cell? ⟨w.heap.size, 1, none⟩ = some (.int .i64 op) by rw [blk_cell hbx]; rfl)
  have F2 := Lib.hid (show w0.cell? ⟨w.heap.size, 2, none⟩ = some (.int .i64 (na : Int)) by rw [blk_cell hbx]; rfl)
  have F3 := Lib.hid (show w0.cell? ⟨w.heap.size, 3, none⟩ = some (.int .i64 (nb : Int)) by rw [blk_cell hbx]; rfl)
  have F4 := Lib.hid (show w0.cell? ⟨w.heap.size, 4, none⟩ = some (.int .i64 (nc : Int)) by rw [blk_cell hbx]; rfl)
  have F5 := Lib.hid (show w0.cell? ⟨w.heap.size, 5, none⟩ = some (.int .i64 n) by rw [blk_cell hbx]; rfl)
  have G2 := Lib.hid (show w0.cell? ⟨p, nb, none⟩ = some (.int .i64 (s.reg nb)) by rw [hk.cell (by omega), St.cell hr hb])
  have G3 := Lib.hid (show w0.cell? ⟨p, nc, none⟩ = some (.int .i64 (s.reg nc)) by rw [hk.cell (by omega), St.cell hr hc])
  have G4 := Lib.hid (show w0.cell? ⟨p, 16, none⟩ = some (.int .i64 s.at0) by rw [hk.cell (by omega), St.cell16 hr])
  have HBX := Lib.hid hbx
  have HW := Lib.hid hw0
  have HV := Lib.hid hk
  have HR := Lib.hid hr
  have HN := Lib.hid ha
  have ha0 : (0 : Int) ≤ (na : Int) := by omega
  have ha1 : (na : Int) < 16 := by omega
  have hb0 : (0 : Int) ≤ (nb : Int) := by omega
  have hb1 : (nb : Int) < 16 := by omega
  have hc0 : (0 : Int) ≤ (nc : Int) := by omega
  have hc1 : (nc : Int) < 16 := by omega
  clear hbx hk h hr hw0
  go_enter Try.func31, Try.ntmps31
  go_wp2
  rw [HW.out]
  have f0 := F0.out
  have f1 := F1.out
  have f2 := F2.out
  have f3 := F3.out
  have f4 := F4.out
  have f5 := F5.out
  have g2 := G2.out
  have g3 := G3.out
  have fz : ∀ i, w0.frozen? ⟨p, i, none⟩ = false := HV.out.free
  have c16 : w0.cell? ⟨p, na, none⟩ = some (.int .i64 (s.reg na)) := by rw [HV.out.cell (by have := HN.out; omega), St.cell HR.out HN.out]
  go_wp2
  go_region_law (first | (go_simp; go_at_call 40; go_must (refine (one_calls _ _ _).mono ?_); rintro y w1 ⟨rfl, rfl⟩))
  all_goals
    have hw2 := vm_drew (HV.out.put (i := na) (by have := HN.out; omega) (.int .i64 (one op (s.reg nb)).1))
    have hk2 := Keep.drew (Keep.set (O := fun k => k = p) (Keep.refl _ w0) (p := ⟨p, na, none⟩) (.inl rfl) (.int .i64 (one op (s.reg nb)).1))
    generalize (w0.setCell ⟨p, na, none⟩ (.int .i64 (one op (s.reg nb)).1)).drew = w2 at hw2 hk2 ⊢
    rw [St.setR HR.out HN.out] at hw2
    have c16 := (hw2.cell (i := 16) (by decide)).trans (St.cell16 (s := { s with rg := s.rg.set na (one op (s.reg nb)).1 }) (by simp [HR.out]))
    have H2 := Lib.hid hw2
    have K2 := Lib.hid hk2
    clear hw2 hk2 f0 f1 f2 f3 f4 f5 g2 g3 fz
    go_wp2_with (refine wpList_store_vm (by rfl) 3 _ _ (by rfl) p 16 (by rfl) .i64 (s.at0 + 1) (by rfl) (by kernel_rfl) H2.out (by decide) ?_; intro w3 hw3 hk3; rw [St.set16 (s := { s with rg := s.rg.set na (one op (s.reg nb)).1 }) (by simp [HR.out])] at hw3; have H3 := Lib.hid hw3; have K3 := Lib.hid hk3; clear hw3 hk3)
    first | go_end0 | refine bodyPost_ret (results_none rfl _ _ _) rfl ?_
    exact ⟨rfl, Did.below HB0.out ⟨K2.out.step K3.out, H3.out⟩⟩
theorem reckon_calls (w : World) (p : Nat) (s : St) (code : Value) (words fuel : Int) (first : List Value) (h : vmAt w p s.cells code words fuel first) (hr : s.rg.length = 16) (x : Ins) (na nb nc : Nat) (hxa : x.a = na) (ha : na < 16) (hxb : x.b = nb) (hb : nb < 16) (hxc : x.c = nc) (hc : nc < 16)
    (h0 : 0 ≤ s.at0) (h1 : s.at0 ≤ 100000) :
    Calls Try.prog 31 #[.pointer (some ⟨p, 0, none⟩), insAgg x] w fun e w' => e = .returned (.tuple #[]) ∧ Did w p (reckonS s x) code words fuel first w' := by
  obtain ⟨k, op, a, b, c, n⟩ := x
  simp only at hxa hxb hxc
  subst hxa hxb hxc
  have ep : ∀ (x : Ins) v, x.a = na → putR s x v = putR s ⟨0, 0, na, 0, 0, 0⟩ v := fun x v hx => by simp [putR, hx]
  by_cases h2 : k = 2
  · subst h2
    have := reckon_const w p s code words fuel first h hr op n na nb nc ha hb hc h0 h1
    rwa [show reckonS s ⟨2, op, na, nb, nc, n⟩ = putR s ⟨0, 0, na, 0, 0, 0⟩ n from by simp [reckonS, ep]]
  · by_cases h3 : k = 3
    · subst h3
      have := reckon_move w p s code words fuel first h hr op n na nb nc ha hb hc h0 h1
      rwa [show reckonS s ⟨3, op, na, nb, nc, n⟩ = putR s ⟨0, 0, na, 0, 0, 0⟩ (s.reg nb) from by simp [reckonS, ep]]
    · by_cases h4 : k = 4
      · subst h4
        have := reckon_one w p s code words fuel first h hr op n na nb nc ha hb hc h0 h1
        rwa [show reckonS s ⟨4, op, na, nb, nc, n⟩ = putR s ⟨0, 0, na, 0, 0, 0⟩ (one op (s.reg nb)).1 from by simp [reckonS, ep]]
      · by_cases h5 : k = 5
        · subst h5
          cases hok : (two op (s.reg nb) (s.reg nc)).2
          · have := reckon_twono w p s code words fuel first h hr op n na nb nc ha hb hc h0 h1 hok
            rwa [show reckonS s ⟨5, op, na, nb, nc, n⟩ = ended s 2 0 from by simp [reckonS, hok]]
          · have := reckon_two w p s code words fuel first h hr op n na nb nc ha hb hc h0 h1 hok
            rwa [show reckonS s ⟨5, op, na, nb, nc, n⟩ = putR s ⟨0, 0, na, 0, 0, 0⟩ (two op (s.reg nb) (s.reg nc)).1 from by simp [reckonS, ep, hok]]
        · have := reckon_else w p s code words fuel first h hr k op n na nb nc ha hb hc h0 h1 (by simp [h2]) (by simp [h3]) (by simp [h4]) (by simp [h5])
          rwa [show reckonS s ⟨k, op, na, nb, nc, n⟩ = next s from by simp [reckonS, h2, h3, h4, h5]]
end Go.Proofs.Ytnikcdcaaeljmaa.My
