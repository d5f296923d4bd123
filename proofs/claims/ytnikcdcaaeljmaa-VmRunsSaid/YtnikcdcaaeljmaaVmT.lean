/- A machine's step. Conditions: the machine lies in memory, its instructions' registers are registers, and its place is one of its text. -/
import Derived.Test.YtnikcdcaaeljmaaVmK
namespace Go.Proofs.Ytnikcdcaaeljmaa.My
open Go.RowKit Go.Proofs.Ytnikcdcaaeljmaa.NumA
set_option linter.unusedVariables false
set_option linter.unusedSimpArgs false
theorem Keep.cellAt {O : Nat → Prop} {w w1 : World} (k : Keep O w w1) {b i : Nat} {v : Value} (hn : ¬ O b) (h : w.cell? ⟨b, i, none⟩ = some v) : w1.cell? ⟨b, i, none⟩ = some v :=
  (World.cell?_of_block (w := w) (k.block b (World.block_lt_of_cell? w _ h) hn)).trans h
theorem insRow.far {w w1 : World} {O : Nat → Prop} {l : List Ins} {A : Option Addr} (h : insRow w l A) (k : Keep O w w1) (hn : ∀ b o, A = some ⟨b, o, none⟩ → ¬ O b) : insRow w1 l A := by
  intro j hj
  obtain ⟨b, o, hA, hc⟩ := h j hj
  exact ⟨b, o, hA, fun m u hu => k.cellAt (hn b o hA) (hc m u hu)⟩
def doS (words : Int) (s : St) (x : Ins) (got : Int) : St :=
  if x.kind = 1 then ended s 1 0 else if x.kind = 13 then ended s 4 (s.reg x.a.toNat) else if x.kind = 6 ∨ x.kind = 7 then memS words s x got
  else if x.kind = 10 ∨ x.kind = 11 ∨ x.kind = 12 then branchS s x else reckonS s x
/-- a step -/
def stepS (l : List Ins) (words fuel : Int) (s : St) (got : Int) : St :=
  if s.over = 0 then (if s.steps = fuel then ended s 5 0 else doS words { s with steps := s.steps + 1 } (l.getD s.at0.toNat default) got) else s
theorem Did.keep {w w1 w' : World} {p : Nat} {s : St} {code : Value} {words fuel : Int} {first : List Value} (k : Keep (fun k => k = p) w w1) (h : Did w1 p s code words fuel first w') : Did w p s code words fuel first w' :=
  ⟨k.trans h.1 (fun _ _ e => e), h.2⟩
set_option maxRecDepth 100000 in
theorem step_over (w : World) (p : Nat) (Ac : Option Addr) (l : List Ins) (cc : Nat) (words fuel : Int) (first : List Value) (rg : List Int) (at0 steps over value : Int) (h : vmAt w p (St.cells ⟨rg, at0, steps, over, value⟩) (.slice Ac l.length cc) words fuel first) (hr : rg.length = 16) (hov : over ≠ 0) (got : Int) :
    Calls Try.prog 12 #[.pointer (some ⟨p, 0, none⟩), .int .i64 got] w fun e w' => e = .returned (.bool false) ∧ Did w p ⟨rg, at0, steps, over, value⟩ (.slice Ac l.length cc) words fuel first w' := by
  have c18 := (h.cell (i := 18) (by decide)).trans (St.cell18 hr)
  have HV := Lib.hid h
  have hov' : (over == 0) = false := by simp [hov]
  clear h hr
  go_enter Try.func12, Try.ntmps12
  go_wp2
  go_ret
  exact ⟨rfl, Did.of HV.out (Keep.refl _ w)⟩
set_option maxRecDepth 100000 in
theorem step_spent (w : World) (p : Nat) (Ac : Option Addr) (l : List Ins) (cc : Nat) (words fuel : Int) (first : List Value) (rg : List Int) (at0 steps value : Int) (h : vmAt w p (St.cells ⟨rg, at0, steps, 0, value⟩) (.slice Ac l.length cc) words fuel first) (hr : rg.length = 16) (hst : steps = fuel) (got : Int) :
    Calls Try.prog 12 #[.pointer (some ⟨p, 0, none⟩), .int .i64 got] w fun e w' => e = .returned (.bool true) ∧ Did w p (ended ⟨rg, at0, steps, 0, value⟩ 5 0) (.slice Ac l.length cc) words fuel first w' := by
  subst hst
  have c17 := (h.cell (i := 17) (by decide)).trans (St.cell17 hr)
  have c18 := (h.cell (i := 18) (by decide)).trans (St.cell18 hr)
  have c22 := h.c22
  have HV := Lib.hid h
  have HR := Lib.hid hr
  clear h hr
  go_enter Try.func12, Try.ntmps12
  go_wp2
  go_quiet ((fail))
  go_wp2_with (go_at_call 28; go_must (refine (end_calls _ p _ _ words steps first (vm_drewN HV.out _) HR.out _ _).mono ?_); rintro y w2 ⟨rfl, hd⟩; have HD := Lib.hid hd; clear hd)
  go_ret
  exact ⟨rfl, Did.keep (Keep.drewN (Keep.refl _ w) _) HD.out⟩
set_option maxRecDepth 100000 in
set_option maxHeartbeats 2000000 in
theorem step_halt (w : World) (p : Nat) (Ac : Option Addr) (l : List Ins) (cc : Nat) (words fuel : Int) (first : List Value) (rg : List Int) (j : Nat) (steps value : Int) (h : vmAt w p (St.cells ⟨rg, (j : Int), steps, 0, value⟩) (.slice Ac l.length cc) words fuel first) (hr : rg.length = 16) (hrow : insRow w l Ac) (hne : ∀ b o, Ac = some ⟨b, o, none⟩ → b ≠ p) (hj : j < l.length) (hl : l.length ≤ 100000) (op n : Int) (na nb nc : Nat) (ha : na < 16) (hb : nb < 16) (hc : nc < 16)
    (hx : l[j] = ⟨1, op, (na : Int), (nb : Int), (nc : Int), n⟩) (hst : steps ≠ fuel) (hs0 : 0 ≤ steps) (hs1 : steps ≤ 100000) (got : Int) :
    Calls Try.prog 12 #[.pointer (some ⟨p, 0, none⟩), .int .i64 got] w fun e w' => e = .returned (.bool true) ∧ Did w p (ended ⟨rg, (j : Int), steps + 1, 0, value⟩ 1 0) (.slice Ac l.length cc) words fuel first w' := by
  obtain ⟨b, o, hA, hcell⟩ := hrow j hj
  rw [hx] at hcell
  have hbp := hne b o hA
  subst hA
  have c17 := (h.cell (i := 17) (by decide)).trans (St.cell17 hr)
  have c18 := (h.cell (i := 18) (by decide)).trans (St.cell18 hr)
  have c22 := h.c22
  have HV := Lib.hid h
  have HR := Lib.hid hr
  have HC := Lib.hid hcell
  have HP := Lib.hid hbp
  have hst' : (steps == fuel) = false := by simp [hst]
  have hj0 : (0 : Int) ≤ (j : Int) := by omega
  have hj1 : (j : Int) < (l.length : Int) := by omega
  have HA := Lib.hid (And.intro ha (And.intro hb hc))
  clear h hr hrow hne hx hcell hbp hst ha hb hc
  go_enter Try.func12, Try.ntmps12
  go_wp2
  go_quiet ((fail))
  go_wp2_with (refine wpList_store_vm (by rfl) 3 _ _ (by rfl) p 17 (by rfl) .i64 (steps + 1) (by rfl) (by kernel_rfl) (vm_drewN HV.out _) (by decide) ?_; intro w1 hw1 hk1; rw [St.set17 HR.out] at hw1)
  have hk1' := Keep.trans (O := fun k => k = p) (Keep.drewN (Keep.refl _ w) _) hk1 (fun _ _ e => e)
  have HG := Lib.hid (show w1.rangeAt b (o + j * 6) [.int .i64 1, .int .i64 op, .int .i64 (na : Int), .int .i64 (nb : Int), .int .i64 (nc : Int), .int .i64 n] from fun m u hu => hk1'.cellAt HP.out (HC.out m u hu))
  have K1 := Lib.hid hk1'
  have HV1 := Lib.hid hw1
  have c16 := (hw1.cell (i := 16) (by decide)).trans (St.cell16 (s := ⟨rg, (j : Int), steps + 1, 0, value⟩) HR.out)
  have c20 := hw1.c20
  clear hk1 hk1' hw1 c17 c18 c22
  have f0 : w1.cell? ⟨b, o + j * 6, none⟩ = some (.int .i64 1) := HG.out 0 _ rfl
  have hn0 := World.new_ne w1 _ f0
  have f1 : w1.cell? ⟨b, o + j * 6 + 1, none⟩ = some (.int .i64 op) := HG.out 1 _ rfl
  have hn1 := World.new_ne w1 _ f1
  have f2 : w1.cell? ⟨b, o + j * 6 + 2, none⟩ = some (.int .i64 (na : Int)) := HG.out 2 _ rfl
  have hn2 := World.new_ne w1 _ f2
  have f3 : w1.cell? ⟨b, o + j * 6 + 3, none⟩ = some (.int .i64 (nb : Int)) := HG.out 3 _ rfl
  have hn3 := World.new_ne w1 _ f3
  have f4 : w1.cell? ⟨b, o + j * 6 + 4, none⟩ = some (.int .i64 (nc : Int)) := HG.out 4 _ rfl
  have hn4 := World.new_ne w1 _ f4
  have f5 : w1.cell? ⟨b, o + j * 6 + 5, none⟩ = some (.int .i64 n) := HG.out 5 _ rfl
  have hn5 := World.new_ne w1 _ f5
  have hn16 := World.new_ne w1 _ c16
  have hn20 := World.new_ne w1 _ c20
  go_region_held3 (fun W => W.cell? ⟨p, 16, none⟩ = some (.int .i64 (j : Int)) ∧ W.cell? ⟨p, 20, none⟩ = some (.slice (some ⟨b, o, none⟩) l.length cc) ∧ W.cell? ⟨b, o + j * 6, none⟩ = some (.int .i64 1) ∧ W.cell? ⟨b, o + j * 6 + 1, none⟩ = some (.int .i64 op) ∧ W.cell? ⟨b, o + j * 6 + 2, none⟩ = some (.int .i64 (na : Int)) ∧ W.cell? ⟨b, o + j * 6 + 3, none⟩ = some (.int .i64 (nb : Int)) ∧ W.cell? ⟨b, o + j * 6 + 4, none⟩ = some (.int .i64 (nc : Int)) ∧ W.cell? ⟨b, o + j * 6 + 5, none⟩ = some (.int .i64 n)) (go_keep) (fail)
  have hb2 : Below w1.heap.size w1 (w1.alloc (.cells #[.int .i64 1, .int .i64 op, .int .i64 (na : Int), .int .i64 (nb : Int), .int .i64 (nc : Int), .int .i64 n] 76)).drew := ((Below.refl w1.heap.size w1).al).drew
  have hbx2 : (w1.alloc (.cells #[.int .i64 1, .int .i64 op, .int .i64 (na : Int), .int .i64 (nb : Int), .int .i64 (nc : Int), .int .i64 n] 76)).drew.heap[w1.heap.size]? = some (.cells #[.int .i64 1, .int .i64 op, .int .i64 (na : Int), .int .i64 (nb : Int), .int .i64 (nc : Int), .int .i64 n] 76 (0, 0)) := blk_new w1 _
  generalize (w1.alloc (.cells #[.int .i64 1, .int .i64 op, .int .i64 (na : Int), .int .i64 (nb : Int), .int .i64 (nc : Int), .int .i64 n] 76)).drew = w2 at *
  clear f0 f1 f2 f3 f4 f5 hn0 hn1 hn2 hn3 hn4 hn5 hn16 hn20 c16 c20
  have f0 := blk_cell hbx2 0
  have f1 := blk_cell hbx2 1
  have f2 := blk_cell hbx2 2
  have f3 := blk_cell hbx2 3
  have f4 := blk_cell hbx2 4
  have f5 := blk_cell hbx2 5
  have HV2 := Lib.hid (HV1.out.keep hb2)
  have HB2 := Lib.hid hb2
  clear hb2 hbx2

  go_wp2_with (first | (go_at_call 28; go_must (refine (end_calls _ p _ _ words fuel first HV2.out HR.out _ _).mono ?_); rintro y w3 ⟨rfl, hd⟩; have HD := Lib.hid hd; clear hd))
  go_ret
  exact ⟨rfl, Did.keep K1.out (Did.below HB2.out HD.out)⟩
set_option maxRecDepth 100000 in
set_option maxHeartbeats 2000000 in
theorem step_fail (w : World) (p : Nat) (Ac : Option Addr) (l : List Ins) (cc : Nat) (words fuel : Int) (first : List Value) (rg : List Int) (j : Nat) (steps value : Int) (h : vmAt w p (St.cells ⟨rg, (j : Int), steps, 0, value⟩) (.slice Ac l.length cc) words fuel first) (hr : rg.length = 16) (hrow : insRow w l Ac) (hne : ∀ b o, Ac = some ⟨b, o, none⟩ → b ≠ p) (hj : j < l.length) (hl : l.length ≤ 100000) (op n : Int) (na nb nc : Nat) (ha : na < 16) (hb : nb < 16) (hc : nc < 16)
    (hx : l[j] = ⟨13, op, (na : Int), (nb : Int), (nc : Int), n⟩) (hst : steps ≠ fuel) (hs0 : 0 ≤ steps) (hs1 : steps ≤ 100000) (got : Int) :
    Calls Try.prog 12 #[.pointer (some ⟨p, 0, none⟩), .int .i64 got] w fun e w' => e = .returned (.bool true) ∧ Did w p (ended ⟨rg, (j : Int), steps + 1, 0, value⟩ 4 (St.reg ⟨rg, (j : Int), steps + 1, 0, value⟩ na)) (.slice Ac l.length cc) words fuel first w' := by
  obtain ⟨b, o, hA, hcell⟩ := hrow j hj
  rw [hx] at hcell
  have hbp := hne b o hA
  subst hA
  have c17 := (h.cell (i := 17) (by decide)).trans (St.cell17 hr)
  have c18 := (h.cell (i := 18) (by decide)).trans (St.cell18 hr)
  have c22 := h.c22
  have HV := Lib.hid h
  have HR := Lib.hid hr
  have HC := Lib.hid hcell
  have HP := Lib.hid hbp
  have hst' : (steps == fuel) = false := by simp [hst]
  have hj0 : (0 : Int) ≤ (j : Int) := by omega
  have hj1 : (j : Int) < (l.length : Int) := by omega
  have HA := Lib.hid (And.intro ha (And.intro hb hc))
  clear h hr hrow hne hx hcell hbp hst ha hb hc
  go_enter Try.func12, Try.ntmps12
  go_wp2
  go_quiet ((fail))
  go_wp2_with (refine wpList_store_vm (by rfl) 3 _ _ (by rfl) p 17 (by rfl) .i64 (steps + 1) (by rfl) (by kernel_rfl) (vm_drewN HV.out _) (by decide) ?_; intro w1 hw1 hk1; rw [St.set17 HR.out] at hw1)
  have hk1' := Keep.trans (O := fun k => k = p) (Keep.drewN (Keep.refl _ w) _) hk1 (fun _ _ e => e)
  have HG := Lib.hid (show w1.rangeAt b (o + j * 6) [.int .i64 13, .int .i64 op, .int .i64 (na : Int), .int .i64 (nb : Int), .int .i64 (nc : Int), .int .i64 n] from fun m u hu => hk1'.cellAt HP.out (HC.out m u hu))
  have K1 := Lib.hid hk1'
  have HV1 := Lib.hid hw1
  have c16 := (hw1.cell (i := 16) (by decide)).trans (St.cell16 (s := ⟨rg, (j : Int), steps + 1, 0, value⟩) HR.out)
  have c20 := hw1.c20
  clear hk1 hk1' hw1 c17 c18 c22
  have f0 : w1.cell? ⟨b, o + j * 6, none⟩ = some (.int .i64 13) := HG.out 0 _ rfl
  have hn0 := World.new_ne w1 _ f0
  have f1 : w1.cell? ⟨b, o + j * 6 + 1, none⟩ = some (.int .i64 op) := HG.out 1 _ rfl
  have hn1 := World.new_ne w1 _ f1
  have f2 : w1.cell? ⟨b, o + j * 6 + 2, none⟩ = some (.int .i64 (na : Int)) := HG.out 2 _ rfl
  have hn2 := World.new_ne w1 _ f2
  have f3 : w1.cell? ⟨b, o + j * 6 + 3, none⟩ = some (.int .i64 (nb : Int)) := HG.out 3 _ rfl
  have hn3 := World.new_ne w1 _ f3
  have f4 : w1.cell? ⟨b, o + j * 6 + 4, none⟩ = some (.int .i64 (nc : Int)) := HG.out 4 _ rfl
  have hn4 := World.new_ne w1 _ f4
  have f5 : w1.cell? ⟨b, o + j * 6 + 5, none⟩ = some (.int .i64 n) := HG.out 5 _ rfl
  have hn5 := World.new_ne w1 _ f5
  have hn16 := World.new_ne w1 _ c16
  have hn20 := World.new_ne w1 _ c20
  go_region_held3 (fun W => W.cell? ⟨p, 16, none⟩ = some (.int .i64 (j : Int)) ∧ W.cell? ⟨p, 20, none⟩ = some (.slice (some ⟨b, o, none⟩) l.length cc) ∧ W.cell? ⟨b, o + j * 6, none⟩ = some (.int .i64 13) ∧ W.cell? ⟨b, o + j * 6 + 1, none⟩ = some (.int .i64 op) ∧ W.cell? ⟨b, o + j * 6 + 2, none⟩ = some (.int .i64 (na : Int)) ∧ W.cell? ⟨b, o + j * 6 + 3, none⟩ = some (.int .i64 (nb : Int)) ∧ W.cell? ⟨b, o + j * 6 + 4, none⟩ = some (.int .i64 (nc : Int)) ∧ W.cell? ⟨b, o + j * 6 + 5, none⟩ = some (.int .i64 n)) (go_keep) (fail)
  have hb2 : Below w1.heap.size w1 (w1.alloc (.cells #[.int .i64 13, .int .i64 op, .int .i64 (na : Int), .int .i64 (nb : Int), .int .i64 (nc : Int), .int .i64 n] 76)).drew := ((Below.refl w1.heap.size w1).al).drew
  have hbx2 : (w1.alloc (.cells #[.int .i64 13, .int .i64 op, .int .i64 (na : Int), .int .i64 (nb : Int), .int .i64 (nc : Int), .int .i64 n] 76)).drew.heap[w1.heap.size]? = some (.cells #[.int .i64 13, .int .i64 op, .int .i64 (na : Int), .int .i64 (nb : Int), .int .i64 (nc : Int), .int .i64 n] 76 (0, 0)) := blk_new w1 _
  generalize (w1.alloc (.cells #[.int .i64 13, .int .i64 op, .int .i64 (na : Int), .int .i64 (nb : Int), .int .i64 (nc : Int), .int .i64 n] 76)).drew = w2 at *
  clear f0 f1 f2 f3 f4 f5 hn0 hn1 hn2 hn3 hn4 hn5 hn16 hn20 c16 c20
  have f0 := blk_cell hbx2 0
  have f1 := blk_cell hbx2 1
  have f2 := blk_cell hbx2 2
  have f3 := blk_cell hbx2 3
  have f4 := blk_cell hbx2 4
  have f5 := blk_cell hbx2 5
  have HV2 := Lib.hid (HV1.out.keep hb2)
  have HB2 := Lib.hid hb2
  clear hb2 hbx2
  have cr := (HV2.out.cell (i := na) (by have := HA.out.1; omega)).trans (St.cell (s := ⟨rg, (j : Int), steps + 1, 0, value⟩) HR.out HA.out.1)
  have ha0 : (0 : Int) ≤ (na : Int) := by omega
  have ha1 : (na : Int) < 16 := by have := HA.out.1; omega
  go_wp2
  go_still_tail 9, (by kernel_rfl)
  change wpList _ _ _ _ _ w2.drew
  have HV3 := Lib.hid (vm_drew HV2.out)
  have HK3 := Lib.hid (Keep.drew (Keep.refl (fun k => k = p) w2))
  generalize w2.drew = w4 at *
  clear HV2
  have HV2 := HV3
  go_wp2_with (first | (go_at_call 28; go_must (refine (end_calls _ p _ _ words fuel first HV2.out HR.out _ _).mono ?_); rintro y w3 ⟨rfl, hd⟩; have HD := Lib.hid hd; clear hd))
  go_ret
  exact ⟨rfl, Did.keep K1.out (Did.below HB2.out (Did.keep HK3.out HD.out))⟩
set_option maxRecDepth 100000 in
set_option maxHeartbeats 2000000 in
theorem step_mem6 (w : World) (p : Nat) (Ac : Option Addr) (l : List Ins) (cc : Nat) (words fuel : Int) (first : List Value) (rg : List Int) (j : Nat) (steps value : Int) (h : vmAt w p (St.cells ⟨rg, (j : Int), steps, 0, value⟩) (.slice Ac l.length cc) words fuel first) (hr : rg.length = 16) (hrow : insRow w l Ac) (hne : ∀ b o, Ac = some ⟨b, o, none⟩ → b ≠ p) (hj : j < l.length) (hl : l.length ≤ 100000) (op n : Int) (na nb nc : Nat) (ha : na < 16) (hb : nb < 16) (hc : nc < 16)
    (hx : l[j] = ⟨6, op, (na : Int), (nb : Int), (nc : Int), n⟩) (hst : steps ≠ fuel) (hs0 : 0 ≤ steps) (hs1 : steps ≤ 100000) (got : Int) :
    Calls Try.prog 12 #[.pointer (some ⟨p, 0, none⟩), .int .i64 got] w fun e w' => e = .returned (.bool true) ∧ Did w p (memS words ⟨rg, (j : Int), steps + 1, 0, value⟩ ⟨6, op, (na : Int), (nb : Int), (nc : Int), n⟩ got) (.slice Ac l.length cc) words fuel first w' := by
  obtain ⟨b, o, hA, hcell⟩ := hrow j hj
  rw [hx] at hcell
  have hbp := hne b o hA
  subst hA
  have c17 := (h.cell (i := 17) (by decide)).trans (St.cell17 hr)
  have c18 := (h.cell (i := 18) (by decide)).trans (St.cell18 hr)
  have c22 := h.c22
  have HV := Lib.hid h
  have HR := Lib.hid hr
  have HC := Lib.hid hcell
  have HP := Lib.hid hbp
  have hst' : (steps == fuel) = false := by simp [hst]
  have hj0 : (0 : Int) ≤ (j : Int) := by omega
  have hj1 : (j : Int) < (l.length : Int) := by omega
  have HA := Lib.hid (And.intro ha (And.intro hb hc))
  clear h hr hrow hne hx hcell hbp hst ha hb hc
  go_enter Try.func12, Try.ntmps12
  go_wp2
  go_quiet ((fail))
  go_wp2_with (refine wpList_store_vm (by rfl) 3 _ _ (by rfl) p 17 (by rfl) .i64 (steps + 1) (by rfl) (by kernel_rfl) (vm_drewN HV.out _) (by decide) ?_; intro w1 hw1 hk1; rw [St.set17 HR.out] at hw1)
  have hk1' := Keep.trans (O := fun k => k = p) (Keep.drewN (Keep.refl _ w) _) hk1 (fun _ _ e => e)
  have HG := Lib.hid (show w1.rangeAt b (o + j * 6) [.int .i64 6, .int .i64 op, .int .i64 (na : Int), .int .i64 (nb : Int), .int .i64 (nc : Int), .int .i64 n] from fun m u hu => hk1'.cellAt HP.out (HC.out m u hu))
  have K1 := Lib.hid hk1'
  have HV1 := Lib.hid hw1
  have c16 := (hw1.cell (i := 16) (by decide)).trans (St.cell16 (s := ⟨rg, (j : Int), steps + 1, 0, value⟩) HR.out)
  have c20 := hw1.c20
  clear hk1 hk1' hw1 c17 c18 c22
  have f0 : w1.cell? ⟨b, o + j * 6, none⟩ = some (.int .i64 6) := HG.out 0 _ rfl
  have hn0 := World.new_ne w1 _ f0
  have f1 : w1.cell? ⟨b, o + j * 6 + 1, none⟩ = some (.int .i64 op) := HG.out 1 _ rfl
  have hn1 := World.new_ne w1 _ f1
  have f2 : w1.cell? ⟨b, o + j * 6 + 2, none⟩ = some (.int .i64 (na : Int)) := HG.out 2 _ rfl
  have hn2 := World.new_ne w1 _ f2
  have f3 : w1.cell? ⟨b, o + j * 6 + 3, none⟩ = some (.int .i64 (nb : Int)) := HG.out 3 _ rfl
  have hn3 := World.new_ne w1 _ f3
  have f4 : w1.cell? ⟨b, o + j * 6 + 4, none⟩ = some (.int .i64 (nc : Int)) := HG.out 4 _ rfl
  have hn4 := World.new_ne w1 _ f4
  have f5 : w1.cell? ⟨b, o + j * 6 + 5, none⟩ = some (.int .i64 n) := HG.out 5 _ rfl
  have hn5 := World.new_ne w1 _ f5
  have hn16 := World.new_ne w1 _ c16
  have hn20 := World.new_ne w1 _ c20
  go_region_held3 (fun W => W.cell? ⟨p, 16, none⟩ = some (.int .i64 (j : Int)) ∧ W.cell? ⟨p, 20, none⟩ = some (.slice (some ⟨b, o, none⟩) l.length cc) ∧ W.cell? ⟨b, o + j * 6, none⟩ = some (.int .i64 6) ∧ W.cell? ⟨b, o + j * 6 + 1, none⟩ = some (.int .i64 op) ∧ W.cell? ⟨b, o + j * 6 + 2, none⟩ = some (.int .i64 (na : Int)) ∧ W.cell? ⟨b, o + j * 6 + 3, none⟩ = some (.int .i64 (nb : Int)) ∧ W.cell? ⟨b, o + j * 6 + 4, none⟩ = some (.int .i64 (nc : Int)) ∧ W.cell? ⟨b, o + j * 6 + 5, none⟩ = some (.int .i64 n)) (go_keep) (fail)
  have hb2 : Below w1.heap.size w1 (w1.alloc (.cells #[.int .i64 6, .int .i64 op, .int .i64 (na : Int), .int .i64 (nb : Int), .int .i64 (nc : Int), .int .i64 n] 76)).drew := ((Below.refl w1.heap.size w1).al).drew
  have hbx2 : (w1.alloc (.cells #[.int .i64 6, .int .i64 op, .int .i64 (na : Int), .int .i64 (nb : Int), .int .i64 (nc : Int), .int .i64 n] 76)).drew.heap[w1.heap.size]? = some (.cells #[.int .i64 6, .int .i64 op, .int .i64 (na : Int), .int .i64 (nb : Int), .int .i64 (nc : Int), .int .i64 n] 76 (0, 0)) := blk_new w1 _
  generalize (w1.alloc (.cells #[.int .i64 6, .int .i64 op, .int .i64 (na : Int), .int .i64 (nb : Int), .int .i64 (nc : Int), .int .i64 n] 76)).drew = w2 at *
  clear f0 f1 f2 f3 f4 f5 hn0 hn1 hn2 hn3 hn4 hn5 hn16 hn20 c16 c20
  have f0 := blk_cell hbx2 0
  have f1 := blk_cell hbx2 1
  have f2 := blk_cell hbx2 2
  have f3 := blk_cell hbx2 3
  have f4 := blk_cell hbx2 4
  have f5 := blk_cell hbx2 5
  have HV2 := Lib.hid (HV1.out.keep hb2)
  have HB2 := Lib.hid hb2
  clear hb2 hbx2

  go_wp2_with (first | (go_at_call 29; go_must (refine (memory_calls _ p _ _ words fuel first HV2.out HR.out ⟨6, op, (na : Int), (nb : Int), (nc : Int), n⟩ na nb rfl HA.out.1 rfl HA.out.2.1 (by simp) (by simp; omega) got).mono ?_); rintro y w3 ⟨rfl, hd⟩; have HD := Lib.hid hd; clear hd))
  go_ret
  exact ⟨rfl, Did.keep K1.out (Did.below HB2.out HD.out)⟩
set_option maxRecDepth 100000 in
set_option maxHeartbeats 2000000 in
theorem step_mem7 (w : World) (p : Nat) (Ac : Option Addr) (l : List Ins) (cc : Nat) (words fuel : Int) (first : List Value) (rg : List Int) (j : Nat) (steps value : Int) (h : vmAt w p (St.cells ⟨rg, (j : Int), steps, 0, value⟩) (.slice Ac l.length cc) words fuel first) (hr : rg.length = 16) (hrow : insRow w l Ac) (hne : ∀ b o, Ac = some ⟨b, o, none⟩ → b ≠ p) (hj : j < l.length) (hl : l.length ≤ 100000) (op n : Int) (na nb nc : Nat) (ha : na < 16) (hb : nb < 16) (hc : nc < 16)
    (hx : l[j] = ⟨7, op, (na : Int), (nb : Int), (nc : Int), n⟩) (hst : steps ≠ fuel) (hs0 : 0 ≤ steps) (hs1 : steps ≤ 100000) (got : Int) :
    Calls Try.prog 12 #[.pointer (some ⟨p, 0, none⟩), .int .i64 got] w fun e w' => e = .returned (.bool true) ∧ Did w p (memS words ⟨rg, (j : Int), steps + 1, 0, value⟩ ⟨7, op, (na : Int), (nb : Int), (nc : Int), n⟩ got) (.slice Ac l.length cc) words fuel first w' := by
  obtain ⟨b, o, hA, hcell⟩ := hrow j hj
  rw [hx] at hcell
  have hbp := hne b o hA
  subst hA
  have c17 := (h.cell (i := 17) (by decide)).trans (St.cell17 hr)
  have c18 := (h.cell (i := 18) (by decide)).trans (St.cell18 hr)
  have c22 := h.c22
  have HV := Lib.hid h
  have HR := Lib.hid hr
  have HC := Lib.hid hcell
  have HP := Lib.hid hbp
  have hst' : (steps == fuel) = false := by simp [hst]
  have hj0 : (0 : Int) ≤ (j : Int) := by omega
  have hj1 : (j : Int) < (l.length : Int) := by omega
  have HA := Lib.hid (And.intro ha (And.intro hb hc))
  clear h hr hrow hne hx hcell hbp hst ha hb hc
  go_enter Try.func12, Try.ntmps12
  go_wp2
  go_quiet ((fail))
  go_wp2_with (refine wpList_store_vm (by rfl) 3 _ _ (by rfl) p 17 (by rfl) .i64 (steps + 1) (by rfl) (by kernel_rfl) (vm_drewN HV.out _) (by decide) ?_; intro w1 hw1 hk1; rw [St.set17 HR.out] at hw1)
  have hk1' := Keep.trans (O := fun k => k = p) (Keep.drewN (Keep.refl _ w) _) hk1 (fun _ _ e => e)
  have HG := Lib.hid (show w1.rangeAt b (o + j * 6) [.int .i64 7, .int .i64 op, .int .i64 (na : Int), .int .i64 (nb : Int), .int .i64 (nc : Int), .int .i64 n] from fun m u hu => hk1'.cellAt HP.out (HC.out m u hu))
  have K1 := Lib.hid hk1'
  have HV1 := Lib.hid hw1
  have c16 := (hw1.cell (i := 16) (by decide)).trans (St.cell16 (s := ⟨rg, (j : Int), steps + 1, 0, value⟩) HR.out)
  have c20 := hw1.c20
  clear hk1 hk1' hw1 c17 c18 c22
  have f0 : w1.cell? ⟨b, o + j * 6, none⟩ = some (.int .i64 7) := HG.out 0 _ rfl
  have hn0 := World.new_ne w1 _ f0
  have f1 : w1.cell? ⟨b, o + j * 6 + 1, none⟩ = some (.int .i64 op) := HG.out 1 _ rfl
  have hn1 := World.new_ne w1 _ f1
  have f2 : w1.cell? ⟨b, o + j * 6 + 2, none⟩ = some (.int .i64 (na : Int)) := HG.out 2 _ rfl
  have hn2 := World.new_ne w1 _ f2
  have f3 : w1.cell? ⟨b, o + j * 6 + 3, none⟩ = some (.int .i64 (nb : Int)) := HG.out 3 _ rfl
  have hn3 := World.new_ne w1 _ f3
  have f4 : w1.cell? ⟨b, o + j * 6 + 4, none⟩ = some (.int .i64 (nc : Int)) := HG.out 4 _ rfl
  have hn4 := World.new_ne w1 _ f4
  have f5 : w1.cell? ⟨b, o + j * 6 + 5, none⟩ = some (.int .i64 n) := HG.out 5 _ rfl
  have hn5 := World.new_ne w1 _ f5
  have hn16 := World.new_ne w1 _ c16
  have hn20 := World.new_ne w1 _ c20
  go_region_held3 (fun W => W.cell? ⟨p, 16, none⟩ = some (.int .i64 (j : Int)) ∧ W.cell? ⟨p, 20, none⟩ = some (.slice (some ⟨b, o, none⟩) l.length cc) ∧ W.cell? ⟨b, o + j * 6, none⟩ = some (.int .i64 7) ∧ W.cell? ⟨b, o + j * 6 + 1, none⟩ = some (.int .i64 op) ∧ W.cell? ⟨b, o + j * 6 + 2, none⟩ = some (.int .i64 (na : Int)) ∧ W.cell? ⟨b, o + j * 6 + 3, none⟩ = some (.int .i64 (nb : Int)) ∧ W.cell? ⟨b, o + j * 6 + 4, none⟩ = some (.int .i64 (nc : Int)) ∧ W.cell? ⟨b, o + j * 6 + 5, none⟩ = some (.int .i64 n)) (go_keep) (fail)
  have hb2 : Below w1.heap.size w1 (w1.alloc (.cells #[.int .i64 7, .int .i64 op, .int .i64 (na : Int), .int .i64 (nb : Int), .int .i64 (nc : Int), .int .i64 n] 76)).drew := ((Below.refl w1.heap.size w1).al).drew
  have hbx2 : (w1.alloc (.cells #[.int .i64 7, .int .i64 op, .int .i64 (na : Int), .int .i64 (nb : Int), .int .i64 (nc : Int), .int .i64 n] 76)).drew.heap[w1.heap.size]? = some (.cells #[.int .i64 7, .int .i64 op, .int .i64 (na : Int), .int .i64 (nb : Int), .int .i64 (nc : Int), .int .i64 n] 76 (0, 0)) := blk_new w1 _
  generalize (w1.alloc (.cells #[.int .i64 7, .int .i64 op, .int .i64 (na : Int), .int .i64 (nb : Int), .int .i64 (nc : Int), .int .i64 n] 76)).drew = w2 at *
  clear f0 f1 f2 f3 f4 f5 hn0 hn1 hn2 hn3 hn4 hn5 hn16 hn20 c16 c20
  have f0 := blk_cell hbx2 0
  have f1 := blk_cell hbx2 1
  have f2 := blk_cell hbx2 2
  have f3 := blk_cell hbx2 3
  have f4 := blk_cell hbx2 4
  have f5 := blk_cell hbx2 5
  have HV2 := Lib.hid (HV1.out.keep hb2)
  have HB2 := Lib.hid hb2
  clear hb2 hbx2

  go_wp2_with (first | (go_at_call 29; go_must (refine (memory_calls _ p _ _ words fuel first HV2.out HR.out ⟨7, op, (na : Int), (nb : Int), (nc : Int), n⟩ na nb rfl HA.out.1 rfl HA.out.2.1 (by simp) (by simp; omega) got).mono ?_); rintro y w3 ⟨rfl, hd⟩; have HD := Lib.hid hd; clear hd))
  go_ret
  exact ⟨rfl, Did.keep K1.out (Did.below HB2.out HD.out)⟩
set_option maxRecDepth 100000 in
set_option maxHeartbeats 2000000 in
theorem step_br10 (w : World) (p : Nat) (Ac : Option Addr) (l : List Ins) (cc : Nat) (words fuel : Int) (first : List Value) (rg : List Int) (j : Nat) (steps value : Int) (h : vmAt w p (St.cells ⟨rg, (j : Int), steps, 0, value⟩) (.slice Ac l.length cc) words fuel first) (hr : rg.length = 16) (hrow : insRow w l Ac) (hne : ∀ b o, Ac = some ⟨b, o, none⟩ → b ≠ p) (hj : j < l.length) (hl : l.length ≤ 100000) (op n : Int) (na nb nc : Nat) (ha : na < 16) (hb : nb < 16) (hc : nc < 16)
    (hx : l[j] = ⟨10, op, (na : Int), (nb : Int), (nc : Int), n⟩) (hst : steps ≠ fuel) (hs0 : 0 ≤ steps) (hs1 : steps ≤ 100000) (got : Int) :
    Calls Try.prog 12 #[.pointer (some ⟨p, 0, none⟩), .int .i64 got] w fun e w' => e = .returned (.bool true) ∧ Did w p (branchS ⟨rg, (j : Int), steps + 1, 0, value⟩ ⟨10, op, (na : Int), (nb : Int), (nc : Int), n⟩) (.slice Ac l.length cc) words fuel first w' := by
  obtain ⟨b, o, hA, hcell⟩ := hrow j hj
  rw [hx] at hcell
  have hbp := hne b o hA
  subst hA
  have c17 := (h.cell (i := 17) (by decide)).trans (St.cell17 hr)
  have c18 := (h.cell (i := 18) (by decide)).trans (St.cell18 hr)
  have c22 := h.c22
  have HV := Lib.hid h
  have HR := Lib.hid hr
  have HC := Lib.hid hcell
  have HP := Lib.hid hbp
  have hst' : (steps == fuel) = false := by simp [hst]
  have hj0 : (0 : Int) ≤ (j : Int) := by omega
  have hj1 : (j : Int) < (l.length : Int) := by omega
  have HA := Lib.hid (And.intro ha (And.intro hb hc))
  clear h hr hrow hne hx hcell hbp hst ha hb hc
  go_enter Try.func12, Try.ntmps12
  go_wp2
  go_quiet ((fail))
  go_wp2_with (refine wpList_store_vm (by rfl) 3 _ _ (by rfl) p 17 (by rfl) .i64 (steps + 1) (by rfl) (by kernel_rfl) (vm_drewN HV.out _) (by decide) ?_; intro w1 hw1 hk1; rw [St.set17 HR.out] at hw1)
  have hk1' := Keep.trans (O := fun k => k = p) (Keep.drewN (Keep.refl _ w) _) hk1 (fun _ _ e => e)
  have HG := Lib.hid (show w1.rangeAt b (o + j * 6) [.int .i64 10, .int .i64 op, .int .i64 (na : Int), .int .i64 (nb : Int), .int .i64 (nc : Int), .int .i64 n] from fun m u hu => hk1'.cellAt HP.out (HC.out m u hu))
  have K1 := Lib.hid hk1'
  have HV1 := Lib.hid hw1
  have c16 := (hw1.cell (i := 16) (by decide)).trans (St.cell16 (s := ⟨rg, (j : Int), steps + 1, 0, value⟩) HR.out)
  have c20 := hw1.c20
  clear hk1 hk1' hw1 c17 c18 c22
  have f0 : w1.cell? ⟨b, o + j * 6, none⟩ = some (.int .i64 10) := HG.out 0 _ rfl
  have hn0 := World.new_ne w1 _ f0
  have f1 : w1.cell? ⟨b, o + j * 6 + 1, none⟩ = some (.int .i64 op) := HG.out 1 _ rfl
  have hn1 := World.new_ne w1 _ f1
  have f2 : w1.cell? ⟨b, o + j * 6 + 2, none⟩ = some (.int .i64 (na : Int)) := HG.out 2 _ rfl
  have hn2 := World.new_ne w1 _ f2
  have f3 : w1.cell? ⟨b, o + j * 6 + 3, none⟩ = some (.int .i64 (nb : Int)) := HG.out 3 _ rfl
  have hn3 := World.new_ne w1 _ f3
  have f4 : w1.cell? ⟨b, o + j * 6 + 4, none⟩ = some (.int .i64 (nc : Int)) := HG.out 4 _ rfl
  have hn4 := World.new_ne w1 _ f4
  have f5 : w1.cell? ⟨b, o + j * 6 + 5, none⟩ = some (.int .i64 n) := HG.out 5 _ rfl
  have hn5 := World.new_ne w1 _ f5
  have hn16 := World.new_ne w1 _ c16
  have hn20 := World.new_ne w1 _ c20
  go_region_held3 (fun W => W.cell? ⟨p, 16, none⟩ = some (.int .i64 (j : Int)) ∧ W.cell? ⟨p, 20, none⟩ = some (.slice (some ⟨b, o, none⟩) l.length cc) ∧ W.cell? ⟨b, o + j * 6, none⟩ = some (.int .i64 10) ∧ W.cell? ⟨b, o + j * 6 + 1, none⟩ = some (.int .i64 op) ∧ W.cell? ⟨b, o + j * 6 + 2, none⟩ = some (.int .i64 (na : Int)) ∧ W.cell? ⟨b, o + j * 6 + 3, none⟩ = some (.int .i64 (nb : Int)) ∧ W.cell? ⟨b, o + j * 6 + 4, none⟩ = some (.int .i64 (nc : Int)) ∧ W.cell? ⟨b, o + j * 6 + 5, none⟩ = some (.int .i64 n)) (go_keep) (fail)
  have hb2 : Below w1.heap.size w1 (w1.alloc (.cells #[.int .i64 10, .int .i64 op, .int .i64 (na : Int), .int .i64 (nb : Int), .int .i64 (nc : Int), .int .i64 n] 76)).drew := ((Below.refl w1.heap.size w1).al).drew
  have hbx2 : (w1.alloc (.cells #[.int .i64 10, .int .i64 op, .int .i64 (na : Int), .int .i64 (nb : Int), .int .i64 (nc : Int), .int .i64 n] 76)).drew.heap[w1.heap.size]? = some (.cells #[.int .i64 10, .int .i64 op, .int .i64 (na : Int), .int .i64 (nb : Int), .int .i64 (nc : Int), .int .i64 n] 76 (0, 0)) := blk_new w1 _
  generalize (w1.alloc (.cells #[.int .i64 10, .int .i64 op, .int .i64 (na : Int), .int .i64 (nb : Int), .int .i64 (nc : Int), .int .i64 n] 76)).drew = w2 at *
  clear f0 f1 f2 f3 f4 f5 hn0 hn1 hn2 hn3 hn4 hn5 hn16 hn20 c16 c20
  have f0 := blk_cell hbx2 0
  have f1 := blk_cell hbx2 1
  have f2 := blk_cell hbx2 2
  have f3 := blk_cell hbx2 3
  have f4 := blk_cell hbx2 4
  have f5 := blk_cell hbx2 5
  have HV2 := Lib.hid (HV1.out.keep hb2)
  have HB2 := Lib.hid hb2
  clear hb2 hbx2

  go_wp2_with (first | (go_at_call 30; go_must (refine (branch_calls _ p _ _ words fuel first HV2.out HR.out ⟨10, op, (na : Int), (nb : Int), (nc : Int), n⟩ na rfl HA.out.1 (by simp) (by simp; omega)).mono ?_); rintro y w3 ⟨rfl, hd⟩; have HD := Lib.hid hd; clear hd))
  go_ret
  exact ⟨rfl, Did.keep K1.out (Did.below HB2.out HD.out)⟩
set_option maxRecDepth 100000 in
set_option maxHeartbeats 2000000 in
theorem step_br11 (w : World) (p : Nat) (Ac : Option Addr) (l : List Ins) (cc : Nat) (words fuel : Int) (first : List Value) (rg : List Int) (j : Nat) (steps value : Int) (h : vmAt w p (St.cells ⟨rg, (j : Int), steps, 0, value⟩) (.slice Ac l.length cc) words fuel first) (hr : rg.length = 16) (hrow : insRow w l Ac) (hne : ∀ b o, Ac = some ⟨b, o, none⟩ → b ≠ p) (hj : j < l.length) (hl : l.length ≤ 100000) (op n : Int) (na nb nc : Nat) (ha : na < 16) (hb : nb < 16) (hc : nc < 16)
    (hx : l[j] = ⟨11, op, (na : Int), (nb : Int), (nc : Int), n⟩) (hst : steps ≠ fuel) (hs0 : 0 ≤ steps) (hs1 : steps ≤ 100000) (got : Int) :
    Calls Try.prog 12 #[.pointer (some ⟨p, 0, none⟩), .int .i64 got] w fun e w' => e = .returned (.bool true) ∧ Did w p (branchS ⟨rg, (j : Int), steps + 1, 0, value⟩ ⟨11, op, (na : Int), (nb : Int), (nc : Int), n⟩) (.slice Ac l.length cc) words fuel first w' := by
  obtain ⟨b, o, hA, hcell⟩ := hrow j hj
  rw [hx] at hcell
  have hbp := hne b o hA
  subst hA
  have c17 := (h.cell (i := 17) (by decide)).trans (St.cell17 hr)
  have c18 := (h.cell (i := 18) (by decide)).trans (St.cell18 hr)
  have c22 := h.c22
  have HV := Lib.hid h
  have HR := Lib.hid hr
  have HC := Lib.hid hcell
  have HP := Lib.hid hbp
  have hst' : (steps == fuel) = false := by simp [hst]
  have hj0 : (0 : Int) ≤ (j : Int) := by omega
  have hj1 : (j : Int) < (l.length : Int) := by omega
  have HA := Lib.hid (And.intro ha (And.intro hb hc))
  clear h hr hrow hne hx hcell hbp hst ha hb hc
  go_enter Try.func12, Try.ntmps12
  go_wp2
  go_quiet ((fail))
  go_wp2_with (refine wpList_store_vm (by rfl) 3 _ _ (by rfl) p 17 (by rfl) .i64 (steps + 1) (by rfl) (by kernel_rfl) (vm_drewN HV.out _) (by decide) ?_; intro w1 hw1 hk1; rw [St.set17 HR.out] at hw1)
  have hk1' := Keep.trans (O := fun k => k = p) (Keep.drewN (Keep.refl _ w) _) hk1 (fun _ _ e => e)
  have HG := Lib.hid (show w1.rangeAt b (o + j * 6) [.int .i64 11, .int .i64 op, .int .i64 (na : Int), .int .i64 (nb : Int), .int .i64 (nc : Int), .int .i64 n] from fun m u hu => hk1'.cellAt HP.out (HC.out m u hu))
  have K1 := Lib.hid hk1'
  have HV1 := Lib.hid hw1
  have c16 := (hw1.cell (i := 16) (by decide)).trans (St.cell16 (s := ⟨rg, (j : Int), steps + 1, 0, value⟩) HR.out)
  have c20 := hw1.c20
  clear hk1 hk1' hw1 c17 c18 c22
  have f0 : w1.cell? ⟨b, o + j * 6, none⟩ = some (.int .i64 11) := HG.out 0 _ rfl
  have hn0 := World.new_ne w1 _ f0
  have f1 : w1.cell? ⟨b, o + j * 6 + 1, none⟩ = some (.int .i64 op) := HG.out 1 _ rfl
  have hn1 := World.new_ne w1 _ f1
  have f2 : w1.cell? ⟨b, o + j * 6 + 2, none⟩ = some (.int .i64 (na : Int)) := HG.out 2 _ rfl
  have hn2 := World.new_ne w1 _ f2
  have f3 : w1.cell? ⟨b, o + j * 6 + 3, none⟩ = some (.int .i64 (nb : Int)) := HG.out 3 _ rfl
  have hn3 := World.new_ne w1 _ f3
  have f4 : w1.cell? ⟨b, o + j * 6 + 4, none⟩ = some (.int .i64 (nc : Int)) := HG.out 4 _ rfl
  have hn4 := World.new_ne w1 _ f4
  have f5 : w1.cell? ⟨b, o + j * 6 + 5, none⟩ = some (.int .i64 n) := HG.out 5 _ rfl
  have hn5 := World.new_ne w1 _ f5
  have hn16 := World.new_ne w1 _ c16
  have hn20 := World.new_ne w1 _ c20
  go_region_held3 (fun W => W.cell? ⟨p, 16, none⟩ = some (.int .i64 (j : Int)) ∧ W.cell? ⟨p, 20, none⟩ = some (.slice (some ⟨b, o, none⟩) l.length cc) ∧ W.cell? ⟨b, o + j * 6, none⟩ = some (.int .i64 11) ∧ W.cell? ⟨b, o + j * 6 + 1, none⟩ = some (.int .i64 op) ∧ W.cell? ⟨b, o + j * 6 + 2, none⟩ = some (.int .i64 (na : Int)) ∧ W.cell? ⟨b, o + j * 6 + 3, none⟩ = some (.int .i64 (nb : Int)) ∧ W.cell? ⟨b, o + j * 6 + 4, none⟩ = some (.int .i64 (nc : Int)) ∧ W.cell? ⟨b, o + j * 6 + 5, none⟩ = some (.int .i64 n)) (go_keep) (fail)
  have hb2 : Below w1.heap.size w1 (w1.alloc (.cells #[.int .i64 11, .int .i64 op, .int .i64 (na : Int), .int .i64 (nb : Int), .int .i64 (nc : Int), .int .i64 n] 76)).drew := ((Below.refl w1.heap.size w1).al).drew
  have hbx2 : (w1.alloc (.cells #[.int .i64 11, .int .i64 op, .int .i64 (na : Int), .int .i64 (nb : Int), .int .i64 (nc : Int), .int .i64 n] 76)).drew.heap[w1.heap.size]? = some (.cells #[.int .i64 11, .int .i64 op, .int .i64 (na : Int), .int .i64 (nb : Int), .int .i64 (nc : Int), .int .i64 n] 76 (0, 0)) := blk_new w1 _
  generalize (w1.alloc (.cells #[.int .i64 11, .int .i64 op, .int .i64 (na : Int), .int .i64 (nb : Int), .int .i64 (nc : Int), .int .i64 n] 76)).drew = w2 at *
  clear f0 f1 f2 f3 f4 f5 hn0 hn1 hn2 hn3 hn4 hn5 hn16 hn20 c16 c20
  have f0 := blk_cell hbx2 0
  have f1 := blk_cell hbx2 1
  have f2 := blk_cell hbx2 2
  have f3 := blk_cell hbx2 3
  have f4 := blk_cell hbx2 4
  have f5 := blk_cell hbx2 5
  have HV2 := Lib.hid (HV1.out.keep hb2)
  have HB2 := Lib.hid hb2
  clear hb2 hbx2

  go_wp2_with (first | (go_at_call 30; go_must (refine (branch_calls _ p _ _ words fuel first HV2.out HR.out ⟨11, op, (na : Int), (nb : Int), (nc : Int), n⟩ na rfl HA.out.1 (by simp) (by simp; omega)).mono ?_); rintro y w3 ⟨rfl, hd⟩; have HD := Lib.hid hd; clear hd))
  go_ret
  exact ⟨rfl, Did.keep K1.out (Did.below HB2.out HD.out)⟩
set_option maxRecDepth 100000 in
set_option maxHeartbeats 2000000 in
theorem step_br12 (w : World) (p : Nat) (Ac : Option Addr) (l : List Ins) (cc : Nat) (words fuel : Int) (first : List Value) (rg : List Int) (j : Nat) (steps value : Int) (h : vmAt w p (St.cells ⟨rg, (j : Int), steps, 0, value⟩) (.slice Ac l.length cc) words fuel first) (hr : rg.length = 16) (hrow : insRow w l Ac) (hne : ∀ b o, Ac = some ⟨b, o, none⟩ → b ≠ p) (hj : j < l.length) (hl : l.length ≤ 100000) (op n : Int) (na nb nc : Nat) (ha : na < 16) (hb : nb < 16) (hc : nc < 16)
    (hx : l[j] = ⟨12, op, (na : Int), (nb : Int), (nc : Int), n⟩) (hst : steps ≠ fuel) (hs0 : 0 ≤ steps) (hs1 : steps ≤ 100000) (got : Int) :
    Calls Try.prog 12 #[.pointer (some ⟨p, 0, none⟩), .int .i64 got] w fun e w' => e = .returned (.bool true) ∧ Did w p (branchS ⟨rg, (j : Int), steps + 1, 0, value⟩ ⟨12, op, (na : Int), (nb : Int), (nc : Int), n⟩) (.slice Ac l.length cc) words fuel first w' := by
  obtain ⟨b, o, hA, hcell⟩ := hrow j hj
  rw [hx] at hcell
  have hbp := hne b o hA
  subst hA
  have c17 := (h.cell (i := 17) (by decide)).trans (St.cell17 hr)
  have c18 := (h.cell (i := 18) (by decide)).trans (St.cell18 hr)
  have c22 := h.c22
  have HV := Lib.hid h
  have HR := Lib.hid hr
  have HC := Lib.hid hcell
  have HP := Lib.hid hbp
  have hst' : (steps == fuel) = false := by simp [hst]
  have hj0 : (0 : Int) ≤ (j : Int) := by omega
  have hj1 : (j : Int) < (l.length : Int) := by omega
  have HA := Lib.hid (And.intro ha (And.intro hb hc))
  clear h hr hrow hne hx hcell hbp hst ha hb hc
  go_enter Try.func12, Try.ntmps12
  go_wp2
  go_quiet ((fail))
  go_wp2_with (refine wpList_store_vm (by rfl) 3 _ _ (by rfl) p 17 (by rfl) .i64 (steps + 1) (by rfl) (by kernel_rfl) (vm_drewN HV.out _) (by decide) ?_; intro w1 hw1 hk1; rw [St.set17 HR.out] at hw1)
  have hk1' := Keep.trans (O := fun k => k = p) (Keep.drewN (Keep.refl _ w) _) hk1 (fun _ _ e => e)
  have HG := Lib.hid (show w1.rangeAt b (o + j * 6) [.int .i64 12, .int .i64 op, .int .i64 (na : Int), .int .i64 (nb : Int), .int .i64 (nc : Int), .int .i64 n] from fun m u hu => hk1'.cellAt HP.out (HC.out m u hu))
  have K1 := Lib.hid hk1'
  have HV1 := Lib.hid hw1
  have c16 := (hw1.cell (i := 16) (by decide)).trans (St.cell16 (s := ⟨rg, (j : Int), steps + 1, 0, value⟩) HR.out)
  have c20 := hw1.c20
  clear hk1 hk1' hw1 c17 c18 c22
  have f0 : w1.cell? ⟨b, o + j * 6, none⟩ = some (.int .i64 12) := HG.out 0 _ rfl
  have hn0 := World.new_ne w1 _ f0
  have f1 : w1.cell? ⟨b, o + j * 6 + 1, none⟩ = some (.int .i64 op) := HG.out 1 _ rfl
  have hn1 := World.new_ne w1 _ f1
  have f2 : w1.cell? ⟨b, o + j * 6 + 2, none⟩ = some (.int .i64 (na : Int)) := HG.out 2 _ rfl
  have hn2 := World.new_ne w1 _ f2
  have f3 : w1.cell? ⟨b, o + j * 6 + 3, none⟩ = some (.int .i64 (nb : Int)) := HG.out 3 _ rfl
  have hn3 := World.new_ne w1 _ f3
  have f4 : w1.cell? ⟨b, o + j * 6 + 4, none⟩ = some (.int .i64 (nc : Int)) := HG.out 4 _ rfl
  have hn4 := World.new_ne w1 _ f4
  have f5 : w1.cell? ⟨b, o + j * 6 + 5, none⟩ = some (.int .i64 n) := HG.out 5 _ rfl
  have hn5 := World.new_ne w1 _ f5
  have hn16 := World.new_ne w1 _ c16
  have hn20 := World.new_ne w1 _ c20
  go_region_held3 (fun W => W.cell? ⟨p, 16, none⟩ = some (.int .i64 (j : Int)) ∧ W.cell? ⟨p, 20, none⟩ = some (.slice (some ⟨b, o, none⟩) l.length cc) ∧ W.cell? ⟨b, o + j * 6, none⟩ = some (.int .i64 12) ∧ W.cell? ⟨b, o + j * 6 + 1, none⟩ = some (.int .i64 op) ∧ W.cell? ⟨b, o + j * 6 + 2, none⟩ = some (.int .i64 (na : Int)) ∧ W.cell? ⟨b, o + j * 6 + 3, none⟩ = some (.int .i64 (nb : Int)) ∧ W.cell? ⟨b, o + j * 6 + 4, none⟩ = some (.int .i64 (nc : Int)) ∧ W.cell? ⟨b, o + j * 6 + 5, none⟩ = some (.int .i64 n)) (go_keep) (fail)
  have hb2 : Below w1.heap.size w1 (w1.alloc (.cells #[.int .i64 12, .int .i64 op, .int .i64 (na : Int), .int .i64 (nb : Int), .int .i64 (nc : Int), .int .i64 n] 76)).drew := ((Below.refl w1.heap.size w1).al).drew
  have hbx2 : (w1.alloc (.cells #[.int .i64 12, .int .i64 op, .int .i64 (na : Int), .int .i64 (nb : Int), .int .i64 (nc : Int), .int .i64 n] 76)).drew.heap[w1.heap.size]? = some (.cells #[.int .i64 12, .int .i64 op, .int .i64 (na : Int), .int .i64 (nb : Int), .int .i64 (nc : Int), .int .i64 n] 76 (0, 0)) := blk_new w1 _
  generalize (w1.alloc (.cells #[.int .i64 12, .int .i64 op, .int .i64 (na : Int), .int .i64 (nb : Int), .int .i64 (nc : Int), .int .i64 n] 76)).drew = w2 at *
  clear f0 f1 f2 f3 f4 f5 hn0 hn1 hn2 hn3 hn4 hn5 hn16 hn20 c16 c20
  have f0 := blk_cell hbx2 0
  have f1 := blk_cell hbx2 1
  have f2 := blk_cell hbx2 2
  have f3 := blk_cell hbx2 3
  have f4 := blk_cell hbx2 4
  have f5 := blk_cell hbx2 5
  have HV2 := Lib.hid (HV1.out.keep hb2)
  have HB2 := Lib.hid hb2
  clear hb2 hbx2

  go_wp2_with (first | (go_at_call 30; go_must (refine (branch_calls _ p _ _ words fuel first HV2.out HR.out ⟨12, op, (na : Int), (nb : Int), (nc : Int), n⟩ na rfl HA.out.1 (by simp) (by simp; omega)).mono ?_); rintro y w3 ⟨rfl, hd⟩; have HD := Lib.hid hd; clear hd))
  go_ret
  exact ⟨rfl, Did.keep K1.out (Did.below HB2.out HD.out)⟩
set_option maxRecDepth 100000 in
set_option maxHeartbeats 2000000 in
theorem step_else (w : World) (p : Nat) (Ac : Option Addr) (l : List Ins) (cc : Nat) (words fuel : Int) (first : List Value) (rg : List Int) (j : Nat) (steps value : Int) (h : vmAt w p (St.cells ⟨rg, (j : Int), steps, 0, value⟩) (.slice Ac l.length cc) words fuel first) (hr : rg.length = 16) (hrow : insRow w l Ac) (hne : ∀ b o, Ac = some ⟨b, o, none⟩ → b ≠ p) (hj : j < l.length) (hl : l.length ≤ 100000) (K : Int) (op n : Int) (na nb nc : Nat) (ha : na < 16) (hb : nb < 16) (hc : nc < 16)
    (hx : l[j] = ⟨K, op, (na : Int), (nb : Int), (nc : Int), n⟩) (k1 : (K == 1) = false) (k13 : (K == 13) = false) (k6 : (K == 6) = false) (k7 : (K == 7) = false) (k10 : (K == 10) = false) (k11 : (K == 11) = false) (k12 : (K == 12) = false) (hst : steps ≠ fuel) (hs0 : 0 ≤ steps) (hs1 : steps ≤ 100000) (got : Int) :
    Calls Try.prog 12 #[.pointer (some ⟨p, 0, none⟩), .int .i64 got] w fun e w' => e = .returned (.bool true) ∧ Did w p (reckonS ⟨rg, (j : Int), steps + 1, 0, value⟩ ⟨K, op, (na : Int), (nb : Int), (nc : Int), n⟩) (.slice Ac l.length cc) words fuel first w' := by
  obtain ⟨b, o, hA, hcell⟩ := hrow j hj
  rw [hx] at hcell
  have hbp := hne b o hA
  subst hA
  have c17 := (h.cell (i := 17) (by decide)).trans (St.cell17 hr)
  have c18 := (h.cell (i := 18) (by decide)).trans (St.cell18 hr)
  have c22 := h.c22
  have HV := Lib.hid h
  have HR := Lib.hid hr
  have HC := Lib.hid hcell
  have HP := Lib.hid hbp
  have hst' : (steps == fuel) = false := by simp [hst]
  have hj0 : (0 : Int) ≤ (j : Int) := by omega
  have hj1 : (j : Int) < (l.length : Int) := by omega
  have HA := Lib.hid (And.intro ha (And.intro hb hc))
  clear h hr hrow hne hx hcell hbp hst ha hb hc
  go_enter Try.func12, Try.ntmps12
  go_wp2
  go_quiet ((fail))
  go_wp2_with (refine wpList_store_vm (by rfl) 3 _ _ (by rfl) p 17 (by rfl) .i64 (steps + 1) (by rfl) (by kernel_rfl) (vm_drewN HV.out _) (by decide) ?_; intro w1 hw1 hk1; rw [St.set17 HR.out] at hw1)
  have hk1' := Keep.trans (O := fun k => k = p) (Keep.drewN (Keep.refl _ w) _) hk1 (fun _ _ e => e)
  have HG := Lib.hid (show w1.rangeAt b (o + j * 6) [.int .i64 K, .int .i64 op, .int .i64 (na : Int), .int .i64 (nb : Int), .int .i64 (nc : Int), .int .i64 n] from fun m u hu => hk1'.cellAt HP.out (HC.out m u hu))
  have K1 := Lib.hid hk1'
  have HV1 := Lib.hid hw1
  have c16 := (hw1.cell (i := 16) (by decide)).trans (St.cell16 (s := ⟨rg, (j : Int), steps + 1, 0, value⟩) HR.out)
  have c20 := hw1.c20
  clear hk1 hk1' hw1 c17 c18 c22
  have f0 : w1.cell? ⟨b, o + j * 6, none⟩ = some (.int .i64 K) := HG.out 0 _ rfl
  have hn0 := World.new_ne w1 _ f0
  have f1 : w1.cell? ⟨b, o + j * 6 + 1, none⟩ = some (.int .i64 op) := HG.out 1 _ rfl
  have hn1 := World.new_ne w1 _ f1
  have f2 : w1.cell? ⟨b, o + j * 6 + 2, none⟩ = some (.int .i64 (na : Int)) := HG.out 2 _ rfl
  have hn2 := World.new_ne w1 _ f2
  have f3 : w1.cell? ⟨b, o + j * 6 + 3, none⟩ = some (.int .i64 (nb : Int)) := HG.out 3 _ rfl
  have hn3 := World.new_ne w1 _ f3
  have f4 : w1.cell? ⟨b, o + j * 6 + 4, none⟩ = some (.int .i64 (nc : Int)) := HG.out 4 _ rfl
  have hn4 := World.new_ne w1 _ f4
  have f5 : w1.cell? ⟨b, o + j * 6 + 5, none⟩ = some (.int .i64 n) := HG.out 5 _ rfl
  have hn5 := World.new_ne w1 _ f5
  have hn16 := World.new_ne w1 _ c16
  have hn20 := World.new_ne w1 _ c20
  go_region_held3 (fun W => W.cell? ⟨p, 16, none⟩ = some (.int .i64 (j : Int)) ∧ W.cell? ⟨p, 20, none⟩ = some (.slice (some ⟨b, o, none⟩) l.length cc) ∧ W.cell? ⟨b, o + j * 6, none⟩ = some (.int .i64 K) ∧ W.cell? ⟨b, o + j * 6 + 1, none⟩ = some (.int .i64 op) ∧ W.cell? ⟨b, o + j * 6 + 2, none⟩ = some (.int .i64 (na : Int)) ∧ W.cell? ⟨b, o + j * 6 + 3, none⟩ = some (.int .i64 (nb : Int)) ∧ W.cell? ⟨b, o + j * 6 + 4, none⟩ = some (.int .i64 (nc : Int)) ∧ W.cell? ⟨b, o + j * 6 + 5, none⟩ = some (.int .i64 n)) (go_keep) (fail)
  have hb2 : Below w1.heap.size w1 (w1.alloc (.cells #[.int .i64 K, .int .i64 op, .int .i64 (na : Int), .int .i64 (nb : Int), .int .i64 (nc : Int), .int .i64 n] 76)).drew := ((Below.refl w1.heap.size w1).al).drew
  have hbx2 : (w1.alloc (.cells #[.int .i64 K, .int .i64 op, .int .i64 (na : Int), .int .i64 (nb : Int), .int .i64 (nc : Int), .int .i64 n] 76)).drew.heap[w1.heap.size]? = some (.cells #[.int .i64 K, .int .i64 op, .int .i64 (na : Int), .int .i64 (nb : Int), .int .i64 (nc : Int), .int .i64 n] 76 (0, 0)) := blk_new w1 _
  generalize (w1.alloc (.cells #[.int .i64 K, .int .i64 op, .int .i64 (na : Int), .int .i64 (nb : Int), .int .i64 (nc : Int), .int .i64 n] 76)).drew = w2 at *
  clear f0 f1 f2 f3 f4 f5 hn0 hn1 hn2 hn3 hn4 hn5 hn16 hn20 c16 c20
  have f0 := blk_cell hbx2 0
  have f1 := blk_cell hbx2 1
  have f2 := blk_cell hbx2 2
  have f3 := blk_cell hbx2 3
  have f4 := blk_cell hbx2 4
  have f5 := blk_cell hbx2 5
  have HV2 := Lib.hid (HV1.out.keep hb2)
  have HB2 := Lib.hid hb2
  clear hb2 hbx2

  go_wp2_with (first | (go_at_call 31; go_must (refine (reckon_calls _ p _ _ words fuel first HV2.out HR.out ⟨K, op, (na : Int), (nb : Int), (nc : Int), n⟩ na nb nc rfl HA.out.1 rfl HA.out.2.1 rfl HA.out.2.2 (by simp) (by simp; omega)).mono ?_); rintro y w3 ⟨rfl, hd⟩; have HD := Lib.hid hd; clear hd))
  go_ret
  exact ⟨rfl, Did.keep K1.out (Did.below HB2.out HD.out)⟩
/-- an instruction's registers are registers -/
def okR (x : Ins) : Prop := (0 ≤ x.a ∧ x.a < 16) ∧ (0 ≤ x.b ∧ x.b < 16) ∧ (0 ≤ x.c ∧ x.c < 16)
theorem step_calls (w : World) (p : Nat) (Ac : Option Addr) (l : List Ins) (cc : Nat) (words fuel : Int) (first : List Value) (s : St) (h : vmAt w p s.cells (.slice Ac l.length cc) words fuel first) (hr : s.rg.length = 16) (hrow : insRow w l Ac) (hne : ∀ b o, Ac = some ⟨b, o, none⟩ → b ≠ p)
    (hl : l.length ≤ 100000) (hok : ∀ x ∈ l, okR x) (ha0 : 0 ≤ s.at0) (ha1 : s.at0 < l.length) (hs0 : 0 ≤ s.steps) (hs1 : s.steps ≤ 100000) (got : Int) :
    Calls Try.prog 12 #[.pointer (some ⟨p, 0, none⟩), .int .i64 got] w fun e w' => e = .returned (.bool (s.over == 0)) ∧ Did w p (stepS l words fuel s got) (.slice Ac l.length cc) words fuel first w' := by
  obtain ⟨rg, at0, steps, over, value⟩ := s
  simp only at hr ha0 ha1 hs0 hs1
  by_cases hov : over = 0
  · subst hov
    by_cases hst : steps = fuel
    · have := step_spent w p Ac l cc words fuel first rg at0 steps value h hr hst got
      rwa [show stepS l words fuel ⟨rg, at0, steps, 0, value⟩ got = ended ⟨rg, at0, steps, 0, value⟩ 5 0 from by simp [stepS, hst]]
    · obtain ⟨j, rfl⟩ : ∃ j : Nat, at0 = j := ⟨at0.toNat, by omega⟩
      have hj : j < l.length := by omega
      have hx := hok _ (List.getElem_mem hj)
      obtain ⟨K, op, a, b, c, n, hxe⟩ : ∃ K op a b c n, l[j] = (⟨K, op, a, b, c, n⟩ : Ins) := ⟨_, _, _, _, _, _, rfl⟩
      rw [hxe] at hx
      obtain ⟨⟨hA0, hA1⟩, ⟨hB0, hB1⟩, hC0, hC1⟩ := hx
      simp only at hA0 hA1 hB0 hB1 hC0 hC1
      obtain ⟨na, rfl⟩ : ∃ i : Nat, a = i := ⟨a.toNat, by omega⟩
      obtain ⟨nb, rfl⟩ : ∃ i : Nat, b = i := ⟨b.toNat, by omega⟩
      obtain ⟨nc, rfl⟩ : ∃ i : Nat, c = i := ⟨c.toNat, by omega⟩
      have hS : stepS l words fuel ⟨rg, (j : Int), steps, 0, value⟩ got = doS words ⟨rg, (j : Int), steps + 1, 0, value⟩ ⟨K, op, na, nb, nc, n⟩ got := by
        simp only [stepS, if_true, if_neg hst, Int.toNat_natCast, List.getD, List.getElem?_eq_getElem hj, Option.getD_some, hxe]
      rw [hS]
      by_cases h1 : K = 1
      · subst h1
        have := step_halt w p Ac l cc words fuel first rg j steps value h hr hrow hne hj hl op n na nb nc (by omega) (by omega) (by omega) hxe hst hs0 hs1 got
        rwa [show doS words ⟨rg, (j : Int), steps + 1, 0, value⟩ ⟨1, op, na, nb, nc, n⟩ got = ended ⟨rg, (j : Int), steps + 1, 0, value⟩ 1 0 from by simp [doS]]
      by_cases h13 : K = 13
      · subst h13
        have := step_fail w p Ac l cc words fuel first rg j steps value h hr hrow hne hj hl op n na nb nc (by omega) (by omega) (by omega) hxe hst hs0 hs1 got
        rwa [show doS words ⟨rg, (j : Int), steps + 1, 0, value⟩ ⟨13, op, na, nb, nc, n⟩ got = ended ⟨rg, (j : Int), steps + 1, 0, value⟩ 4 (St.reg ⟨rg, (j : Int), steps + 1, 0, value⟩ na) from by simp [doS]]
      by_cases h6 : K = 6
      · subst h6
        have := step_mem6 w p Ac l cc words fuel first rg j steps value h hr hrow hne hj hl op n na nb nc (by omega) (by omega) (by omega) hxe hst hs0 hs1 got
        rwa [show doS words ⟨rg, (j : Int), steps + 1, 0, value⟩ ⟨6, op, na, nb, nc, n⟩ got = memS words ⟨rg, (j : Int), steps + 1, 0, value⟩ ⟨6, op, na, nb, nc, n⟩ got from by simp [doS]]
      by_cases h7 : K = 7
      · subst h7
        have := step_mem7 w p Ac l cc words fuel first rg j steps value h hr hrow hne hj hl op n na nb nc (by omega) (by omega) (by omega) hxe hst hs0 hs1 got
        rwa [show doS words ⟨rg, (j : Int), steps + 1, 0, value⟩ ⟨7, op, na, nb, nc, n⟩ got = memS words ⟨rg, (j : Int), steps + 1, 0, value⟩ ⟨7, op, na, nb, nc, n⟩ got from by simp [doS]]
      by_cases h10 : K = 10
      · subst h10
        have := step_br10 w p Ac l cc words fuel first rg j steps value h hr hrow hne hj hl op n na nb nc (by omega) (by omega) (by omega) hxe hst hs0 hs1 got
        rwa [show doS words ⟨rg, (j : Int), steps + 1, 0, value⟩ ⟨10, op, na, nb, nc, n⟩ got = branchS ⟨rg, (j : Int), steps + 1, 0, value⟩ ⟨10, op, na, nb, nc, n⟩ from by simp [doS]]
      by_cases h11 : K = 11
      · subst h11
        have := step_br11 w p Ac l cc words fuel first rg j steps value h hr hrow hne hj hl op n na nb nc (by omega) (by omega) (by omega) hxe hst hs0 hs1 got
        rwa [show doS words ⟨rg, (j : Int), steps + 1, 0, value⟩ ⟨11, op, na, nb, nc, n⟩ got = branchS ⟨rg, (j : Int), steps + 1, 0, value⟩ ⟨11, op, na, nb, nc, n⟩ from by simp [doS]]
      by_cases h12 : K = 12
      · subst h12
        have := step_br12 w p Ac l cc words fuel first rg j steps value h hr hrow hne hj hl op n na nb nc (by omega) (by omega) (by omega) hxe hst hs0 hs1 got
        rwa [show doS words ⟨rg, (j : Int), steps + 1, 0, value⟩ ⟨12, op, na, nb, nc, n⟩ got = branchS ⟨rg, (j : Int), steps + 1, 0, value⟩ ⟨12, op, na, nb, nc, n⟩ from by simp [doS]]
      have := step_else w p Ac l cc words fuel first rg j steps value h hr hrow hne hj hl K op n na nb nc (by omega) (by omega) (by omega) hxe (by simp [h1]) (by simp [h13]) (by simp [h6]) (by simp [h7]) (by simp [h10]) (by simp [h11]) (by simp [h12]) hst hs0 hs1 got
      rwa [show doS words ⟨rg, (j : Int), steps + 1, 0, value⟩ ⟨K, op, na, nb, nc, n⟩ got = reckonS ⟨rg, (j : Int), steps + 1, 0, value⟩ ⟨K, op, na, nb, nc, n⟩ from by simp [doS, h1, h13, h6, h7, h10, h11, h12]]
  · have := step_over w p Ac l cc words fuel first rg at0 steps over value h hr hov got
    rwa [show stepS l words fuel ⟨rg, at0, steps, over, value⟩ got = ⟨rg, at0, steps, over, value⟩ from by simp [stepS, hov], show (over == 0) = false from by simp [hov]]
end Go.Proofs.Ytnikcdcaaeljmaa.My
