/- What a machine wants. Conditions: the machine lies in memory, its instructions' registers are registers, and its place is one of its text. -/
import Derived.Test.YtnikcdcaaeljmaaVmT
namespace Go.Proofs.Ytnikcdcaaeljmaa.My
open Go.RowKit
set_option linter.unusedVariables false
set_option linter.unusedSimpArgs false
theorem _root_.Go.RowKit.Below.cellOf {w w' : World} (hB : Below w.heap.size w w') {a : Addr} {v : Value} (h : w.cell? a = some v) : w'.cell? a = some v := (hB.cell (World.block_lt_of_cell? w _ h)).trans h
def wantV (k a v : Int) : List Value := [.int .i64 k, .int .i64 a, .int .i64 v]
def wantX (words : Int) (s : St) (x : Ins) : Int × Int × Int :=
  if x.kind = 6 then (if insideB (addr s x) words = true then (1, addr s x, 0) else (0, 0, 0))
  else if x.kind = 7 then (if insideB (addr s x) words = true then (2, addr s x, s.reg x.a.toNat) else (0, 0, 0))
  else if x.kind = 8 then (3, x.c, s.reg x.a.toNat) else if x.kind = 9 then (4, 0, s.reg x.a.toNat) else (0, 0, 0)
/-- what a machine wants: the kind, the place, the value -/
def wantS (l : List Ins) (words fuel : Int) (s : St) : Int × Int × Int :=
  if s.over = 0 ∧ s.steps ≠ fuel then wantX words s (l.getD s.at0.toNat default) else (0, 0, 0)
theorem want_fin {P : Program} {fn : Func} {t : Tmp} {ty : TypeId} {d : TypeDesc} {w w3 : World} {b : Nat} {a : Act} {k x v : Int} (h : fn.results = #[.cell t ty]) (ht : a.tmps.getD t undef = .pointer (some ⟨b, 0, none⟩)) (hd0 : a.defers = []) (hth : w3.there b 0 3) (hb : Below w.heap.size w w3) (hge : w.heap.size ≤ b)
    (hu : P.underlying ty = some d) (hd : d.isRow = true) (hi : (P.info? ty).map (·.size) = some 3) {R : Ending → World → Prop} (hR : ∀ w', Below w.heap.size w w' → R (.returned (.agg #[.int .i64 k, .int .i64 x, .int .i64 v])) w') :
    bodyPost P fn R .ret a (w3.setCells b 0 (wantV k x v)) :=
  bodyPost_ret (results_cell h _ _ b (wantV k x v) ht (World.rangeAt_setCells_same w3 b 0 _ hth) hu hd hi) hd0 (hR _ (below_sets hge _ 0 hb))
set_option maxRecDepth 100000 in
set_option maxHeartbeats 1000000 in
theorem want_over (w : World) (p : Nat) (Ac : Option Addr) (l : List Ins) (cc : Nat) (words fuel : Int) (first : List Value) (rg : List Int) (at0 steps over value : Int) (h : vmAt w p (St.cells ⟨rg, at0, steps, over, value⟩) (.slice Ac l.length cc) words fuel first) (hr : rg.length = 16) (hov : over ≠ 0) :
    Calls Try.prog 11 #[.pointer (some ⟨p, 0, none⟩)] w fun e w' => e = .returned (.agg #[.int .i64 0, .int .i64 0, .int .i64 0]) ∧ Below w.heap.size w w' := by
  have HB0 := Lib.hid (Below.al (Below.refl w.heap.size w) (o := .cells #[.int .i64 0, .int .i64 0, .int .i64 0] 35))
  have hbx := blk_new w (.cells #[.int .i64 0, .int .i64 0, .int .i64 0] 35)
  have hk := h.keep HB0.out
  generalize hw0 : w.alloc (.cells #[.int .i64 0, .int .i64 0, .int .i64 0] 35) = w0 at HB0 hbx hk
  have C17 := Lib.hid ((hk.cell (i := 17) (by decide)).trans (St.cell17 hr))
  have C18 := Lib.hid ((hk.cell (i := 18) (by decide)).trans (St.cell18 hr))
  have C22 := Lib.hid hk.c22
  have HT := Lib.hid (there_at hbx 0 3 (by decide))
  have HW := Lib.hid hw0
  have hov' : (over == 0) = false := by simp [hov]
  clear hbx hk h hr hw0
  go_enter Try.func11, Try.ntmps11
  go_wp2
  rw [HW.out]
  have c17 := C17.out
  have c18 := C18.out
  have c22 := C22.out
  go_quiet ((fail))
  clear c17 c18 c22
  go_wp2_with (refine wpList_store_mid (by rfl) 35 _ _ (by rfl) w.heap.size 0 #[.int .i64 0, .int .i64 0, .int .i64 0] (by rfl) (by rfl) (there_drewN HT.out _) (by kernel_rfl) (by simp [Value.oneCell']) ?_)
  exact want_fin rfl rfl rfl (there_drewN HT.out _) (below_drewN HB0.out _) (Nat.le_refl _) Try.underlying35 rfl (by kernel_rfl) (fun w' hw' => ⟨rfl, hw'⟩)
set_option maxRecDepth 100000 in
set_option maxHeartbeats 1000000 in
theorem want_spent (w : World) (p : Nat) (Ac : Option Addr) (l : List Ins) (cc : Nat) (words fuel : Int) (first : List Value) (rg : List Int) (at0 steps value : Int) (h : vmAt w p (St.cells ⟨rg, at0, steps, 0, value⟩) (.slice Ac l.length cc) words fuel first) (hr : rg.length = 16) (hst : steps = fuel) :
    Calls Try.prog 11 #[.pointer (some ⟨p, 0, none⟩)] w fun e w' => e = .returned (.agg #[.int .i64 0, .int .i64 0, .int .i64 0]) ∧ Below w.heap.size w w' := by
  have HB0 := Lib.hid (Below.al (Below.refl w.heap.size w) (o := .cells #[.int .i64 0, .int .i64 0, .int .i64 0] 35))
  have hbx := blk_new w (.cells #[.int .i64 0, .int .i64 0, .int .i64 0] 35)
  have hk := h.keep HB0.out
  generalize hw0 : w.alloc (.cells #[.int .i64 0, .int .i64 0, .int .i64 0] 35) = w0 at HB0 hbx hk
  have C17 := Lib.hid ((hk.cell (i := 17) (by decide)).trans (St.cell17 hr))
  have C18 := Lib.hid ((hk.cell (i := 18) (by decide)).trans (St.cell18 hr))
  have C22 := Lib.hid hk.c22
  have HT := Lib.hid (there_at hbx 0 3 (by decide))
  have HW := Lib.hid hw0
  have hst' : (steps == fuel) = true := by simp [hst]
  clear hbx hk h hr hw0
  go_enter Try.func11, Try.ntmps11
  go_wp2
  rw [HW.out]
  have c17 := C17.out
  have c18 := C18.out
  have c22 := C22.out
  go_quiet ((fail))
  clear c17 c18 c22
  go_wp2_with (refine wpList_store_mid (by rfl) 35 _ _ (by rfl) w.heap.size 0 #[.int .i64 0, .int .i64 0, .int .i64 0] (by rfl) (by rfl) (there_drewN HT.out _) (by kernel_rfl) (by simp [Value.oneCell']) ?_)
  exact want_fin rfl rfl rfl (there_drewN HT.out _) (below_drewN HB0.out _) (Nat.le_refl _) Try.underlying35 rfl (by kernel_rfl) (fun w' hw' => ⟨rfl, hw'⟩)
set_option maxRecDepth 100000 in
set_option maxHeartbeats 2000000 in
theorem want_into (w : World) (p : Nat) (Ac : Option Addr) (l : List Ins) (cc : Nat) (words fuel : Int) (first : List Value) (rg : List Int) (j : Nat) (steps value : Int) (h : vmAt w p (St.cells ⟨rg, (j : Int), steps, 0, value⟩) (.slice Ac l.length cc) words fuel first) (hr : rg.length = 16) (hrow : insRow w l Ac) (hj : j < l.length) (hl : l.length ≤ 100000) (op n : Int) (na nb nc : Nat) (ha : na < 16) (hb : nb < 16)
    (hx : l[j] = ⟨8, op, (na : Int), (nb : Int), (nc : Int), n⟩) (hst : steps ≠ fuel) (av : Int) (hav : addr ⟨rg, (j : Int), steps, 0, value⟩ ⟨8, op, (na : Int), (nb : Int), (nc : Int), n⟩ = av) :
    Calls Try.prog 11 #[.pointer (some ⟨p, 0, none⟩)] w fun e w' => e = .returned (.agg #[.int .i64 3, .int .i64 (nc : Int), .int .i64 (St.reg ⟨rg, (j : Int), steps, 0, value⟩ na)]) ∧ Below w.heap.size w w' := by
  obtain ⟨b, o, hA, hcell⟩ := hrow j hj
  rw [hx] at hcell
  subst hA
  have HB0 := Lib.hid (Below.al (Below.refl w.heap.size w) (o := .cells #[.int .i64 0, .int .i64 0, .int .i64 0] 35))
  have hbx := blk_new w (.cells #[.int .i64 0, .int .i64 0, .int .i64 0] 35)
  have hk := h.keep HB0.out
  generalize hw0 : w.alloc (.cells #[.int .i64 0, .int .i64 0, .int .i64 0] 35) = w0 at HB0 hbx hk
  have C17 := Lib.hid ((hk.cell (i := 17) (by decide)).trans (St.cell17 hr))
  have C18 := Lib.hid ((hk.cell (i := 18) (by decide)).trans (St.cell18 hr))
  have C22 := Lib.hid hk.c22
  have HX := Lib.hid hbx
  have HW := Lib.hid hw0
  have HV := Lib.hid hk
  have HR := Lib.hid hr
  have HC := Lib.hid hcell
  have hst' : (steps == fuel) = false := by simp [hst]
  have hj0 : (0 : Int) ≤ (j : Int) := by omega
  have hj1 : (j : Int) < (l.length : Int) := by omega
  have HA := Lib.hid (And.intro ha hb)
  have HAV := Lib.hid hav
  clear hbx hk h hr hw0 hrow hx hcell hst ha hb hav
  go_enter Try.func11, Try.ntmps11
  go_wp2
  rw [HW.out]
  have c17 := C17.out
  have c18 := C18.out
  have c22 := C22.out
  go_quiet ((fail))
  clear c17 c18 c22
  go_wp2
  have hb1 := below_drewN HB0.out nq
  have hx1 : (w0.drewN nq).heap[w.heap.size]? = _ := HX.out
  have hv1 := vm_drewN HV.out nq
  generalize w0.drewN nq = w1 at *
  have HB1 := Lib.hid hb1
  have HX1 := Lib.hid hx1
  have HV1 := Lib.hid hv1
  have c16 := (hv1.cell (i := 16) (by decide)).trans (St.cell16 (s := ⟨rg, (j : Int), steps, 0, value⟩) HR.out)
  have c20 := hv1.c20
  clear hb1 hx1 hv1
  have f0 : w1.cell? ⟨b, o + j * 6, none⟩ = some (.int .i64 8) := HB1.out.cellOf (HC.out 0 _ rfl)
  have hn0 := World.new_ne w1 _ f0
  have f1 : w1.cell? ⟨b, o + j * 6 + 1, none⟩ = some (.int .i64 op) := HB1.out.cellOf (HC.out 1 _ rfl)
  have hn1 := World.new_ne w1 _ f1
  have f2 : w1.cell? ⟨b, o + j * 6 + 2, none⟩ = some (.int .i64 (na : Int)) := HB1.out.cellOf (HC.out 2 _ rfl)
  have hn2 := World.new_ne w1 _ f2
  have f3 : w1.cell? ⟨b, o + j * 6 + 3, none⟩ = some (.int .i64 (nb : Int)) := HB1.out.cellOf (HC.out 3 _ rfl)
  have hn3 := World.new_ne w1 _ f3
  have f4 : w1.cell? ⟨b, o + j * 6 + 4, none⟩ = some (.int .i64 (nc : Int)) := HB1.out.cellOf (HC.out 4 _ rfl)
  have hn4 := World.new_ne w1 _ f4
  have f5 : w1.cell? ⟨b, o + j * 6 + 5, none⟩ = some (.int .i64 n) := HB1.out.cellOf (HC.out 5 _ rfl)
  have hn5 := World.new_ne w1 _ f5
  have hn16 := World.new_ne w1 _ c16
  have hn20 := World.new_ne w1 _ c20
  go_region_held3 (fun W => W.cell? ⟨p, 16, none⟩ = some (.int .i64 (j : Int)) ∧ W.cell? ⟨p, 20, none⟩ = some (.slice (some ⟨b, o, none⟩) l.length cc) ∧ W.cell? ⟨b, o + j * 6, none⟩ = some (.int .i64 8) ∧ W.cell? ⟨b, o + j * 6 + 1, none⟩ = some (.int .i64 op) ∧ W.cell? ⟨b, o + j * 6 + 2, none⟩ = some (.int .i64 (na : Int)) ∧ W.cell? ⟨b, o + j * 6 + 3, none⟩ = some (.int .i64 (nb : Int)) ∧ W.cell? ⟨b, o + j * 6 + 4, none⟩ = some (.int .i64 (nc : Int)) ∧ W.cell? ⟨b, o + j * 6 + 5, none⟩ = some (.int .i64 n)) (go_keep) (fail)
  have hb2 : Below w1.heap.size w1 (w1.alloc (.cells #[.int .i64 8, .int .i64 op, .int .i64 (na : Int), .int .i64 (nb : Int), .int .i64 (nc : Int), .int .i64 n] 76)).drew := ((Below.refl w1.heap.size w1).al).drew
  have hbx2 : (w1.alloc (.cells #[.int .i64 8, .int .i64 op, .int .i64 (na : Int), .int .i64 (nb : Int), .int .i64 (nc : Int), .int .i64 n] 76)).drew.heap[w1.heap.size]? = some (.cells #[.int .i64 8, .int .i64 op, .int .i64 (na : Int), .int .i64 (nb : Int), .int .i64 (nc : Int), .int .i64 n] 76 (0, 0)) := blk_new w1 _
  generalize (w1.alloc (.cells #[.int .i64 8, .int .i64 op, .int .i64 (na : Int), .int .i64 (nb : Int), .int .i64 (nc : Int), .int .i64 n] 76)).drew = w2 at *
  clear f0 f1 f2 f3 f4 f5 hn0 hn1 hn2 hn3 hn4 hn5 hn16 hn20 c16 c20
  have f0 := blk_cell hbx2 0
  have f1 := blk_cell hbx2 1
  have f2 := blk_cell hbx2 2
  have f3 := blk_cell hbx2 3
  have f4 := blk_cell hbx2 4
  have f5 := blk_cell hbx2 5
  have HV2 := Lib.hid (HV1.out.keep hb2)
  have HX2 := Lib.hid (below_blk hb2 HX1.out (blk_lt HX1.out))
  have HB2 := Lib.hid (HB1.out.trans (hb2.mono HB1.out.size))
  have HBX := Lib.hid hbx2
  clear hb2 hbx2
  go_wp2_with (first | (go_at_call 27; go_must (refine (address_calls _ p _ _ words fuel first HV2.out HR.out ⟨8, op, (na : Int), (nb : Int), (nc : Int), n⟩ nb rfl HA.out.2).mono ?_); rintro y w3 ⟨rfl, hb3⟩; rw [HAV.out]; clear f0 f1 f2 f3 f4 f5; have f0 := blk_cell (below_blk hb3 HBX.out (blk_lt HBX.out)) 0; have f2 := blk_cell (below_blk hb3 HBX.out (blk_lt HBX.out)) 2; have f4 := blk_cell (below_blk hb3 HBX.out (blk_lt HBX.out)) 4; have HT := Lib.hid (there_at (below_blk hb3 HX2.out (blk_lt HX2.out)) 0 3 (by decide)); have HV3 := Lib.hid (HV2.out.keep hb3); have HB3 := Lib.hid (HB2.out.trans (hb3.mono HB2.out.size)); clear hb3))
  have cr := (HV3.out.cell (i := na) (by have := HA.out.1; omega)).trans (St.cell (s := ⟨rg, (j : Int), steps, 0, value⟩) HR.out HA.out.1)
  have ha0 : (0 : Int) ≤ (na : Int) := by omega
  have ha1 : (na : Int) < 16 := by have := HA.out.1; omega
  go_still_tail 11, (by kernel_rfl)
  change wpList _ _ _ _ _ (World.drew _)
  go_wp2_with (refine wpList_store_mid (by rfl) 35 _ _ (by rfl) w.heap.size 0 #[.int .i64 3, .int .i64 (nc : Int), .int .i64 (St.reg ⟨rg, (j : Int), steps, 0, value⟩ na)] (by rfl) (by rfl) (there_drewN HT.out 1) (by kernel_rfl) (by simp [Value.oneCell']) ?_)
  exact want_fin rfl rfl rfl (there_drewN HT.out 1) (below_drewN HB3.out 1) (Nat.le_refl _) Try.underlying35 rfl (by kernel_rfl) (fun w' hw' => ⟨rfl, hw'⟩)
set_option maxRecDepth 100000 in
set_option maxHeartbeats 2000000 in
theorem want_emit (w : World) (p : Nat) (Ac : Option Addr) (l : List Ins) (cc : Nat) (words fuel : Int) (first : List Value) (rg : List Int) (j : Nat) (steps value : Int) (h : vmAt w p (St.cells ⟨rg, (j : Int), steps, 0, value⟩) (.slice Ac l.length cc) words fuel first) (hr : rg.length = 16) (hrow : insRow w l Ac) (hj : j < l.length) (hl : l.length ≤ 100000) (op n : Int) (na nb nc : Nat) (ha : na < 16) (hb : nb < 16)
    (hx : l[j] = ⟨9, op, (na : Int), (nb : Int), (nc : Int), n⟩) (hst : steps ≠ fuel) (av : Int) (hav : addr ⟨rg, (j : Int), steps, 0, value⟩ ⟨9, op, (na : Int), (nb : Int), (nc : Int), n⟩ = av) :
    Calls Try.prog 11 #[.pointer (some ⟨p, 0, none⟩)] w fun e w' => e = .returned (.agg #[.int .i64 4, .int .i64 0, .int .i64 (St.reg ⟨rg, (j : Int), steps, 0, value⟩ na)]) ∧ Below w.heap.size w w' := by
  obtain ⟨b, o, hA, hcell⟩ := hrow j hj
  rw [hx] at hcell
  subst hA
  have HB0 := Lib.hid (Below.al (Below.refl w.heap.size w) (o := .cells #[.int .i64 0, .int .i64 0, .int .i64 0] 35))
  have hbx := blk_new w (.cells #[.int .i64 0, .int .i64 0, .int .i64 0] 35)
  have hk := h.keep HB0.out
  generalize hw0 : w.alloc (.cells #[.int .i64 0, .int .i64 0, .int .i64 0] 35) = w0 at HB0 hbx hk
  have C17 := Lib.hid ((hk.cell (i := 17) (by decide)).trans (St.cell17 hr))
  have C18 := Lib.hid ((hk.cell (i := 18) (by decide)).trans (St.cell18 hr))
  have C22 := Lib.hid hk.c22
  have HX := Lib.hid hbx
  have HW := Lib.hid hw0
  have HV := Lib.hid hk
  have HR := Lib.hid hr
  have HC := Lib.hid hcell
  have hst' : (steps == fuel) = false := by simp [hst]
  have hj0 : (0 : Int) ≤ (j : Int) := by omega
  have hj1 : (j : Int) < (l.length : Int) := by omega
  have HA := Lib.hid (And.intro ha hb)
  have HAV := Lib.hid hav
  clear hbx hk h hr hw0 hrow hx hcell hst ha hb hav
  go_enter Try.func11, Try.ntmps11
  go_wp2
  rw [HW.out]
  have c17 := C17.out
  have c18 := C18.out
  have c22 := C22.out
  go_quiet ((fail))
  clear c17 c18 c22
  go_wp2
  have hb1 := below_drewN HB0.out nq
  have hx1 : (w0.drewN nq).heap[w.heap.size]? = _ := HX.out
  have hv1 := vm_drewN HV.out nq
  generalize w0.drewN nq = w1 at *
  have HB1 := Lib.hid hb1
  have HX1 := Lib.hid hx1
  have HV1 := Lib.hid hv1
  have c16 := (hv1.cell (i := 16) (by decide)).trans (St.cell16 (s := ⟨rg, (j : Int), steps, 0, value⟩) HR.out)
  have c20 := hv1.c20
  clear hb1 hx1 hv1
  have f0 : w1.cell? ⟨b, o + j * 6, none⟩ = some (.int .i64 9) := HB1.out.cellOf (HC.out 0 _ rfl)
  have hn0 := World.new_ne w1 _ f0
  have f1 : w1.cell? ⟨b, o + j * 6 + 1, none⟩ = some (.int .i64 op) := HB1.out.cellOf (HC.out 1 _ rfl)
  have hn1 := World.new_ne w1 _ f1
  have f2 : w1.cell? ⟨b, o + j * 6 + 2, none⟩ = some (.int .i64 (na : Int)) := HB1.out.cellOf (HC.out 2 _ rfl)
  have hn2 := World.new_ne w1 _ f2
  have f3 : w1.cell? ⟨b, o + j * 6 + 3, none⟩ = some (.int .i64 (nb : Int)) := HB1.out.cellOf (HC.out 3 _ rfl)
  have hn3 := World.new_ne w1 _ f3
  have f4 : w1.cell? ⟨b, o + j * 6 + 4, none⟩ = some (.int .i64 (nc : Int)) := HB1.out.cellOf (HC.out 4 _ rfl)
  have hn4 := World.new_ne w1 _ f4
  have f5 : w1.cell? ⟨b, o + j * 6 + 5, none⟩ = some (.int .i64 n) := HB1.out.cellOf (HC.out 5 _ rfl)
  have hn5 := World.new_ne w1 _ f5
  have hn16 := World.new_ne w1 _ c16
  have hn20 := World.new_ne w1 _ c20
  go_region_held3 (fun W => W.cell? ⟨p, 16, none⟩ = some (.int .i64 (j : Int)) ∧ W.cell? ⟨p, 20, none⟩ = some (.slice (some ⟨b, o, none⟩) l.length cc) ∧ W.cell? ⟨b, o + j * 6, none⟩ = some (.int .i64 9) ∧ W.cell? ⟨b, o + j * 6 + 1, none⟩ = some (.int .i64 op) ∧ W.cell? ⟨b, o + j * 6 + 2, none⟩ = some (.int .i64 (na : Int)) ∧ W.cell? ⟨b, o + j * 6 + 3, none⟩ = some (.int .i64 (nb : Int)) ∧ W.cell? ⟨b, o + j * 6 + 4, none⟩ = some (.int .i64 (nc : Int)) ∧ W.cell? ⟨b, o + j * 6 + 5, none⟩ = some (.int .i64 n)) (go_keep) (fail)
  have hb2 : Below w1.heap.size w1 (w1.alloc (.cells #[.int .i64 9, .int .i64 op, .int .i64 (na : Int), .int .i64 (nb : Int), .int .i64 (nc : Int), .int .i64 n] 76)).drew := ((Below.refl w1.heap.size w1).al).drew
  have hbx2 : (w1.alloc (.cells #[.int .i64 9, .int .i64 op, .int .i64 (na : Int), .int .i64 (nb : Int), .int .i64 (nc : Int), .int .i64 n] 76)).drew.heap[w1.heap.size]? = some (.cells #[.int .i64 9, .int .i64 op, .int .i64 (na : Int), .int .i64 (nb : Int), .int .i64 (nc : Int), .int .i64 n] 76 (0, 0)) := blk_new w1 _
  generalize (w1.alloc (.cells #[.int .i64 9, .int .i64 op, .int .i64 (na : Int), .int .i64 (nb : Int), .int .i64 (nc : Int), .int .i64 n] 76)).drew = w2 at *
  clear f0 f1 f2 f3 f4 f5 hn0 hn1 hn2 hn3 hn4 hn5 hn16 hn20 c16 c20
  have f0 := blk_cell hbx2 0
  have f1 := blk_cell hbx2 1
  have f2 := blk_cell hbx2 2
  have f3 := blk_cell hbx2 3
  have f4 := blk_cell hbx2 4
  have f5 := blk_cell hbx2 5
  have HV2 := Lib.hid (HV1.out.keep hb2)
  have HX2 := Lib.hid (below_blk hb2 HX1.out (blk_lt HX1.out))
  have HB2 := Lib.hid (HB1.out.trans (hb2.mono HB1.out.size))
  have HBX := Lib.hid hbx2
  clear hb2 hbx2
  go_wp2_with (first | (go_at_call 27; go_must (refine (address_calls _ p _ _ words fuel first HV2.out HR.out ⟨9, op, (na : Int), (nb : Int), (nc : Int), n⟩ nb rfl HA.out.2).mono ?_); rintro y w3 ⟨rfl, hb3⟩; rw [HAV.out]; clear f0 f1 f2 f3 f4 f5; have f0 := blk_cell (below_blk hb3 HBX.out (blk_lt HBX.out)) 0; have f2 := blk_cell (below_blk hb3 HBX.out (blk_lt HBX.out)) 2; have f4 := blk_cell (below_blk hb3 HBX.out (blk_lt HBX.out)) 4; have HT := Lib.hid (there_at (below_blk hb3 HX2.out (blk_lt HX2.out)) 0 3 (by decide)); have HV3 := Lib.hid (HV2.out.keep hb3); have HB3 := Lib.hid (HB2.out.trans (hb3.mono HB2.out.size)); clear hb3))
  have cr := (HV3.out.cell (i := na) (by have := HA.out.1; omega)).trans (St.cell (s := ⟨rg, (j : Int), steps, 0, value⟩) HR.out HA.out.1)
  have ha0 : (0 : Int) ≤ (na : Int) := by omega
  have ha1 : (na : Int) < 16 := by have := HA.out.1; omega
  go_still_tail 9, (by kernel_rfl)
  change wpList _ _ _ _ _ (World.drew _)
  go_wp2_with (refine wpList_store_mid (by rfl) 35 _ _ (by rfl) w.heap.size 0 #[.int .i64 4, .int .i64 0, .int .i64 (St.reg ⟨rg, (j : Int), steps, 0, value⟩ na)] (by rfl) (by rfl) (there_drewN HT.out 1) (by kernel_rfl) (by simp [Value.oneCell']) ?_)
  exact want_fin rfl rfl rfl (there_drewN HT.out 1) (below_drewN HB3.out 1) (Nat.le_refl _) Try.underlying35 rfl (by kernel_rfl) (fun w' hw' => ⟨rfl, hw'⟩)
set_option maxRecDepth 100000 in
set_option maxHeartbeats 2000000 in
theorem want_store (w : World) (p : Nat) (Ac : Option Addr) (l : List Ins) (cc : Nat) (words fuel : Int) (first : List Value) (rg : List Int) (j : Nat) (steps value : Int) (h : vmAt w p (St.cells ⟨rg, (j : Int), steps, 0, value⟩) (.slice Ac l.length cc) words fuel first) (hr : rg.length = 16) (hrow : insRow w l Ac) (hj : j < l.length) (hl : l.length ≤ 100000) (op n : Int) (na nb nc : Nat) (ha : na < 16) (hb : nb < 16)
    (hx : l[j] = ⟨7, op, (na : Int), (nb : Int), (nc : Int), n⟩) (hst : steps ≠ fuel) (av : Int) (hav : addr ⟨rg, (j : Int), steps, 0, value⟩ ⟨7, op, (na : Int), (nb : Int), (nc : Int), n⟩ = av) (hin : insideB av words = true) :
    Calls Try.prog 11 #[.pointer (some ⟨p, 0, none⟩)] w fun e w' => e = .returned (.agg #[.int .i64 2, .int .i64 av, .int .i64 (St.reg ⟨rg, (j : Int), steps, 0, value⟩ na)]) ∧ Below w.heap.size w w' := by
  obtain ⟨b, o, hA, hcell⟩ := hrow j hj
  rw [hx] at hcell
  subst hA
  have HB0 := Lib.hid (Below.al (Below.refl w.heap.size w) (o := .cells #[.int .i64 0, .int .i64 0, .int .i64 0] 35))
  have hbx := blk_new w (.cells #[.int .i64 0, .int .i64 0, .int .i64 0] 35)
  have hk := h.keep HB0.out
  generalize hw0 : w.alloc (.cells #[.int .i64 0, .int .i64 0, .int .i64 0] 35) = w0 at HB0 hbx hk
  have C17 := Lib.hid ((hk.cell (i := 17) (by decide)).trans (St.cell17 hr))
  have C18 := Lib.hid ((hk.cell (i := 18) (by decide)).trans (St.cell18 hr))
  have C22 := Lib.hid hk.c22
  have HX := Lib.hid hbx
  have HW := Lib.hid hw0
  have HV := Lib.hid hk
  have HR := Lib.hid hr
  have HC := Lib.hid hcell
  have hst' : (steps == fuel) = false := by simp [hst]
  have hj0 : (0 : Int) ≤ (j : Int) := by omega
  have hj1 : (j : Int) < (l.length : Int) := by omega
  have HA := Lib.hid (And.intro ha hb)
  have HAV := Lib.hid hav
  clear hbx hk h hr hw0 hrow hx hcell hst ha hb hav
  go_enter Try.func11, Try.ntmps11
  go_wp2
  rw [HW.out]
  have c17 := C17.out
  have c18 := C18.out
  have c22 := C22.out
  go_quiet ((fail))
  clear c17 c18 c22
  go_wp2
  have hb1 := below_drewN HB0.out nq
  have hx1 : (w0.drewN nq).heap[w.heap.size]? = _ := HX.out
  have hv1 := vm_drewN HV.out nq
  generalize w0.drewN nq = w1 at *
  have HB1 := Lib.hid hb1
  have HX1 := Lib.hid hx1
  have HV1 := Lib.hid hv1
  have c16 := (hv1.cell (i := 16) (by decide)).trans (St.cell16 (s := ⟨rg, (j : Int), steps, 0, value⟩) HR.out)
  have c20 := hv1.c20
  clear hb1 hx1 hv1
  have f0 : w1.cell? ⟨b, o + j * 6, none⟩ = some (.int .i64 7) := HB1.out.cellOf (HC.out 0 _ rfl)
  have hn0 := World.new_ne w1 _ f0
  have f1 : w1.cell? ⟨b, o + j * 6 + 1, none⟩ = some (.int .i64 op) := HB1.out.cellOf (HC.out 1 _ rfl)
  have hn1 := World.new_ne w1 _ f1
  have f2 : w1.cell? ⟨b, o + j * 6 + 2, none⟩ = some (.int .i64 (na : Int)) := HB1.out.cellOf (HC.out 2 _ rfl)
  have hn2 := World.new_ne w1 _ f2
  have f3 : w1.cell? ⟨b, o + j * 6 + 3, none⟩ = some (.int .i64 (nb : Int)) := HB1.out.cellOf (HC.out 3 _ rfl)
  have hn3 := World.new_ne w1 _ f3
  have f4 : w1.cell? ⟨b, o + j * 6 + 4, none⟩ = some (.int .i64 (nc : Int)) := HB1.out.cellOf (HC.out 4 _ rfl)
  have hn4 := World.new_ne w1 _ f4
  have f5 : w1.cell? ⟨b, o + j * 6 + 5, none⟩ = some (.int .i64 n) := HB1.out.cellOf (HC.out 5 _ rfl)
  have hn5 := World.new_ne w1 _ f5
  have hn16 := World.new_ne w1 _ c16
  have hn20 := World.new_ne w1 _ c20
  go_region_held3 (fun W => W.cell? ⟨p, 16, none⟩ = some (.int .i64 (j : Int)) ∧ W.cell? ⟨p, 20, none⟩ = some (.slice (some ⟨b, o, none⟩) l.length cc) ∧ W.cell? ⟨b, o + j * 6, none⟩ = some (.int .i64 7) ∧ W.cell? ⟨b, o + j * 6 + 1, none⟩ = some (.int .i64 op) ∧ W.cell? ⟨b, o + j * 6 + 2, none⟩ = some (.int .i64 (na : Int)) ∧ W.cell? ⟨b, o + j * 6 + 3, none⟩ = some (.int .i64 (nb : Int)) ∧ W.cell? ⟨b, o + j * 6 + 4, none⟩ = some (.int .i64 (nc : Int)) ∧ W.cell? ⟨b, o + j * 6 + 5, none⟩ = some (.int .i64 n)) (go_keep) (fail)
  have hb2 : Below w1.heap.size w1 (w1.alloc (.cells #[.int .i64 7, .int .i64 op, .int .i64 (na : Int), .int .i64 (nb : Int), .int .i64 (nc : Int), .int .i64 n] 76)).drew := ((Below.refl w1.heap.size w1).al).drew
  have hbx2 : (w1.alloc (.cells #[.int .i64 7, .int .i64 op, .int .i64 (na : Int), .int .i64 (nb : Int), .int .i64 (nc : Int), .int .i64 n] 76)).drew.heap[w1.heap.size]? = some (.cells #[.int .i64 7, .int .i64 op, .int .i64 (na : Int), .int .i64 (nb : Int), .int .i64 (nc : Int), .int .i64 n] 76 (0, 0)) := blk_new w1 _
  generalize (w1.alloc (.cells #[.int .i64 7, .int .i64 op, .int .i64 (na : Int), .int .i64 (nb : Int), .int .i64 (nc : Int), .int .i64 n] 76)).drew = w2 at *
  clear f0 f1 f2 f3 f4 f5 hn0 hn1 hn2 hn3 hn4 hn5 hn16 hn20 c16 c20
  have f0 := blk_cell hbx2 0
  have f1 := blk_cell hbx2 1
  have f2 := blk_cell hbx2 2
  have f3 := blk_cell hbx2 3
  have f4 := blk_cell hbx2 4
  have f5 := blk_cell hbx2 5
  have HV2 := Lib.hid (HV1.out.keep hb2)
  have HX2 := Lib.hid (below_blk hb2 HX1.out (blk_lt HX1.out))
  have HB2 := Lib.hid (HB1.out.trans (hb2.mono HB1.out.size))
  have HBX := Lib.hid hbx2
  clear hb2 hbx2
  go_wp2_with (first | (go_at_call 27; go_must (refine (address_calls _ p _ _ words fuel first HV2.out HR.out ⟨7, op, (na : Int), (nb : Int), (nc : Int), n⟩ nb rfl HA.out.2).mono ?_); rintro y w3 ⟨rfl, hb3⟩; rw [HAV.out, hin]; clear f0 f1 f2 f3 f4 f5; have f0 := blk_cell (below_blk hb3 HBX.out (blk_lt HBX.out)) 0; have f2 := blk_cell (below_blk hb3 HBX.out (blk_lt HBX.out)) 2; have f4 := blk_cell (below_blk hb3 HBX.out (blk_lt HBX.out)) 4; have HT := Lib.hid (there_at (below_blk hb3 HX2.out (blk_lt HX2.out)) 0 3 (by decide)); have HV3 := Lib.hid (HV2.out.keep hb3); have HB3 := Lib.hid (HB2.out.trans (hb3.mono HB2.out.size)); clear hb3))
  have cr := (HV3.out.cell (i := na) (by have := HA.out.1; omega)).trans (St.cell (s := ⟨rg, (j : Int), steps, 0, value⟩) HR.out HA.out.1)
  have ha0 : (0 : Int) ≤ (na : Int) := by omega
  have ha1 : (na : Int) < 16 := by have := HA.out.1; omega
  go_still_tail 10, (by kernel_rfl)
  change wpList _ _ _ _ _ (World.drew _)
  go_wp2_with (refine wpList_store_mid (by rfl) 35 _ _ (by rfl) w.heap.size 0 #[.int .i64 2, .int .i64 av, .int .i64 (St.reg ⟨rg, (j : Int), steps, 0, value⟩ na)] (by rfl) (by rfl) (there_drewN HT.out 1) (by kernel_rfl) (by simp [Value.oneCell']) ?_)
  exact want_fin rfl rfl rfl (there_drewN HT.out 1) (below_drewN HB3.out 1) (Nat.le_refl _) Try.underlying35 rfl (by kernel_rfl) (fun w' hw' => ⟨rfl, hw'⟩)
set_option maxRecDepth 100000 in
set_option maxHeartbeats 2000000 in
theorem want_storeno (w : World) (p : Nat) (Ac : Option Addr) (l : List Ins) (cc : Nat) (words fuel : Int) (first : List Value) (rg : List Int) (j : Nat) (steps value : Int) (h : vmAt w p (St.cells ⟨rg, (j : Int), steps, 0, value⟩) (.slice Ac l.length cc) words fuel first) (hr : rg.length = 16) (hrow : insRow w l Ac) (hj : j < l.length) (hl : l.length ≤ 100000) (op n : Int) (na nb nc : Nat) (ha : na < 16) (hb : nb < 16)
    (hx : l[j] = ⟨7, op, (na : Int), (nb : Int), (nc : Int), n⟩) (hst : steps ≠ fuel) (av : Int) (hav : addr ⟨rg, (j : Int), steps, 0, value⟩ ⟨7, op, (na : Int), (nb : Int), (nc : Int), n⟩ = av) (hin : insideB av words = false) :
    Calls Try.prog 11 #[.pointer (some ⟨p, 0, none⟩)] w fun e w' => e = .returned (.agg #[.int .i64 0, .int .i64 0, .int .i64 0]) ∧ Below w.heap.size w w' := by
  obtain ⟨b, o, hA, hcell⟩ := hrow j hj
  rw [hx] at hcell
  subst hA
  have HB0 := Lib.hid (Below.al (Below.refl w.heap.size w) (o := .cells #[.int .i64 0, .int .i64 0, .int .i64 0] 35))
  have hbx := blk_new w (.cells #[.int .i64 0, .int .i64 0, .int .i64 0] 35)
  have hk := h.keep HB0.out
  generalize hw0 : w.alloc (.cells #[.int .i64 0, .int .i64 0, .int .i64 0] 35) = w0 at HB0 hbx hk
  have C17 := Lib.hid ((hk.cell (i := 17) (by decide)).trans (St.cell17 hr))
  have C18 := Lib.hid ((hk.cell (i := 18) (by decide)).trans (St.cell18 hr))
  have C22 := Lib.hid hk.c22
  have HX := Lib.hid hbx
  have HW := Lib.hid hw0
  have HV := Lib.hid hk
  have HR := Lib.hid hr
  have HC := Lib.hid hcell
  have hst' : (steps == fuel) = false := by simp [hst]
  have hj0 : (0 : Int) ≤ (j : Int) := by omega
  have hj1 : (j : Int) < (l.length : Int) := by omega
  have HA := Lib.hid (And.intro ha hb)
  have HAV := Lib.hid hav
  clear hbx hk h hr hw0 hrow hx hcell hst ha hb hav
  go_enter Try.func11, Try.ntmps11
  go_wp2
  rw [HW.out]
  have c17 := C17.out
  have c18 := C18.out
  have c22 := C22.out
  go_quiet ((fail))
  clear c17 c18 c22
  go_wp2
  have hb1 := below_drewN HB0.out nq
  have hx1 : (w0.drewN nq).heap[w.heap.size]? = _ := HX.out
  have hv1 := vm_drewN HV.out nq
  generalize w0.drewN nq = w1 at *
  have HB1 := Lib.hid hb1
  have HX1 := Lib.hid hx1
  have HV1 := Lib.hid hv1
  have c16 := (hv1.cell (i := 16) (by decide)).trans (St.cell16 (s := ⟨rg, (j : Int), steps, 0, value⟩) HR.out)
  have c20 := hv1.c20
  clear hb1 hx1 hv1
  have f0 : w1.cell? ⟨b, o + j * 6, none⟩ = some (.int .i64 7) := HB1.out.cellOf (HC.out 0 _ rfl)
  have hn0 := World.new_ne w1 _ f0
  have f1 : w1.cell? ⟨b, o + j * 6 + 1, none⟩ = some (.int .i64 op) := HB1.out.cellOf (HC.out 1 _ rfl)
  have hn1 := World.new_ne w1 _ f1
  have f2 : w1.cell? ⟨b, o + j * 6 + 2, none⟩ = some (.int .i64 (na : Int)) := HB1.out.cellOf (HC.out 2 _ rfl)
  have hn2 := World.new_ne w1 _ f2
  have f3 : w1.cell? ⟨b, o + j * 6 + 3, none⟩ = some (.int .i64 (nb : Int)) := HB1.out.cellOf (HC.out 3 _ rfl)
  have hn3 := World.new_ne w1 _ f3
  have f4 : w1.cell? ⟨b, o + j * 6 + 4, none⟩ = some (.int .i64 (nc : Int)) := HB1.out.cellOf (HC.out 4 _ rfl)
  have hn4 := World.new_ne w1 _ f4
  have f5 : w1.cell? ⟨b, o + j * 6 + 5, none⟩ = some (.int .i64 n) := HB1.out.cellOf (HC.out 5 _ rfl)
  have hn5 := World.new_ne w1 _ f5
  have hn16 := World.new_ne w1 _ c16
  have hn20 := World.new_ne w1 _ c20
  go_region_held3 (fun W => W.cell? ⟨p, 16, none⟩ = some (.int .i64 (j : Int)) ∧ W.cell? ⟨p, 20, none⟩ = some (.slice (some ⟨b, o, none⟩) l.length cc) ∧ W.cell? ⟨b, o + j * 6, none⟩ = some (.int .i64 7) ∧ W.cell? ⟨b, o + j * 6 + 1, none⟩ = some (.int .i64 op) ∧ W.cell? ⟨b, o + j * 6 + 2, none⟩ = some (.int .i64 (na : Int)) ∧ W.cell? ⟨b, o + j * 6 + 3, none⟩ = some (.int .i64 (nb : Int)) ∧ W.cell? ⟨b, o + j * 6 + 4, none⟩ = some (.int .i64 (nc : Int)) ∧ W.cell? ⟨b, o + j * 6 + 5, none⟩ = some (.int .i64 n)) (go_keep) (fail)
  have hb2 : Below w1.heap.size w1 (w1.alloc (.cells #[.int .i64 7, .int .i64 op, .int .i64 (na : Int), .int .i64 (nb : Int), .int .i64 (nc : Int), .int .i64 n] 76)).drew := ((Below.refl w1.heap.size w1).al).drew
  have hbx2 : (w1.alloc (.cells #[.int .i64 7, .int .i64 op, .int .i64 (na : Int), .int .i64 (nb : Int), .int .i64 (nc : Int), .int .i64 n] 76)).drew.heap[w1.heap.size]? = some (.cells #[.int .i64 7, .int .i64 op, .int .i64 (na : Int), .int .i64 (nb : Int), .int .i64 (nc : Int), .int .i64 n] 76 (0, 0)) := blk_new w1 _
  generalize (w1.alloc (.cells #[.int .i64 7, .int .i64 op, .int .i64 (na : Int), .int .i64 (nb : Int), .int .i64 (nc : Int), .int .i64 n] 76)).drew = w2 at *
  clear f0 f1 f2 f3 f4 f5 hn0 hn1 hn2 hn3 hn4 hn5 hn16 hn20 c16 c20
  have f0 := blk_cell hbx2 0
  have f1 := blk_cell hbx2 1
  have f2 := blk_cell hbx2 2
  have f3 := blk_cell hbx2 3
  have f4 := blk_cell hbx2 4
  have f5 := blk_cell hbx2 5
  have HV2 := Lib.hid (HV1.out.keep hb2)
  have HX2 := Lib.hid (below_blk hb2 HX1.out (blk_lt HX1.out))
  have HB2 := Lib.hid (HB1.out.trans (hb2.mono HB1.out.size))
  have HBX := Lib.hid hbx2
  clear hb2 hbx2
  go_wp2_with (first | (refine wpList_store_mid (by rfl) 35 _ _ (by rfl) w.heap.size 0 #[.int .i64 0, .int .i64 0, .int .i64 0] (by rfl) (by rfl) HT.out (by kernel_rfl) (by simp [Value.oneCell']) ?_) | (go_at_call 27; go_must (refine (address_calls _ p _ _ words fuel first HV2.out HR.out ⟨7, op, (na : Int), (nb : Int), (nc : Int), n⟩ nb rfl HA.out.2).mono ?_); rintro y w3 ⟨rfl, hb3⟩; rw [HAV.out, hin]; clear f0 f1 f2 f3 f4 f5; have f0 := blk_cell (below_blk hb3 HBX.out (blk_lt HBX.out)) 0; have f2 := blk_cell (below_blk hb3 HBX.out (blk_lt HBX.out)) 2; have f4 := blk_cell (below_blk hb3 HBX.out (blk_lt HBX.out)) 4; have HT := Lib.hid (there_at (below_blk hb3 HX2.out (blk_lt HX2.out)) 0 3 (by decide)); have HV3 := Lib.hid (HV2.out.keep hb3); have HB3 := Lib.hid (HB2.out.trans (hb3.mono HB2.out.size)); clear hb3))
  exact want_fin rfl rfl rfl HT.out HB3.out (Nat.le_refl _) Try.underlying35 rfl (by kernel_rfl) (fun w' hw' => ⟨rfl, hw'⟩)
set_option maxRecDepth 100000 in
set_option maxHeartbeats 2000000 in
theorem want_load (w : World) (p : Nat) (Ac : Option Addr) (l : List Ins) (cc : Nat) (words fuel : Int) (first : List Value) (rg : List Int) (j : Nat) (steps value : Int) (h : vmAt w p (St.cells ⟨rg, (j : Int), steps, 0, value⟩) (.slice Ac l.length cc) words fuel first) (hr : rg.length = 16) (hrow : insRow w l Ac) (hj : j < l.length) (hl : l.length ≤ 100000) (op n : Int) (na nb nc : Nat) (ha : na < 16) (hb : nb < 16)
    (hx : l[j] = ⟨6, op, (na : Int), (nb : Int), (nc : Int), n⟩) (hst : steps ≠ fuel) (av : Int) (hav : addr ⟨rg, (j : Int), steps, 0, value⟩ ⟨6, op, (na : Int), (nb : Int), (nc : Int), n⟩ = av) (hin : insideB av words = true) :
    Calls Try.prog 11 #[.pointer (some ⟨p, 0, none⟩)] w fun e w' => e = .returned (.agg #[.int .i64 1, .int .i64 av, .int .i64 0]) ∧ Below w.heap.size w w' := by
  obtain ⟨b, o, hA, hcell⟩ := hrow j hj
  rw [hx] at hcell
  subst hA
  have HB0 := Lib.hid (Below.al (Below.refl w.heap.size w) (o := .cells #[.int .i64 0, .int .i64 0, .int .i64 0] 35))
  have hbx := blk_new w (.cells #[.int .i64 0, .int .i64 0, .int .i64 0] 35)
  have hk := h.keep HB0.out
  generalize hw0 : w.alloc (.cells #[.int .i64 0, .int .i64 0, .int .i64 0] 35) = w0 at HB0 hbx hk
  have C17 := Lib.hid ((hk.cell (i := 17) (by decide)).trans (St.cell17 hr))
  have C18 := Lib.hid ((hk.cell (i := 18) (by decide)).trans (St.cell18 hr))
  have C22 := Lib.hid hk.c22
  have HX := Lib.hid hbx
  have HW := Lib.hid hw0
  have HV := Lib.hid hk
  have HR := Lib.hid hr
  have HC := Lib.hid hcell
  have hst' : (steps == fuel) = false := by simp [hst]
  have hj0 : (0 : Int) ≤ (j : Int) := by omega
  have hj1 : (j : Int) < (l.length : Int) := by omega
  have HA := Lib.hid (And.intro ha hb)
  have HAV := Lib.hid hav
  clear hbx hk h hr hw0 hrow hx hcell hst ha hb hav
  go_enter Try.func11, Try.ntmps11
  go_wp2
  rw [HW.out]
  have c17 := C17.out
  have c18 := C18.out
  have c22 := C22.out
  go_quiet ((fail))
  clear c17 c18 c22
  go_wp2
  have hb1 := below_drewN HB0.out nq
  have hx1 : (w0.drewN nq).heap[w.heap.size]? = _ := HX.out
  have hv1 := vm_drewN HV.out nq
  generalize w0.drewN nq = w1 at *
  have HB1 := Lib.hid hb1
  have HX1 := Lib.hid hx1
  have HV1 := Lib.hid hv1
  have c16 := (hv1.cell (i := 16) (by decide)).trans (St.cell16 (s := ⟨rg, (j : Int), steps, 0, value⟩) HR.out)
  have c20 := hv1.c20
  clear hb1 hx1 hv1
  have f0 : w1.cell? ⟨b, o + j * 6, none⟩ = some (.int .i64 6) := HB1.out.cellOf (HC.out 0 _ rfl)
  have hn0 := World.new_ne w1 _ f0
  have f1 : w1.cell? ⟨b, o + j * 6 + 1, none⟩ = some (.int .i64 op) := HB1.out.cellOf (HC.out 1 _ rfl)
  have hn1 := World.new_ne w1 _ f1
  have f2 : w1.cell? ⟨b, o + j * 6 + 2, none⟩ = some (.int .i64 (na : Int)) := HB1.out.cellOf (HC.out 2 _ rfl)
  have hn2 := World.new_ne w1 _ f2
  have f3 : w1.cell? ⟨b, o + j * 6 + 3, none⟩ = some (.int .i64 (nb : Int)) := HB1.out.cellOf (HC.out 3 _ rfl)
  have hn3 := World.new_ne w1 _ f3
  have f4 : w1.cell? ⟨b, o + j * 6 + 4, none⟩ = some (.int .i64 (nc : Int)) := HB1.out.cellOf (HC.out 4 _ rfl)
  have hn4 := World.new_ne w1 _ f4
  have f5 : w1.cell? ⟨b, o + j * 6 + 5, none⟩ = some (.int .i64 n) := HB1.out.cellOf (HC.out 5 _ rfl)
  have hn5 := World.new_ne w1 _ f5
  have hn16 := World.new_ne w1 _ c16
  have hn20 := World.new_ne w1 _ c20
  go_region_held3 (fun W => W.cell? ⟨p, 16, none⟩ = some (.int .i64 (j : Int)) ∧ W.cell? ⟨p, 20, none⟩ = some (.slice (some ⟨b, o, none⟩) l.length cc) ∧ W.cell? ⟨b, o + j * 6, none⟩ = some (.int .i64 6) ∧ W.cell? ⟨b, o + j * 6 + 1, none⟩ = some (.int .i64 op) ∧ W.cell? ⟨b, o + j * 6 + 2, none⟩ = some (.int .i64 (na : Int)) ∧ W.cell? ⟨b, o + j * 6 + 3, none⟩ = some (.int .i64 (nb : Int)) ∧ W.cell? ⟨b, o + j * 6 + 4, none⟩ = some (.int .i64 (nc : Int)) ∧ W.cell? ⟨b, o + j * 6 + 5, none⟩ = some (.int .i64 n)) (go_keep) (fail)
  have hb2 : Below w1.heap.size w1 (w1.alloc (.cells #[.int .i64 6, .int .i64 op, .int .i64 (na : Int), .int .i64 (nb : Int), .int .i64 (nc : Int), .int .i64 n] 76)).drew := ((Below.refl w1.heap.size w1).al).drew
  have hbx2 : (w1.alloc (.cells #[.int .i64 6, .int .i64 op, .int .i64 (na : Int), .int .i64 (nb : Int), .int .i64 (nc : Int), .int .i64 n] 76)).drew.heap[w1.heap.size]? = some (.cells #[.int .i64 6, .int .i64 op, .int .i64 (na : Int), .int .i64 (nb : Int), .int .i64 (nc : Int), .int .i64 n] 76 (0, 0)) := blk_new w1 _
  generalize (w1.alloc (.cells #[.int .i64 6, .int .i64 op, .int .i64 (na : Int), .int .i64 (nb : Int), .int .i64 (nc : Int), .int .i64 n] 76)).drew = w2 at *
  clear f0 f1 f2 f3 f4 f5 hn0 hn1 hn2 hn3 hn4 hn5 hn16 hn20 c16 c20
  have f0 := blk_cell hbx2 0
  have f1 := blk_cell hbx2 1
  have f2 := blk_cell hbx2 2
  have f3 := blk_cell hbx2 3
  have f4 := blk_cell hbx2 4
  have f5 := blk_cell hbx2 5
  have HV2 := Lib.hid (HV1.out.keep hb2)
  have HX2 := Lib.hid (below_blk hb2 HX1.out (blk_lt HX1.out))
  have HB2 := Lib.hid (HB1.out.trans (hb2.mono HB1.out.size))
  have HBX := Lib.hid hbx2
  clear hb2 hbx2
  go_wp2_with (first | (refine wpList_store_mid (by rfl) 35 _ _ (by rfl) w.heap.size 0 #[.int .i64 1, .int .i64 av, .int .i64 0] (by rfl) (by rfl) HT.out (by kernel_rfl) (by simp [Value.oneCell']) ?_) | (go_at_call 27; go_must (refine (address_calls _ p _ _ words fuel first HV2.out HR.out ⟨6, op, (na : Int), (nb : Int), (nc : Int), n⟩ nb rfl HA.out.2).mono ?_); rintro y w3 ⟨rfl, hb3⟩; rw [HAV.out, hin]; clear f0 f1 f2 f3 f4 f5; have f0 := blk_cell (below_blk hb3 HBX.out (blk_lt HBX.out)) 0; have f2 := blk_cell (below_blk hb3 HBX.out (blk_lt HBX.out)) 2; have f4 := blk_cell (below_blk hb3 HBX.out (blk_lt HBX.out)) 4; have HT := Lib.hid (there_at (below_blk hb3 HX2.out (blk_lt HX2.out)) 0 3 (by decide)); have HV3 := Lib.hid (HV2.out.keep hb3); have HB3 := Lib.hid (HB2.out.trans (hb3.mono HB2.out.size)); clear hb3))
  exact want_fin rfl rfl rfl HT.out HB3.out (Nat.le_refl _) Try.underlying35 rfl (by kernel_rfl) (fun w' hw' => ⟨rfl, hw'⟩)
set_option maxRecDepth 100000 in
set_option maxHeartbeats 2000000 in
theorem want_loadno (w : World) (p : Nat) (Ac : Option Addr) (l : List Ins) (cc : Nat) (words fuel : Int) (first : List Value) (rg : List Int) (j : Nat) (steps value : Int) (h : vmAt w p (St.cells ⟨rg, (j : Int), steps, 0, value⟩) (.slice Ac l.length cc) words fuel first) (hr : rg.length = 16) (hrow : insRow w l Ac) (hj : j < l.length) (hl : l.length ≤ 100000) (op n : Int) (na nb nc : Nat) (ha : na < 16) (hb : nb < 16)
    (hx : l[j] = ⟨6, op, (na : Int), (nb : Int), (nc : Int), n⟩) (hst : steps ≠ fuel) (av : Int) (hav : addr ⟨rg, (j : Int), steps, 0, value⟩ ⟨6, op, (na : Int), (nb : Int), (nc : Int), n⟩ = av) (hin : insideB av words = false) :
    Calls Try.prog 11 #[.pointer (some ⟨p, 0, none⟩)] w fun e w' => e = .returned (.agg #[.int .i64 0, .int .i64 0, .int .i64 0]) ∧ Below w.heap.size w w' := by
  obtain ⟨b, o, hA, hcell⟩ := hrow j hj
  rw [hx] at hcell
  subst hA
  have HB0 := Lib.hid (Below.al (Below.refl w.heap.size w) (o := .cells #[.int .i64 0, .int .i64 0, .int .i64 0] 35))
  have hbx := blk_new w (.cells #[.int .i64 0, .int .i64 0, .int .i64 0] 35)
  have hk := h.keep HB0.out
  generalize hw0 : w.alloc (.cells #[.int .i64 0, .int .i64 0, .int .i64 0] 35) = w0 at HB0 hbx hk
  have C17 := Lib.hid ((hk.cell (i := 17) (by decide)).trans (St.cell17 hr))
  have C18 := Lib.hid ((hk.cell (i := 18) (by decide)).trans (St.cell18 hr))
  have C22 := Lib.hid hk.c22
  have HX := Lib.hid hbx
  have HW := Lib.hid hw0
  have HV := Lib.hid hk
  have HR := Lib.hid hr
  have HC := Lib.hid hcell
  have hst' : (steps == fuel) = false := by simp [hst]
  have hj0 : (0 : Int) ≤ (j : Int) := by omega
  have hj1 : (j : Int) < (l.length : Int) := by omega
  have HA := Lib.hid (And.intro ha hb)
  have HAV := Lib.hid hav
  clear hbx hk h hr hw0 hrow hx hcell hst ha hb hav
  go_enter Try.func11, Try.ntmps11
  go_wp2
  rw [HW.out]
  have c17 := C17.out
  have c18 := C18.out
  have c22 := C22.out
  go_quiet ((fail))
  clear c17 c18 c22
  go_wp2
  have hb1 := below_drewN HB0.out nq
  have hx1 : (w0.drewN nq).heap[w.heap.size]? = _ := HX.out
  have hv1 := vm_drewN HV.out nq
  generalize w0.drewN nq = w1 at *
  have HB1 := Lib.hid hb1
  have HX1 := Lib.hid hx1
  have HV1 := Lib.hid hv1
  have c16 := (hv1.cell (i := 16) (by decide)).trans (St.cell16 (s := ⟨rg, (j : Int), steps, 0, value⟩) HR.out)
  have c20 := hv1.c20
  clear hb1 hx1 hv1
  have f0 : w1.cell? ⟨b, o + j * 6, none⟩ = some (.int .i64 6) := HB1.out.cellOf (HC.out 0 _ rfl)
  have hn0 := World.new_ne w1 _ f0
  have f1 : w1.cell? ⟨b, o + j * 6 + 1, none⟩ = some (.int .i64 op) := HB1.out.cellOf (HC.out 1 _ rfl)
  have hn1 := World.new_ne w1 _ f1
  have f2 : w1.cell? ⟨b, o + j * 6 + 2, none⟩ = some (.int .i64 (na : Int)) := HB1.out.cellOf (HC.out 2 _ rfl)
  have hn2 := World.new_ne w1 _ f2
  have f3 : w1.cell? ⟨b, o + j * 6 + 3, none⟩ = some (.int .i64 (nb : Int)) := HB1.out.cellOf (HC.out 3 _ rfl)
  have hn3 := World.new_ne w1 _ f3
  have f4 : w1.cell? ⟨b, o + j * 6 + 4, none⟩ = some (.int .i64 (nc : Int)) := HB1.out.cellOf (HC.out 4 _ rfl)
  have hn4 := World.new_ne w1 _ f4
  have f5 : w1.cell? ⟨b, o + j * 6 + 5, none⟩ = some (.int .i64 n) := HB1.out.cellOf (HC.out 5 _ rfl)
  have hn5 := World.new_ne w1 _ f5
  have hn16 := World.new_ne w1 _ c16
  have hn20 := World.new_ne w1 _ c20
  go_region_held3 (fun W => W.cell? ⟨p, 16, none⟩ = some (.int .i64 (j : Int)) ∧ W.cell? ⟨p, 20, none⟩ = some (.slice (some ⟨b, o, none⟩) l.length cc) ∧ W.cell? ⟨b, o + j * 6, none⟩ = some (.int .i64 6) ∧ W.cell? ⟨b, o + j * 6 + 1, none⟩ = some (.int .i64 op) ∧ W.cell? ⟨b, o + j * 6 + 2, none⟩ = some (.int .i64 (na : Int)) ∧ W.cell? ⟨b, o + j * 6 + 3, none⟩ = some (.int .i64 (nb : Int)) ∧ W.cell? ⟨b, o + j * 6 + 4, none⟩ = some (.int .i64 (nc : Int)) ∧ W.cell? ⟨b, o + j * 6 + 5, none⟩ = some (.int .i64 n)) (go_keep) (fail)
  have hb2 : Below w1.heap.size w1 (w1.alloc (.cells #[.int .i64 6, .int .i64 op, .int .i64 (na : Int), .int .i64 (nb : Int), .int .i64 (nc : Int), .int .i64 n] 76)).drew := ((Below.refl w1.heap.size w1).al).drew
  have hbx2 : (w1.alloc (.cells #[.int .i64 6, .int .i64 op, .int .i64 (na : Int), .int .i64 (nb : Int), .int .i64 (nc : Int), .int .i64 n] 76)).drew.heap[w1.heap.size]? = some (.cells #[.int .i64 6, .int .i64 op, .int .i64 (na : Int), .int .i64 (nb : Int), .int .i64 (nc : Int), .int .i64 n] 76 (0, 0)) := blk_new w1 _
  generalize (w1.alloc (.cells #[.int .i64 6, .int .i64 op, .int .i64 (na : Int), .int .i64 (nb : Int), .int .i64 (nc : Int), .int .i64 n] 76)).drew = w2 at *
  clear f0 f1 f2 f3 f4 f5 hn0 hn1 hn2 hn3 hn4 hn5 hn16 hn20 c16 c20
  have f0 := blk_cell hbx2 0
  have f1 := blk_cell hbx2 1
  have f2 := blk_cell hbx2 2
  have f3 := blk_cell hbx2 3
  have f4 := blk_cell hbx2 4
  have f5 := blk_cell hbx2 5
  have HV2 := Lib.hid (HV1.out.keep hb2)
  have HX2 := Lib.hid (below_blk hb2 HX1.out (blk_lt HX1.out))
  have HB2 := Lib.hid (HB1.out.trans (hb2.mono HB1.out.size))
  have HBX := Lib.hid hbx2
  clear hb2 hbx2
  go_wp2_with (first | (refine wpList_store_mid (by rfl) 35 _ _ (by rfl) w.heap.size 0 #[.int .i64 0, .int .i64 0, .int .i64 0] (by rfl) (by rfl) HT.out (by kernel_rfl) (by simp [Value.oneCell']) ?_) | (go_at_call 27; go_must (refine (address_calls _ p _ _ words fuel first HV2.out HR.out ⟨6, op, (na : Int), (nb : Int), (nc : Int), n⟩ nb rfl HA.out.2).mono ?_); rintro y w3 ⟨rfl, hb3⟩; rw [HAV.out, hin]; clear f0 f1 f2 f3 f4 f5; have f0 := blk_cell (below_blk hb3 HBX.out (blk_lt HBX.out)) 0; have f2 := blk_cell (below_blk hb3 HBX.out (blk_lt HBX.out)) 2; have f4 := blk_cell (below_blk hb3 HBX.out (blk_lt HBX.out)) 4; have HT := Lib.hid (there_at (below_blk hb3 HX2.out (blk_lt HX2.out)) 0 3 (by decide)); have HV3 := Lib.hid (HV2.out.keep hb3); have HB3 := Lib.hid (HB2.out.trans (hb3.mono HB2.out.size)); clear hb3))
  exact want_fin rfl rfl rfl HT.out HB3.out (Nat.le_refl _) Try.underlying35 rfl (by kernel_rfl) (fun w' hw' => ⟨rfl, hw'⟩)
set_option maxRecDepth 100000 in
set_option maxHeartbeats 2000000 in
theorem want_else (w : World) (p : Nat) (Ac : Option Addr) (l : List Ins) (cc : Nat) (words fuel : Int) (first : List Value) (rg : List Int) (j : Nat) (steps value : Int) (h : vmAt w p (St.cells ⟨rg, (j : Int), steps, 0, value⟩) (.slice Ac l.length cc) words fuel first) (hr : rg.length = 16) (hrow : insRow w l Ac) (hj : j < l.length) (hl : l.length ≤ 100000) (K : Int) (op n : Int) (na nb nc : Nat) (ha : na < 16) (hb : nb < 16)
    (hx : l[j] = ⟨K, op, (na : Int), (nb : Int), (nc : Int), n⟩) (k6 : (K == 6) = false) (k7 : (K == 7) = false) (k8 : (K == 8) = false) (k9 : (K == 9) = false) (hst : steps ≠ fuel) (av : Int) (hav : addr ⟨rg, (j : Int), steps, 0, value⟩ ⟨K, op, (na : Int), (nb : Int), (nc : Int), n⟩ = av) :
    Calls Try.prog 11 #[.pointer (some ⟨p, 0, none⟩)] w fun e w' => e = .returned (.agg #[.int .i64 0, .int .i64 0, .int .i64 0]) ∧ Below w.heap.size w w' := by
  obtain ⟨b, o, hA, hcell⟩ := hrow j hj
  rw [hx] at hcell
  subst hA
  have HB0 := Lib.hid (Below.al (Below.refl w.heap.size w) (o := .cells #[.int .i64 0, .int .i64 0, .int .i64 0] 35))
  have hbx := blk_new w (.cells #[.int .i64 0, .int .i64 0, .int .i64 0] 35)
  have hk := h.keep HB0.out
  generalize hw0 : w.alloc (.cells #[.int .i64 0, .int .i64 0, .int .i64 0] 35) = w0 at HB0 hbx hk
  have C17 := Lib.hid ((hk.cell (i := 17) (by decide)).trans (St.cell17 hr))
  have C18 := Lib.hid ((hk.cell (i := 18) (by decide)).trans (St.cell18 hr))
  have C22 := Lib.hid hk.c22
  have HX := Lib.hid hbx
  have HW := Lib.hid hw0
  have HV := Lib.hid hk
  have HR := Lib.hid hr
  have HC := Lib.hid hcell
  have hst' : (steps == fuel) = false := by simp [hst]
  have hj0 : (0 : Int) ≤ (j : Int) := by omega
  have hj1 : (j : Int) < (l.length : Int) := by omega
  have HA := Lib.hid (And.intro ha hb)
  have HAV := Lib.hid hav
  clear hbx hk h hr hw0 hrow hx hcell hst ha hb hav
  go_enter Try.func11, Try.ntmps11
  go_wp2
  rw [HW.out]
  have c17 := C17.out
  have c18 := C18.out
  have c22 := C22.out
  go_quiet ((fail))
  clear c17 c18 c22
  go_wp2
  have hb1 := below_drewN HB0.out nq
  have hx1 : (w0.drewN nq).heap[w.heap.size]? = _ := HX.out
  have hv1 := vm_drewN HV.out nq
  generalize w0.drewN nq = w1 at *
  have HB1 := Lib.hid hb1
  have HX1 := Lib.hid hx1
  have HV1 := Lib.hid hv1
  have c16 := (hv1.cell (i := 16) (by decide)).trans (St.cell16 (s := ⟨rg, (j : Int), steps, 0, value⟩) HR.out)
  have c20 := hv1.c20
  clear hb1 hx1 hv1
  have f0 : w1.cell? ⟨b, o + j * 6, none⟩ = some (.int .i64 K) := HB1.out.cellOf (HC.out 0 _ rfl)
  have hn0 := World.new_ne w1 _ f0
  have f1 : w1.cell? ⟨b, o + j * 6 + 1, none⟩ = some (.int .i64 op) := HB1.out.cellOf (HC.out 1 _ rfl)
  have hn1 := World.new_ne w1 _ f1
  have f2 : w1.cell? ⟨b, o + j * 6 + 2, none⟩ = some (.int .i64 (na : Int)) := HB1.out.cellOf (HC.out 2 _ rfl)
  have hn2 := World.new_ne w1 _ f2
  have f3 : w1.cell? ⟨b, o + j * 6 + 3, none⟩ = some (.int .i64 (nb : Int)) := HB1.out.cellOf (HC.out 3 _ rfl)
  have hn3 := World.new_ne w1 _ f3
  have f4 : w1.cell? ⟨b, o + j * 6 + 4, none⟩ = some (.int .i64 (nc : Int)) := HB1.out.cellOf (HC.out 4 _ rfl)
  have hn4 := World.new_ne w1 _ f4
  have f5 : w1.cell? ⟨b, o + j * 6 + 5, none⟩ = some (.int .i64 n) := HB1.out.cellOf (HC.out 5 _ rfl)
  have hn5 := World.new_ne w1 _ f5
  have hn16 := World.new_ne w1 _ c16
  have hn20 := World.new_ne w1 _ c20
  go_region_held3 (fun W => W.cell? ⟨p, 16, none⟩ = some (.int .i64 (j : Int)) ∧ W.cell? ⟨p, 20, none⟩ = some (.slice (some ⟨b, o, none⟩) l.length cc) ∧ W.cell? ⟨b, o + j * 6, none⟩ = some (.int .i64 K) ∧ W.cell? ⟨b, o + j * 6 + 1, none⟩ = some (.int .i64 op) ∧ W.cell? ⟨b, o + j * 6 + 2, none⟩ = some (.int .i64 (na : Int)) ∧ W.cell? ⟨b, o + j * 6 + 3, none⟩ = some (.int .i64 (nb : Int)) ∧ W.cell? ⟨b, o + j * 6 + 4, none⟩ = some (.int .i64 (nc : Int)) ∧ W.cell? ⟨b, o + j * 6 + 5, none⟩ = some (.int .i64 n)) (go_keep) (fail)
  have hb2 : Below w1.heap.size w1 (w1.alloc (.cells #[.int .i64 K, .int .i64 op, .int .i64 (na : Int), .int .i64 (nb : Int), .int .i64 (nc : Int), .int .i64 n] 76)).drew := ((Below.refl w1.heap.size w1).al).drew
  have hbx2 : (w1.alloc (.cells #[.int .i64 K, .int .i64 op, .int .i64 (na : Int), .int .i64 (nb : Int), .int .i64 (nc : Int), .int .i64 n] 76)).drew.heap[w1.heap.size]? = some (.cells #[.int .i64 K, .int .i64 op, .int .i64 (na : Int), .int .i64 (nb : Int), .int .i64 (nc : Int), .int .i64 n] 76 (0, 0)) := blk_new w1 _
  generalize (w1.alloc (.cells #[.int .i64 K, .int .i64 op, .int .i64 (na : Int), .int .i64 (nb : Int), .int .i64 (nc : Int), .int .i64 n] 76)).drew = w2 at *
  clear f0 f1 f2 f3 f4 f5 hn0 hn1 hn2 hn3 hn4 hn5 hn16 hn20 c16 c20
  have f0 := blk_cell hbx2 0
  have f1 := blk_cell hbx2 1
  have f2 := blk_cell hbx2 2
  have f3 := blk_cell hbx2 3
  have f4 := blk_cell hbx2 4
  have f5 := blk_cell hbx2 5
  have HV2 := Lib.hid (HV1.out.keep hb2)
  have HX2 := Lib.hid (below_blk hb2 HX1.out (blk_lt HX1.out))
  have HB2 := Lib.hid (HB1.out.trans (hb2.mono HB1.out.size))
  have HBX := Lib.hid hbx2
  clear hb2 hbx2
  go_wp2_with (first | (refine wpList_store_mid (by rfl) 35 _ _ (by rfl) w.heap.size 0 #[.int .i64 0, .int .i64 0, .int .i64 0] (by rfl) (by rfl) HT.out (by kernel_rfl) (by simp [Value.oneCell']) ?_) | (go_at_call 27; go_must (refine (address_calls _ p _ _ words fuel first HV2.out HR.out ⟨K, op, (na : Int), (nb : Int), (nc : Int), n⟩ nb rfl HA.out.2).mono ?_); rintro y w3 ⟨rfl, hb3⟩; rw [HAV.out]; clear f0 f1 f2 f3 f4 f5; have f0 := blk_cell (below_blk hb3 HBX.out (blk_lt HBX.out)) 0; have f2 := blk_cell (below_blk hb3 HBX.out (blk_lt HBX.out)) 2; have f4 := blk_cell (below_blk hb3 HBX.out (blk_lt HBX.out)) 4; have HT := Lib.hid (there_at (below_blk hb3 HX2.out (blk_lt HX2.out)) 0 3 (by decide)); have HV3 := Lib.hid (HV2.out.keep hb3); have HB3 := Lib.hid (HB2.out.trans (hb3.mono HB2.out.size)); clear hb3))
  exact want_fin rfl rfl rfl HT.out HB3.out (Nat.le_refl _) Try.underlying35 rfl (by kernel_rfl) (fun w' hw' => ⟨rfl, hw'⟩)
theorem want_calls (w : World) (p : Nat) (Ac : Option Addr) (l : List Ins) (cc : Nat) (words fuel : Int) (first : List Value) (s : St) (h : vmAt w p s.cells (.slice Ac l.length cc) words fuel first) (hr : s.rg.length = 16) (hrow : insRow w l Ac)
    (hl : l.length ≤ 100000) (hok : ∀ x ∈ l, okR x) (ha0 : 0 ≤ s.at0) (ha1 : s.at0 < l.length) :
    Calls Try.prog 11 #[.pointer (some ⟨p, 0, none⟩)] w fun e w' => e = .returned (.agg #[.int .i64 (wantS l words fuel s).1, .int .i64 (wantS l words fuel s).2.1, .int .i64 (wantS l words fuel s).2.2]) ∧ Below w.heap.size w w' := by
  obtain ⟨rg, at0, steps, over, value⟩ := s
  simp only at hr ha0 ha1
  by_cases hov : over = 0
  · subst hov
    by_cases hst : steps = fuel
    · have := want_spent w p Ac l cc words fuel first rg at0 steps value h hr hst
      rwa [show wantS l words fuel ⟨rg, at0, steps, 0, value⟩ = (0, 0, 0) from by simp [wantS, hst]]
    · obtain ⟨j, rfl⟩ : ∃ j : Nat, at0 = j := ⟨at0.toNat, by omega⟩
      have hj : j < l.length := by omega
      have hx := hok _ (List.getElem_mem hj)
      obtain ⟨K, op, a, b, c, n, hxe⟩ : ∃ K op a b c n, l[j] = (⟨K, op, a, b, c, n⟩ : Ins) := ⟨_, _, _, _, _, _, rfl⟩
      rw [hxe] at hx
      obtain ⟨⟨hA0, hA1⟩, ⟨hB0, hB1⟩, hC0, hC1⟩ := hx
      simp only at hA0 hA1 hB0 hB1 hC0 hC1
      obtain ⟨na, rfl⟩ : ∃ i : Nat, a = i := ⟨a.toNat, by omega⟩
      obtain ⟨nb, rfl⟩ : ∃ i : Nat, b = i := ⟨b.toNat, by omega⟩
      obtain ⟨nc, rfl⟩ : ∃ i : Nat, c = i := ⟨c.toNat, by omega⟩
      have hS : wantS l words fuel ⟨rg, (j : Int), steps, 0, value⟩ = wantX words ⟨rg, (j : Int), steps, 0, value⟩ ⟨K, op, na, nb, nc, n⟩ := by
        simp only [wantS]
        rw [if_pos ⟨trivial, hst⟩]
        simp only [Int.toNat_natCast, List.getD, List.getElem?_eq_getElem hj, Option.getD_some, hxe]
      rw [hS]
      obtain ⟨av, hav⟩ : ∃ av, addr ⟨rg, (j : Int), steps, 0, value⟩ ⟨K, op, na, nb, nc, n⟩ = av := ⟨_, rfl⟩
      by_cases h6 : K = 6
      · subst h6
        cases hin : insideB av words
        · have := want_loadno w p Ac l cc words fuel first rg j steps value h hr hrow hj hl op n na nb nc (by omega) (by omega) hxe hst av hav hin
          rwa [show wantX words ⟨rg, (j : Int), steps, 0, value⟩ ⟨6, op, na, nb, nc, n⟩ = (0, 0, 0) from by simp [wantX, hav, hin]]
        · have := want_load w p Ac l cc words fuel first rg j steps value h hr hrow hj hl op n na nb nc (by omega) (by omega) hxe hst av hav hin
          rwa [show wantX words ⟨rg, (j : Int), steps, 0, value⟩ ⟨6, op, na, nb, nc, n⟩ = (1, av, 0) from by simp [wantX, hav, hin]]
      by_cases h7 : K = 7
      · subst h7
        cases hin : insideB av words
        · have := want_storeno w p Ac l cc words fuel first rg j steps value h hr hrow hj hl op n na nb nc (by omega) (by omega) hxe hst av hav hin
          rwa [show wantX words ⟨rg, (j : Int), steps, 0, value⟩ ⟨7, op, na, nb, nc, n⟩ = (0, 0, 0) from by simp [wantX, hav, hin]]
        · have := want_store w p Ac l cc words fuel first rg j steps value h hr hrow hj hl op n na nb nc (by omega) (by omega) hxe hst av hav hin
          rwa [show wantX words ⟨rg, (j : Int), steps, 0, value⟩ ⟨7, op, na, nb, nc, n⟩ = (2, av, St.reg ⟨rg, (j : Int), steps, 0, value⟩ na) from by simp [wantX, hav, hin]]
      by_cases h8 : K = 8
      · subst h8
        have := want_into w p Ac l cc words fuel first rg j steps value h hr hrow hj hl op n na nb nc (by omega) (by omega) hxe hst av hav
        rwa [show wantX words ⟨rg, (j : Int), steps, 0, value⟩ ⟨8, op, na, nb, nc, n⟩ = (3, (nc : Int), St.reg ⟨rg, (j : Int), steps, 0, value⟩ na) from by simp [wantX]]
      by_cases h9 : K = 9
      · subst h9
        have := want_emit w p Ac l cc words fuel first rg j steps value h hr hrow hj hl op n na nb nc (by omega) (by omega) hxe hst av hav
        rwa [show wantX words ⟨rg, (j : Int), steps, 0, value⟩ ⟨9, op, na, nb, nc, n⟩ = (4, 0, St.reg ⟨rg, (j : Int), steps, 0, value⟩ na) from by simp [wantX]]
      have := want_else w p Ac l cc words fuel first rg j steps value h hr hrow hj hl K op n na nb nc (by omega) (by omega) hxe (by simp [h6]) (by simp [h7]) (by simp [h8]) (by simp [h9]) hst av hav
      rwa [show wantX words ⟨rg, (j : Int), steps, 0, value⟩ ⟨K, op, na, nb, nc, n⟩ = (0, 0, 0) from by simp [wantX, h6, h7, h8, h9]]
  · have := want_over w p Ac l cc words fuel first rg at0 steps over value h hr hov
    rwa [show wantS l words fuel ⟨rg, at0, steps, over, value⟩ = (0, 0, 0) from by simp [wantS, hov]]
set_option maxRecDepth 100000 in
theorem vmEnd_calls (w : World) (p : Nat) (code : Value) (words fuel : Int) (first : List Value) (s : St) (h : vmAt w p s.cells code words fuel first) (hr : s.rg.length = 16) :
    Calls Try.prog 14 #[.pointer (some ⟨p, 0, none⟩)] w fun e w' => e = .returned (.tuple #[.int .i64 s.over, .int .i64 s.value]) ∧ Below w.heap.size w w' := by
  have c18 := (h.cell (i := 18) (by decide)).trans (St.cell18 hr)
  have c19 := (h.cell (i := 19) (by decide)).trans (St.cell19 hr)
  clear h hr
  go_enter Try.func14, Try.ntmps14
  go_wp2
  go_quiet ((fail))
  go_wp2
  go_ret2
  exact ⟨rfl, below_drewN (Below.refl _ _) _⟩
end Go.Proofs.Ytnikcdcaaeljmaa.My
