/- A row of calls of the maker, and what it makes of statements of one expression. Conditions: the tree was there in the world W, which is kept; it may be; the registers of its names are there. -/
import Derived.Test.YtjlnpppjkdcpkaaGmGnQ
namespace Go.Proofs.Ytjlnpppjkdcpkaa.My
open Go.RowKit Go.Proofs.Ytjlnpppjkdcpkaa.NumA
set_option linter.unusedVariables false
set_option linter.unusedSimpArgs false
/-- the maker in the midst of a call that has a box of its own at b -/
structure GnRun (W w0 : World) (p : Nat) (O : Value) (wi : World) (G : Gn) (Oi : Value) (A : Option Addr) (c b : Nat) (X : Obj) : Prop where
  gn : GnAt W wi p G Oi A c
  k : Keep (GnOwn p O) w0 wi
  o : ∀ q, Oi.ownBlock = some q → O.ownBlock = some q ∨ w0.heap.size ≤ q
  below : Below W.heap.size W wi
  box : wi.heap[b]? = some X
  hb : ¬ GnOwn p O b
  lt : b < w0.heap.size
theorem GnRun.init {W w : World} {p : Nat} {G : Gn} {O : Value} {A : Option Addr} {c : Nat} (h : GnAt W w p G O A c) (hB : Below W.heap.size W w) (X : Obj) : GnRun W (w.alloc X) p O (w.alloc X) G O A c w.heap.size X :=
  ⟨h.below (Below.refl _ _).al, Keep.refl _ _, fun q hq => .inl hq, hB.alloc hB.size X, blk_new w X, by
    rintro (q | q)
    · have := blk_lt h.blk; omega
    · have := h.out.lt q; omega, by rw [size_al]; omega⟩
theorem GnRun.own {W w0 wi : World} {p : Nat} {G : Gn} {O Oi : Value} {A : Option Addr} {c b : Nat} {X : Obj} (h : GnRun W w0 p O wi G Oi A c b X) : ¬ GnOwn p Oi b := by
  rintro (q | q)
  · exact h.hb (.inl q)
  · rcases h.o _ q with q | q
    · exact h.hb (.inr q)
    · have := h.lt; omega
theorem GnRun.step {W w0 wi wj : World} {p : Nat} {G G' : Gn} {O Oi : Value} {A : Option Addr} {c b : Nat} {X : Obj} (h : GnRun W w0 p O wi G Oi A c b X) (h2 : GnTo W wi p Oi wj G') : ∃ Oj Aj cj, GnRun W w0 p O wj G' Oj Aj cj b X := by
  have hbl := GnTo.below h.gn h.below h2
  have hbx := GnTo.blk h.gn h2 h.box h.own
  obtain ⟨Oj, Aj, cj, g, k, o⟩ := h2
  refine ⟨Oj, Aj, cj, g, h.k.trans k fun q hq e => ?_, fun q hq => ?_, hbl, hbx, h.hb, h.lt⟩
  · rcases e with e | e
    · exact .inl e
    · rcases h.o q e with e | e
      · exact .inr e
      · omega
  · rcases o q hq with e | e
    · exact h.o q e
    · exact .inr (Nat.le_trans h.k.size e)
/-- the end of it, from the world ahead of the box -/
theorem GnRun.to {W w wi : World} {p : Nat} {G : Gn} {O Oi : Value} {A : Option Addr} {c b : Nat} {X Y : Obj} (h : GnRun W (w.alloc Y) p O wi G Oi A c b X) : GnTo W w p O wi G :=
  ⟨Oi, A, c, h.gn, ((Keep.refl (GnOwn p O) w).alloc Y).trans h.k (fun q _ e => e), fun q hq => by
    rcases h.o q hq with e | e
    · exact .inl e
    · rw [size_al] at e; exact .inr (by omega)⟩
theorem GnRun.last {W w wi wj : World} {p : Nat} {G G' : Gn} {O Oi : Value} {A : Option Addr} {c b : Nat} {X Y : Obj} (h : GnRun W (w.alloc Y) p O wi G Oi A c b X) (h2 : GnTo W wi p Oi wj G') : GnTo W w p O wj G' := by
  obtain ⟨Oj, Aj, cj, r⟩ := h.step h2
  exact r.to
/-- what a call of the maker that hands nothing back does -/
def StmtTo (W w : World) (p : Nat) (O : Value) (R : Option Gn) (E : Ending) (w' : World) : Prop := match R with
  | some G' => E = .returned (.tuple #[]) ∧ GnTo W w p O w' G'
  | none => E = deepE ∧ ∃ G', GnTo W w p O w' G'
set_option maxRecDepth 100000 in
set_option maxHeartbeats 2000000 in
theorem gone1_calls (W : World) (kk cc : Int) (e : Expr) (A : Option Addr) (ca d : Nat) (hrd : Expr.rds W e.args A 0) (hr : e.rightB nameB d = true) (G : Gn) (w : World) (p : Nat) (O : Value) (As : Option Addr) (c : Nat) (h : GnAt W w p G O As c) (hB : Below W.heap.size W w) (hu : e.useN ≤ G.slots.length) (hl : G.out.length + e.nodes ≤ 1000000) :
    Calls Try.prog 68 #[.pointer (some ⟨p, 0, none⟩), .int .i64 kk, e.val A ca, .int .i64 cc] w (StmtTo W w p O (oneG G kk e cc)) := by
  unfold Expr.val
  have hr0 := GnRun.init h hB (.cells #[.int .i64 e.kind, .int .i64 e.num, .string e.name, .int .i64 e.op, .slice A e.args.length ca] 66)
  obtain ⟨w1, hw1⟩ : ∃ w1, w.alloc (.cells #[.int .i64 e.kind, .int .i64 e.num, .string e.name, .int .i64 e.op, .slice A e.args.length ca] 66) = w1 := ⟨_, rfl⟩
  obtain ⟨b, hbe⟩ : ∃ b, w.heap.size = b := ⟨_, rfl⟩
  have HEND := Lib.hid (fun wi wj G1 O1 A1 c1 G2 (r : GnRun W w1 p O wi G1 O1 A1 c1 b (.cells #[.int .i64 e.kind, .int .i64 e.num, .string e.name, .int .i64 e.op, .slice A e.args.length ca] 66)) h2 => GnRun.last (w := w) (Y := .cells #[.int .i64 e.kind, .int .i64 e.num, .string e.name, .int .i64 e.op, .slice A e.args.length ca] 66) (hw1 ▸ r) (G' := G2) (wj := wj) h2)
  rw [hw1, hbe] at hr0
  have HR1 := Lib.hid hr0
  have HW := Lib.hid hw1
  have HBE := Lib.hid hbe
  have IHE := gexpr_calls W _ e A ca d (Nat.le_refl _) hrd hr G 11 w1 p O As c hr0.gn hr0.below hu hl (by omega) (by omega)
  unfold Expr.val at IHE
  have HIE := Lib.hid IHE
  have f0 := blk_cell hr0.box 0
  have f1 := blk_cell hr0.box 1
  have f2 := blk_cell hr0.box 2
  have f3 := blk_cell hr0.box 3
  have f4 := blk_cell hr0.box 4
  unfold oneG
  cases hx : exprG G 11 e with
  | none =>
    have HN := Lib.hid hx
    clear hx IHE hr0 hw1 hbe h hB hrd hr hu
    go_enter Try.func68, Try.ntmps68
    go_wp2_with (have tk := HW; clear tk; rw [HW.out, HBE.out]; clear HW)
    refine HIE.out.mono ?_
    rw [HN.out]
    rintro y w3 ⟨rfl, G3, hg⟩
    exact ⟨rfl, rfl, G3, HEND.out _ _ _ _ _ _ _ HR1.out hg⟩
  | some r =>
    obtain ⟨a, t, G1⟩ := r
    have HN := Lib.hid hx
    have HL := Lib.hid (show G1.out.length ≤ 1000000 by have := (exprG_grow e 11 hr hx).2.2.1; omega)
    clear hx IHE hr0 hw1 hbe h hB hrd hr hu
    simp only []
    go_enter Try.func68, Try.ntmps68
    go_wp2_with (have tk := HW; clear tk; rw [HW.out, HBE.out]; clear HW)
    refine HIE.out.mono ?_
    rw [HN.out]
    rintro y w3 ⟨rfl, hg⟩
    obtain ⟨O3, A3, c3, r3⟩ := HR1.out.step hg
    have HR3 := Lib.hid r3
    clear r3 hg f0 f1 f2 f3 f4
    go_wp2_with fail
    refine (put_calls W w3 p G1 O3 A3 c3 HR3.out.gn HR3.out.below HL.out kk 0 a 0 cc 0).mono ?_
    rintro y w4 ⟨rfl, hg4⟩
    go_wp2
    first | go_end0 | refine bodyPost_ret (results_none rfl _ _ _) rfl ?_
    exact ⟨rfl, HEND.out _ _ _ _ _ _ _ HR3.out hg4⟩
set_option maxRecDepth 100000 in
set_option maxHeartbeats 2000000 in
theorem gset_calls (W : World) (e : Expr) (A : Option Addr) (ca d : Nat) (hrd : Expr.rds W e.args A 0) (hr : e.rightB nameB d = true) (G : Gn) (w : World) (p : Nat) (O : Value) (As : Option Addr) (c : Nat) (h : GnAt W w p G O As c) (hB : Below W.heap.size W w) (hu : e.useN + 1 ≤ G.slots.length) (hl : G.out.length + e.nodes ≤ 1000000) :
    Calls Try.prog 66 #[.pointer (some ⟨p, 0, none⟩), e.val A ca] w (StmtTo W w p O (setG G e)) := by
  unfold Expr.val
  have hr0 := GnRun.init h hB (.cells #[.int .i64 e.kind, .int .i64 e.num, .string e.name, .int .i64 e.op, .slice A e.args.length ca] 66)
  obtain ⟨w1, hw1⟩ : ∃ w1, w.alloc (.cells #[.int .i64 e.kind, .int .i64 e.num, .string e.name, .int .i64 e.op, .slice A e.args.length ca] 66) = w1 := ⟨_, rfl⟩
  obtain ⟨b, hbe⟩ : ∃ b, w.heap.size = b := ⟨_, rfl⟩
  have HEND := Lib.hid (fun wi wj G1 O1 A1 c1 G2 (r : GnRun W w1 p O wi G1 O1 A1 c1 b (.cells #[.int .i64 e.kind, .int .i64 e.num, .string e.name, .int .i64 e.op, .slice A e.args.length ca] 66)) h2 => GnRun.last (w := w) (Y := .cells #[.int .i64 e.kind, .int .i64 e.num, .string e.name, .int .i64 e.op, .slice A e.args.length ca] 66) (hw1 ▸ r) (G' := G2) (wj := wj) h2)
  rw [hw1, hbe] at hr0
  have HR1 := Lib.hid hr0
  have HW := Lib.hid hw1
  have HBE := Lib.hid hbe
  have f0 := blk_cell hr0.box 0
  have f1 := blk_cell hr0.box 1
  have f2 := blk_cell hr0.box 2
  have f3 := blk_cell hr0.box 3
  have f4 := blk_cell hr0.box 4
  unfold setG
  by_cases hk : e.kind = 2
  · have hk' : (e.kind == 2) = true := by simp [hk]
    rw [if_pos hk]
    have HU := Lib.hid (show 2 ≤ G.slots.length by rw [Expr.useN_eq, if_pos hk] at hu; omega)
    have HG0 := Lib.hid (show (G.skip 1).slots.getD 0 0 = G.slots.getD 1 0 by simp [Gn.skip, List.getD])
    have HL := Lib.hid (show ((G.skip 1).skip 1).out.length ≤ 1000000 by show G.out.length ≤ _; omega)
    clear hr0 hw1 hbe h hB hrd hr hu hk
    go_enter Try.func66, Try.ntmps66
    go_wp2_with (have tk := HW; clear tk; rw [HW.out, HBE.out]; clear HW)
    refine (slot_calls W w1 p G O As c HR1.out.gn HR1.out.below (by have := HU.out; omega)).mono ?_
    rintro y w3 ⟨rfl, hg⟩
    obtain ⟨O3, A3, c3, r3⟩ := HR1.out.step hg
    have HR3 := Lib.hid r3
    clear r3 hg f0 f1 f2 f3 f4
    go_wp2_with fail
    refine (slot_calls W w3 p (G.skip 1) O3 A3 c3 HR3.out.gn HR3.out.below (by have := HU.out; simp [Gn.skip]; omega)).mono ?_
    rintro y w4 ⟨rfl, hg⟩
    rw [HG0.out]
    obtain ⟨O4, A4, c4, r4⟩ := HR3.out.step hg
    have HR4 := Lib.hid r4
    clear r4 hg
    go_wp2_with fail
    refine (put_calls W w4 p ((G.skip 1).skip 1) O4 A4 c4 HR4.out.gn HR4.out.below HL.out 3 0 (G.slots.getD 1 0) (G.slots.getD 0 0) 0 0).mono ?_
    rintro y w5 ⟨rfl, hg5⟩
    go_wp2
    first | go_end0 | refine bodyPost_ret (results_none rfl _ _ _) rfl ?_
    exact ⟨rfl, HEND.out _ _ _ _ _ _ _ HR4.out hg5⟩
  · have hk' : (e.kind == 2) = false := by simp [hk]
    rw [if_neg hk]
    have IHE := gexpr_calls W _ e A ca d (Nat.le_refl _) hrd hr G 11 w1 p O As c hr0.gn hr0.below (by omega) hl (by omega) (by omega)
    unfold Expr.val at IHE
    have HIE := Lib.hid IHE
    cases hx : exprG G 11 e with
    | none =>
      have HN := Lib.hid hx
      clear hx IHE hr0 hw1 hbe h hB hrd hr hu hk
      go_enter Try.func66, Try.ntmps66
      go_wp2_with (have tk := HW; clear tk; rw [HW.out, HBE.out]; clear HW)
      refine HIE.out.mono ?_
      rw [HN.out]
      rintro y w3 ⟨rfl, G3, hg⟩
      exact ⟨rfl, rfl, G3, HEND.out _ _ _ _ _ _ _ HR1.out hg⟩
    | some r =>
      obtain ⟨a, t, G1⟩ := r
      have HN := Lib.hid hx
      have hgr := exprG_grow e 11 hr hx
      have HL := Lib.hid (show G1.out.length ≤ 1000000 by have := hgr.2.2.1; omega)
      have HS1 := Lib.hid (show 0 < G1.slots.length by rw [hgr.1]; simp; omega)
      have hpos := hgr.2.2.2 hk
      obtain ⟨j, hj⟩ : ∃ j, G1.out.length = j + 1 := ⟨G1.out.length - 1, by omega⟩
      have HJ := Lib.hid hj
      clear hx IHE hr0 hw1 hbe h hB hrd hr hu hk hgr hpos hj
      simp only []
      go_enter Try.func66, Try.ntmps66
      go_wp2_with (have tk := HW; clear tk; rw [HW.out, HBE.out]; clear HW)
      refine HIE.out.mono ?_
      rw [HN.out]
      rintro y w3 ⟨rfl, hg⟩
      obtain ⟨O3, A3, c3, r3⟩ := HR1.out.step hg
      have HR3 := Lib.hid r3
      obtain ⟨g, cX, hO3, hcx, hfr⟩ := r3.gn.outAt (i := j) (by have := HJ.out; omega)
      subst hO3
      have q0 : w3.cell? ⟨p, 0, none⟩ = some (.slice (some ⟨g, 0, none⟩) G1.out.length cX) := blk_cell r3.gn.blk 0
      have hsub : (G1.out.length : Int) - 1 = (j : Int) := by have := HJ.out; omega
      have hj0 : (0 : Int) ≤ (j : Int) := by omega
      have hj1 : (j : Int) < (G1.out.length : Int) := by have := HJ.out; omega
      have HHL := Lib.hid (show (G1.out.length : Int) ≤ 1000000 by have := HL.out; omega)
      clear r3 hg f0 f1 f2 f3 f4 hfr
      go_wp2_with fail
      have hG3 := HR3.out.gn
      have hwj : IntKind.i64.wrap (j : Int) = (j : Int) := by have := HHL.out; simp [IntKind.wrap, IntKind.signed, IntKind.bits]; omega
      have hHS : w3.drew.cell? ⟨p, 0, none⟩ = some (.slice (some ⟨g, 0, none⟩) G1.out.length cX) := q0
      refine wp_region_noPanic ?_
      refine wp_region_held_drew (S := fun V => V.cell? ⟨p, 0, none⟩ = some (.slice (some ⟨g, 0, none⟩) G1.out.length cX)) (by kernel_rfl) hHS (fun hHeld => ?_)
      refine wpAnyH_take (i := 0) (oi := ⟨some 19, _, _, _, _, _⟩) (v := .pointer (some ⟨p, 0, none⟩)) rfl (by kernel_rfl) (by kernel_rfl) (by kernel_rfl) (fun _ _ _ h => h) (Or.inl ⟨by rfl, fun V hV => by go_simp⟩) (by assumption) ?_
      try simp only [Act.put, List.setIfInBounds_toArray, List.set_cons_zero, List.set_cons_succ]
      refine wpAnyH_take (i := 1) (oi := ⟨some 20, _, _, _, _, _⟩) (v := .pointer (some ⟨p, 0, none⟩)) rfl (by kernel_rfl) (by kernel_rfl) (by kernel_rfl) (fun _ _ _ h => h) (Or.inl ⟨by rfl, fun V hV => by go_simp⟩) (by assumption) ?_
      try simp only [Act.put, List.setIfInBounds_toArray, List.set_cons_zero, List.set_cons_succ]
      refine wpAnyH_take (i := 2) (oi := ⟨some 21, _, _, _, _, _⟩) (v := .pointer (some ⟨p, 0, none⟩)) rfl (by kernel_rfl) (by kernel_rfl) (by kernel_rfl) (fun _ _ _ h => h) (Or.inl ⟨by rfl, fun V hV => by go_simp⟩) (by assumption) ?_
      try simp only [Act.put, List.setIfInBounds_toArray, List.set_cons_zero, List.set_cons_succ]
      refine wpAnyH_take (i := 3) (oi := ⟨some 22, _, _, _, _, _⟩) (v := .slice (some ⟨g, 0, none⟩) G1.out.length cX) rfl (by kernel_rfl) (by kernel_rfl) (by kernel_rfl) (fun _ _ _ h => h) (Or.inl ⟨by rfl, fun V hV => by have q9 := hV; go_simp⟩) (by assumption) ?_
      try simp only [Act.put, List.setIfInBounds_toArray, List.set_cons_zero, List.set_cons_succ]
      refine wpAnyH_take (i := 4) (oi := ⟨some 23, _, _, _, _, _⟩) (v := .pointer (some ⟨p, 0, none⟩)) rfl (by kernel_rfl) (by kernel_rfl) (by kernel_rfl) (fun _ _ _ h => h) (Or.inl ⟨by rfl, fun V hV => by go_simp⟩) (by assumption) ?_
      try simp only [Act.put, List.setIfInBounds_toArray, List.set_cons_zero, List.set_cons_succ]
      refine wpAnyH_take (i := 5) (oi := ⟨some 24, _, _, _, _, _⟩) (v := .pointer (some ⟨p, 0, none⟩)) rfl (by kernel_rfl) (by kernel_rfl) (by kernel_rfl) (fun _ _ _ h => h) (Or.inl ⟨by rfl, fun V hV => by go_simp⟩) (by assumption) ?_
      try simp only [Act.put, List.setIfInBounds_toArray, List.set_cons_zero, List.set_cons_succ]
      refine wpAnyH_take (i := 6) (oi := ⟨some 25, _, _, _, _, _⟩) (v := .pointer (some ⟨p, 0, none⟩)) rfl (by kernel_rfl) (by kernel_rfl) (by kernel_rfl) (fun _ _ _ h => h) (Or.inl ⟨by rfl, fun V hV => by go_simp⟩) (by assumption) ?_
      try simp only [Act.put, List.setIfInBounds_toArray, List.set_cons_zero, List.set_cons_succ]
      refine wpAnyH_take (i := 7) (oi := ⟨some 26, _, _, _, _, _⟩) (v := .slice (some ⟨g, 0, none⟩) G1.out.length cX) rfl (by kernel_rfl) (by kernel_rfl) (by kernel_rfl) (fun _ _ _ h => h) (Or.inl ⟨by rfl, fun V hV => by have q9 := hV; go_simp⟩) (by assumption) ?_
      try simp only [Act.put, List.setIfInBounds_toArray, List.set_cons_zero, List.set_cons_succ]
      refine wpAnyH_take (i := 8) (oi := ⟨some 27, _, _, _, _, _⟩) (v := .int .i64 (G1.out.length : Int)) rfl (by kernel_rfl) (by kernel_rfl) (by kernel_rfl) (fun _ _ _ h => h) (Or.inl ⟨by rfl, fun V hV => by go_simp⟩) (by assumption) ?_
      try simp only [Act.put, List.setIfInBounds_toArray, List.set_cons_zero, List.set_cons_succ]
      refine wpAnyH_take (i := 9) (oi := ⟨some 28, _, _, _, _, _⟩) (v := .int .i64 (j : Int)) rfl (by kernel_rfl) (by kernel_rfl) (by kernel_rfl) (fun _ _ _ h => h) (Or.inl ⟨by rfl, fun V hV => by go_simp⟩) (by assumption) ?_
      try simp only [Act.put, List.setIfInBounds_toArray, List.set_cons_zero, List.set_cons_succ]
      refine wpAnyH_take (i := 10) (oi := ⟨some 29, _, _, _, _, _⟩) (v := .pointer (some ⟨p, 0, none⟩)) rfl (by kernel_rfl) (by kernel_rfl) (by kernel_rfl) (fun _ _ _ h => h) (Or.inl ⟨by rfl, fun V hV => by go_simp⟩) (by assumption) ?_
      try simp only [Act.put, List.setIfInBounds_toArray, List.set_cons_zero, List.set_cons_succ]
      refine wpAnyH_ready (rs := [11]) (by kernel_rfl) (by simp) ?_
      refine AllReadyH.cons (o := ⟨some 30, _, _, _, _, _⟩) rfl (fun K hK => ?_) AllReadyH.nil
      go_simp
      refine (slotX_calls W w3.drew p G1 _ A3 c3 hG3.drew HR3.out.below.drew HS1.out).mono ?_
      rintro y w4 ⟨rfl, A4, c4, g4, k4⟩
      refine hK.out _ _ (blk_cell g4.blk 0) (fun hHeld' => ?_)
      clear hK K hHeld
      have hHeld := hHeld'
      clear hHeld'
      try simp only [Act.put, List.setIfInBounds_toArray, List.set_cons_zero, List.set_cons_succ]
      refine wpAnyH_take (i := 12) (oi := ⟨some 31, _, _, _, _, _⟩) (v := .pointer (some ⟨g, j * 6, none⟩)) rfl (by kernel_rfl) (by kernel_rfl) (by kernel_rfl) (fun _ _ _ h => h) (Or.inl ⟨by rfl, fun V hV => by go_simp⟩) (by assumption) ?_
      try simp only [Act.put, List.setIfInBounds_toArray, List.set_cons_zero, List.set_cons_succ]
      refine wpAnyH_take (i := 13) (oi := ⟨some 32, _, _, _, _, _⟩) (v := .pointer (some ⟨g, j * 6 + 2, none⟩)) rfl (by kernel_rfl) (by kernel_rfl) (by kernel_rfl) (fun _ _ _ h => h) (Or.inl ⟨by rfl, fun V hV => by go_simp⟩) (by assumption) ?_
      try simp only [Act.put, List.setIfInBounds_toArray, List.set_cons_zero, List.set_cons_succ]
      have hji : j < (G1.skip 1).out.length := by show j < G1.out.length; omega
      have hset := g4.setAt (W := W) (w := w4) (i := j) (m := 2) (u := .int .i64 (G1.slots.getD 0 0)) (f := fun x => { x with a := G1.slots.getD 0 0 }) (Keep.refl _ w4) hji (by omega) rfl
      have HFIN := Lib.hid (HEND.out w3.drew _ G1 _ A3 c3 ((G1.skip 1).upd j fun x => { x with a := G1.slots.getD 0 0 }) (⟨HR3.out.gn.drew, HR3.out.k.drew, HR3.out.o, HR3.out.below.drew, HR3.out.box, HR3.out.hb, HR3.out.lt⟩) (GnTo.trans g4 ⟨k4.os, k4.tape, k4.output, k4.size, fun q hq hn => k4.block q hq fun e => hn (.inl e)⟩ (fun q hq => .inl hq) hset))
      have hcell : ∃ a0, w4.cell? ⟨g, j * 6 + 2, none⟩ = some (.int .i64 a0) := by
        have h1 := insCells_get (G1.skip 1).out j 2 hji (by omega)
        obtain ⟨g', e', h2⟩ := g4.out.cellA (u := .int .i64 ((G1.skip 1).out[j]).a) (by rw [h1]; rfl)
        simp only [Option.some.injEq, Addr.mk.injEq] at e'
        obtain ⟨e', _⟩ := e'
        subst e'
        exact ⟨_, h2⟩
      obtain ⟨a0, hx4⟩ := hcell
      have hfz : w4.frozen? ⟨g, j * 6 + 2, none⟩ = false := g4.out.freeA _
      have hq9 : (w4.setCell ⟨g, j * 6 + 2, none⟩ (.int .i64 (G1.slots.getD 0 0))).cell? ⟨p, 0, none⟩ = some (.slice (some ⟨g, 0, none⟩) G1.out.length cX) := blk_cell (blk_far g4.blk (show p ≠ (⟨g, j * 6 + 2, none⟩ : Addr).block from fun e => g4.out.ne g4.blk (by decide) (by rw [e]; rfl)) _) 0
      clear hset g4 k4
      refine wpAnyH_ready (rs := [14]) (by kernel_rfl) (by simp) ?_
      refine AllReadyH.cons (o := ⟨none, _, _, _, _, _⟩) rfl (fun K hK => ?_) AllReadyH.nil
      go_simp
      refine hK.out _ _ hq9 (fun hHeld' => ?_)
      refine wpAnyH_done (by kernel_rfl) ?_ _
      refine NoPanic.normal ?_
      first | go_end0 | refine bodyPost_ret (results_none rfl _ _ _) rfl ?_
      have hj' : G1.out.length - 1 = j := by have := HJ.out; omega
      rw [hj']
      exact ⟨rfl, HFIN.out⟩
end Go.Proofs.Ytjlnpppjkdcpkaa.My
