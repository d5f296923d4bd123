/- The document's way through a statement. Conditions: the tree was there in the world W, which is kept; it may be. -/
import Derived.Test.YtjlnpppjkdcpkaaGmGnUd
namespace Go.Proofs.Ytjlnpppjkdcpkaa.My
open Go.RowKit Go.Maps Go.Proofs.Ytjlnpppjkdcpkaa.NumA
set_option linter.unusedVariables false
set_option linter.unusedSimpArgs false
structure WhAt (w : World) (pm pr p7 : Nat) (v7 : Value × Value × Bool) (l7 : List Ins) (th : List ByteArray) (wx : World) (L : List Ins) (A : Option Addr) (c : Nat) (B : Option Addr) (b : Nat) : Prop where
  bel : Below w.heap.size w wx
  mm : wx.heap[pm]? = some (mC (.slice A L.length c) (.slice B th.length b) false)
  res : wx.heap[pr]? = some (mC (.slice none 0 0) (.slice none 0 0) false)
  b7 : wx.heap[p7]? = some (mC v7.1 v7.2.1 v7.2.2)
  rl : Row wx 42 6 (.slice A L.length c) L.length (insCells L)
  rt : Row wx 9 1 (.slice B th.length b) th.length (th.map .string)
  own : ∀ g, (Value.slice A L.length c).ownBlock = some g → w.heap.size ≤ g
  r7 : ApR wx (.slice A L.length c) v7.1 l7.length (insCells l7)
  hm : w.heap.size ≤ pm
  nr : pr ≠ pm
  n7 : p7 ≠ pm
theorem WhAt.below {w : World} {pm pr p7 : Nat} {v7 : Value × Value × Bool} {l7 : List Ins} {th : List ByteArray} {wx wy : World} {L : List Ins} {A : Option Addr} {c : Nat} {B : Option Addr} {b : Nat} (h : WhAt w pm pr p7 v7 l7 th wx L A c B b) (hB : Below wx.heap.size wx wy) : WhAt w pm pr p7 v7 l7 th wy L A c B b :=
  ⟨h.bel.trans (hB.mono h.bel.size), below_blk hB h.mm (blk_lt h.mm), below_blk hB h.res (blk_lt h.res), below_blk hB h.b7 (blk_lt h.b7), h.rl.below hB, h.rt.below hB, h.own, ⟨h.r7.1.below hB, h.r7.2⟩, h.hm, h.nr, h.n7⟩
theorem WhAt.push {w : World} {pm pr p7 : Nat} {v7 : Value × Value × Bool} {l7 : List Ins} {th : List ByteArray} {w1 w' : World} {L Y : List Ins} {A A' : Option Addr} {c c' n : Nat} {B : Option Addr} {b : Nat} (h : WhAt w pm pr p7 v7 l7 th w1 L A c B b)
    (hn : n = L.length + Y.length) (hrow : Row w' 42 6 (.slice A' n c') n (insCells L ++ insCells Y)) (hg : w1.grownBy w' (Value.slice A L.length c).ownBlock) (hown : (Value.slice A' n c').ownBlock = (Value.slice A L.length c).ownBlock ∨ (Value.slice A' n c').ownBlock = some w1.heap.size) :
    WhAt w pm pr p7 v7 l7 th (w'.setCell ⟨pm, 0, none⟩ (.slice A' n c')) (L ++ Y) A' c' B b := by
  have hbb := grown_blk hg h.mm (h.rl.ne h.mm (by decide))
  have far : ∀ {e : TypeId} {z m : Nat} {v : Value} {xs : List Value}, Row w1 e z v m xs → e ≠ 42 → e ≠ 80 → Row (w'.setCell ⟨pm, 0, none⟩ (.slice A' n c')) e z v m xs := fun hr h1 h2 =>
    rowSet (hr.keep fun g hgg => hg.block g (hr.lt hgg) fun e => rows_apart hr h.rl h1 g hgg e.symm) (hr.ne h.mm h2)
  have box : ∀ {q : Nat} {cs : Array Value} {t : TypeId}, q ≠ pm → w1.heap[q]? = some (.cells cs t (0, 0)) → 42 ≠ t → (w'.setCell ⟨pm, 0, none⟩ (.slice A' n c')).heap[q]? = some (.cells cs t (0, 0)) := fun hq hc ht => blk_far (grown_blk hg hc (h.rl.ne hc ht)) hq _
  have apr : ∀ {v : Value} {m : Nat} {xs : List Value}, ApR w1 (.slice A L.length c) v m xs → ApR (w'.setCell ⟨pm, 0, none⟩ (.slice A' n c')) (.slice A' n c') v m xs := fun hr =>
    ⟨rowSet (hr.1.keep fun g hgg => hg.block g (hr.1.lt hgg) fun e => hr.2 g hgg e.symm) (hr.1.ne h.mm (by decide)), fun g hgg e => by
      rcases hown with e1 | e1
      · exact hr.2 g hgg (e1 ▸ e)
      · rw [e1] at e; have := Option.some.inj e; have := hr.1.lt hgg; omega⟩
  subst hn
  have hlen : L.length + Y.length = (L ++ Y).length := by simp
  have h1 := (Below.grown h.bel hg h.bel.size h.own).setCell (p := ⟨pm, 0, none⟩) h.hm (.slice A' (L.length + Y.length) c')
  have h4 := blk_set hbb 0 (.slice A' (L.length + Y.length) c')
  have h5 := box h.nr h.res (by decide)
  have h6 := box h.n7 h.b7 (by decide)
  have h8 := far h.rt (by decide) (by decide)
  have h9 := apr h.r7
  have ho : ∀ g, (Value.slice A' (L.length + Y.length) c').ownBlock = some g → w.heap.size ≤ g := fun g hgg => by
    rcases hown with e | e
    · rw [e] at hgg; exact h.own g hgg
    · rw [e] at hgg; have := Option.some.inj hgg; have := h.bel.size; omega
  have hr := rowSet (b := pm) (i := 0) (u := .slice A' (L.length + Y.length) c') hrow (hrow.ne hbb (by decide))
  rw [hlen] at h1 h4 h5 h6 h8 h9 ho hr ⊢
  rw [← insCells_app] at hr
  exact ⟨h1, h4, h5, h6, hr, h8, ho, h9, h.hm, h.nr, h.n7⟩
set_option maxRecDepth 100000 in
set_option maxHeartbeats 8000000 in
theorem done_7 (W : World) (N : Nat) (ih : DOneIH W N) (s : Stmt) (A0 : Option Addr) (c0 : Nat) (A1 : Option Addr) (c1 : Nat) (A2 : Option Addr) (c2 d : Nat) (hN : s.nodes ≤ N + 1) (hrd : Expr.rds W s.args A0 0) (hrd1 : Stmt.rds W s.body A1 0) (hrd2 : Stmt.rds W s.els A2 0) (hr : s.rightB nameB d = true) (hl : s.nodes ≤ 100000) (th : List ByteArray) (V : Value) (w : World) (hB : Below W.heap.size W w) (hth : Row w 9 1 V th.length (th.map .string)) (htl : th.length + s.nodes ≤ 900) (hk : s.kind = 7) :
    Calls Try.prog 51 #[s.val A0 c0 A1 c1 A2 c2, V] w (MDo (stmtM th s) w) := by
  obtain ⟨hkk, hla, hrr, hlb, hle, hrb, hre⟩ := Stmt.right_parts hr
  have hne := s.nodes_eq
  have hm := stmtM_eq th s
  obtain ⟨TA, tc, hV, _⟩ := hth.slice
  subst hV
  unfold Stmt.val
  have hx := blk_alloc (blk_new w (.cells #[.int .i64 s.kind, .string s.name, .int .i64 s.cell, .slice A0 s.args.length c0, .slice A1 s.body.length c1, .slice A2 s.els.length c2] 36)) (mC (.slice none 0 0) (.slice none 0 0) false)
  have hy := blk_new (w.alloc (.cells #[.int .i64 s.kind, .string s.name, .int .i64 s.cell, .slice A0 s.args.length c0, .slice A1 s.body.length c1, .slice A2 s.els.length c2] 36)) (mC (.slice none 0 0) (.slice none 0 0) false)
  rw [size_al] at hy
  have hb0 : Below w.heap.size w ((w.alloc (.cells #[.int .i64 s.kind, .string s.name, .int .i64 s.cell, .slice A0 s.args.length c0, .slice A1 s.body.length c1, .slice A2 s.els.length c2] 36)).alloc (mC (.slice none 0 0) (.slice none 0 0) false)) := ((Below.refl _ _).al).al
  have hz0 : ((w.alloc (.cells #[.int .i64 s.kind, .string s.name, .int .i64 s.cell, .slice A0 s.args.length c0, .slice A1 s.body.length c1, .slice A2 s.els.length c2] 36)).alloc (mC (.slice none 0 0) (.slice none 0 0) false)).heap.size = w.heap.size + 2 := by rw [size_al, size_al]
  obtain ⟨w0, hw0⟩ : ∃ w0, ((w.alloc (.cells #[.int .i64 s.kind, .string s.name, .int .i64 s.cell, .slice A0 s.args.length c0, .slice A1 s.body.length c1, .slice A2 s.els.length c2] 36)).alloc (mC (.slice none 0 0) (.slice none 0 0) false)) = w0 := ⟨_, rfl⟩
  rw [hw0] at hx hy hb0 hz0
  unfold mC at hw0
  have HX := Lib.hid hx
  have HY := Lib.hid hy
  have HB0 := Lib.hid hb0
  have HW := Lib.hid hw0
  have HZ := Lib.hid hz0
  have HB := Lib.hid hB
  have HT0 := Lib.hid (hth.below hb0)
  have hws := hB.size
  have x0 := blk_cell hx 0
  have HWB := Lib.hid (hB.trans (hb0.mono hws))
  have hlen : s.args.length = 1 := by simp [wantA, hk] at hla; omega
  have hj0 : 0 < s.args.length := by omega
  have hga0 : s.args.getD 0 default = s.args[0]'hj0 := by simp [List.getD, hj0]
  have hn0 := Expr.nodesL_take s.args 0 hj0
  have hra0 := Expr.rightsB_all hrr (s.args[0]'hj0) (List.getElem_mem hj0)
  rw [hga0] at hm
  obtain ⟨ba0, oa0, B0, d0, hA0, hba0, m00, m01, m02, m03, m04, hc0, hs0, hrd0'⟩ := Expr.at hrd HWB.out hj0
  simp only [Nat.zero_mul, Nat.add_zero] at m00 m01 m02 m03 m04
  obtain ⟨e0, he0⟩ : ∃ e, s.args[0]'hj0 = e := ⟨_, rfl⟩
  rw [he0] at m00 m01 m02 m03 m04 hrd0' hra0 hn0 hm
  have hI := dexpr_calls W e0.nodes e0 B0 d0 1 (Nat.le_refl _) hrd0' (by omega) hra0 th (.slice TA th.length tc) 11 w0 HWB.out (hth.below hb0) (by omega) (by omega) (by omega)
  have HI := Lib.hid hI
  have HL := Lib.hid (fun r h => exprD_len (r := r) (th := th) (t := 11) hra0 h)
  have hN0 : e0.nodes ≤ 100000 := by omega
  have hj0' : (0 : Int) < (s.args.length : Int) := by omega
  subst hA0
  have x3 := blk_cell hx 3
  rw [if_neg (by omega), if_neg (by omega), if_neg (by omega), if_neg (by omega), if_neg (by omega), if_neg (by omega), if_neg (by omega), if_neg (by omega), if_pos hk] at hm
  have HMM := Lib.hid hm
  have hmb := blockM_len s.body ⟨[], th, false⟩ hrb
  simp only [List.length_nil, Nat.zero_add] at hmb
  have hI1 := fun w' (hb : Below w0.heap.size w0 w') => dblock_of W N ih s.body A1 c1 (d + 1) (by omega) hrd1 hrb (by omega) th (.slice TA th.length tc) w' (HWB.out.trans (hb.mono HWB.out.size)) (HT0.out.below hb) (by omega)
  obtain ⟨Bm, hBm⟩ : ∃ b, blockM ⟨[], th, false⟩ s.body = b := ⟨_, rfl⟩
  rw [hBm] at hI1 hmb
  have hbl : Bm.l.length ≤ 300000 := by omega
  have HBM := Lib.hid hBm
  have HI1 := Lib.hid hI1
  have t1 : (s.kind == 1) = false := by simp [hk]
  have t2 : (s.kind == 2) = false := by simp [hk]
  have t9 : (s.kind == 9) = false := by simp [hk]
  have t3 : (s.kind == 3) = false := by simp [hk]
  have t4 : (s.kind == 4) = false := by simp [hk]
  have t5 : (s.kind == 5) = false := by simp [hk]
  have t8 : (s.kind == 8) = false := by simp [hk]
  have t6 : (s.kind == 6) = false := by simp [hk]
  have t7 : (s.kind == 7) = true := by simp [hk]
  clear hm hI hI1 hga0 hra0 hrd0' hn0 he0 hlen hc0 hs0 hk hBm hmb
  clear hx hy hb0 hw0 hz0 hrr hlb hle hrb hre hr hla hkk hne hth hB hrd hrd1 hrd2 ih
  cases hx : exprD th 11 e0 with
  | none =>
    have HM := Lib.hid (show stmtM th s = ⟨[], [], true⟩ by rw [HMM.out, hx])
    go_enter Try.func51, Try.ntmps51
    go_wp2_with (have tk := HW; clear tk; rw [HW.out]; clear HW)
    refine HI.out.mono ?_
    intro E w1 hd
    obtain ⟨rfl, hb1⟩ := hd.none hx
    have hyy := below_blk hb1 HY.out (blk_lt HY.out)
    have y0 := blk_cell (hyy) 0
    have y1 := blk_cell (hyy) 1
    have y2 := blk_cell (hyy) 2
    have yf := blk_free (hyy)
    have HYY := Lib.hid hyy
    have HB1 := Lib.hid (HB0.out.trans (hb1.mono HB0.out.size))
    clear hyy hb1 hd x0 x3 m00 m01 m02 m03 m04
    go_wp2
    refine bodyPost_ret (results_cell rfl _ _ (w.heap.size + 1) [.slice none 0 0, .slice none 0 0, .bool true] (by rfl) (range_at (blk_set (blk_set (blk_set (HYY.out) 0 _) 1 _) 2 _) 0 [.slice none 0 0, .slice none 0 0, .bool true] rfl) rfl rfl (by kernel_rfl)) rfl ?_
    rw [HM.out]
    exact MDo.fin (m := ⟨[], [], true⟩) HB1.out HYY.out (Row.nil _ _ _) (Row.nil _ _ _) (fun g hg => by simp [Value.ownBlock] at hg) _ _ _ rfl
  | some r =>
    obtain ⟨a, t, X⟩ := r
    have HM := Lib.hid (show stmtM th s = whileM X a th Bm by rw [HMM.out, hx, ← HBM.out])
    have hXl := (HL.out _ hx).1
    simp only at hXl
    go_enter Try.func51, Try.ntmps51
    go_wp2_with (have tk := HW; clear tk; rw [HW.out]; clear HW)
    refine HI.out.mono ?_
    intro E w1 hd
    obtain ⟨XA, xc, rfl, hb1, hr1, ho1⟩ := hd.some hx
    have HB1 := Lib.hid (HB0.out.trans (hb1.mono HB0.out.size))
    have HO1 := Lib.hid (show ∀ g, (Value.slice XA X.length xc).ownBlock = some g → w.heap.size ≤ g from fun g hg => Nat.le_trans HB0.out.size (ho1 g hg))
    have HX1 := Lib.hid (below_blk hb1 HX.out (blk_lt HX.out))
    have HY1 := Lib.hid (below_blk hb1 HY.out (blk_lt HY.out))
    have HR1 := Lib.hid hr1
    have HB01 := Lib.hid hb1
    have HT1 := Lib.hid (HT0.out.below hb1)
    have hz1 : w.heap.size + 2 ≤ w1.heap.size := by have := hb1.size; have := HZ.out; omega
    clear hb1 hr1 ho1 hd x0 x3 m00 m01 m02 m03 m04 hx
    obtain ⟨w2, hw2⟩ : ∃ w2, w1.alloc (mC (.slice XA X.length xc) (.slice TA th.length tc) false) = w2 := ⟨_, rfl⟩
    have hq := blk_new w1 (mC (.slice XA X.length xc) (.slice TA th.length tc) false)
    have hb2 : Below w.heap.size w w2 := hw2 ▸ HB1.out.al
    have hb12 : Below w1.heap.size w1 w2 := hw2 ▸ (Below.refl _ _).al
    rw [hw2] at hq
    unfold mC at hw2
    have HW2 := Lib.hid hw2
    have HQ2 := Lib.hid (show w2.heap[w1.heap.size]? = some (mC (.slice XA X.length xc) (.slice TA th.length tc) false) from hq)
    have HB2 := Lib.hid hb2
    have HX2 := Lib.hid (below_blk hb12 HX1.out (blk_lt HX1.out))
    have HY2 := Lib.hid (below_blk hb12 HY1.out (blk_lt HY1.out))
    have HR2 := Lib.hid (HR1.out.below hb12)
    have HT2 := Lib.hid (HT1.out.below hb12)
    have HNE := Lib.hid (HR2.out.ne HQ2.out (by decide))
    have hz2 : w1.heap.size + 1 ≤ w2.heap.size := by have := blk_lt HQ2.out; omega
    clear hw2 hq hb2 hb12
    have x0 := blk_cell HX2.out 0
    have q0 := blk_cell HQ2.out 0
    have HB02 := Lib.hid (show Below w0.heap.size w0 w2 from by have h := HW2.out; unfold mC at *; rw [← h]; exact HB01.out.al)
    have HI2 := Lib.hid (HI1.out w2 HB02.out)
    have x4 := blk_cell HX2.out 4
    have HXLT := Lib.hid (show ∀ g, (Value.slice XA X.length xc).ownBlock = some g → g < w2.heap.size from fun g hg => HR2.out.lt hg)
    go_wp2_with (have tk := HW2; clear tk; rw [HW2.out]; clear HW2)
    refine HI2.out.mono ?_
    intro E w3 hd
    obtain ⟨BA, bc, BB, bb, rfl, hb3, hr3, hrt3, ho3⟩ := hd.split
    have hq3 := blk_new w3 (mC (.slice BA Bm.l.length bc) (.slice BB Bm.th.length bb) Bm.deep)
    have hb34 : Below w2.heap.size w2 (w3.alloc (mC (.slice BA Bm.l.length bc) (.slice BB Bm.th.length bb) Bm.deep)) := hb3.al
    have hr4 := hr3.alloc (mC (.slice BA Bm.l.length bc) (.slice BB Bm.th.length bb) Bm.deep)
    have hz3 := hb3.size
    obtain ⟨w4, hw4⟩ : ∃ w4, w3.alloc (mC (.slice BA Bm.l.length bc) (.slice BB Bm.th.length bb) Bm.deep) = w4 := ⟨_, rfl⟩
    rw [hw4] at hq3 hb34 hr4
    unfold mC at hw4
    have HW4 := Lib.hid hw4
    have HBR := Lib.hid (show WhAt w w1.heap.size (w.heap.size + 1) w3.heap.size (.slice BA Bm.l.length bc, .slice BB Bm.th.length bb, Bm.deep) Bm.l th w4 X XA xc TA tc from ⟨HB2.out.trans (hb34.mono HB2.out.size), below_blk hb34 HQ2.out (blk_lt HQ2.out), below_blk hb34 HY2.out (blk_lt HY2.out), hq3, HR2.out.below hb34, HT2.out.below hb34, HO1.out, ⟨hr4, fun g hg e => by have := ho3 g hg; have := HXLT.out g e; omega⟩, by omega, by omega, by omega⟩)
    have HNE3 := Lib.hid (HBR.out.rl.ne HBR.out.mm (by decide))
    have HX4 := Lib.hid (below_blk hb34 HX2.out (blk_lt HX2.out))
    have hw1 : IntKind.i64.wrap ((X.length : Int) + 1) = (X.length : Int) + 1 := by simp [IntKind.wrap, IntKind.signed, IntKind.bits]; omega
    have HW1 := Lib.hid hw1
    have hce : (((X.length + 1 + Bm.l.length + 1 : Nat) : Int)) = (X.length : Int) + 1 + (Bm.l.length : Int) + 1 := by omega
    have HCE := Lib.hid hce
    clear x0 x4 q0 hd hb3 hr3 hrt3 ho3 hq3 hb34 hr4 hw4 hw1 hce
    have x0 := blk_cell HX4.out 0
    have q0 := blk_cell HBR.out.mm 0
    have y7 := blk_cell HBR.out.b7 0
    go_wp2_with (first
      | (have tk := HW4; clear tk; rw [HW4.out]; clear HW4)
      | (at_builtin; go_must (refine wpList_append_rows _ rfl _ _ 24 rfl 42 (.agg #[.int .i64 0, .int .i64 0, .int .i64 0, .int .i64 0, .int .i64 0, .int .i64 0]) 6 48 Try.underlying24 info_ins rfl (.slice XA (X.length) xc) (X.length) (insCells X) rfl (HBR.out.rl.alloc _) (.slice (some ⟨w4.heap.size, 0, none⟩) 1 1) 1 [.int .i64 11, .int .i64 0, .int .i64 a, .int .i64 0, .int .i64 0, .int .i64 ((X.length : Int) + 1 + (Bm.l.length : Int) + 1)] rfl (Row.laid (n := 1) (cs := #[.int .i64 11, .int .i64 0, .int .i64 a, .int .i64 0, .int .i64 0, .int .i64 ((X.length : Int) + 1 + (Bm.l.length : Int) + 1)]) (size := 6) rfl rfl (by decide)) (by simp [Value.oneCell']) (by unfold maxLen; omega) (by omega) ?_); intro v' w' hrow' hgrow hown; obtain ⟨A5, c5, hv', hc'⟩ := hrow'.slice; subst hv'; have hbb := grown_blk hgrow (blk_alloc HBR.out.mm _) HNE3.out; have fb := blk_cell hbb 0; have ff := blk_free hbb))
    have hps := ((HBR.out.below (Below.refl w4.heap.size w4).al).push (n := X.length + 1) (Y := [(⟨11, 0, a, 0, 0, ((X.length + 1 + Bm.l.length + 1 : Nat) : Int)⟩ : Ins)]) rfl (by simp only [insCells, Ins.cells, List.append_nil, HCE.out]; exact hrow') hgrow hown)
    obtain ⟨L5, hL5⟩ : ∃ l, X ++ [(⟨11, 0, a, 0, 0, ((X.length + 1 + Bm.l.length + 1 : Nat) : Int)⟩ : Ins)] = l := ⟨_, rfl⟩
    obtain ⟨w5, hw5⟩ : ∃ x, w'.setCell ⟨w1.heap.size, 0, none⟩ (.slice A5 (X.length + 1) c5) = x := ⟨_, rfl⟩
    have hll5 : L5.length ≤ X.length + 1 := by rw [← hL5]; simp
    rw [hL5, hw5] at hps
    rw [hw5]
    have HBR5 := Lib.hid hps
    have HL5 := Lib.hid hL5
    clear hps hL5 hw5 hrow' hgrow hown hbb fb ff
    clear q0 y7 x0
    have m0 := blk_cell HBR5.out.mm 0
    have y7 := blk_cell HBR5.out.b7 0
    obtain ⟨L6, hL6⟩ : ∃ l, L5 ++ Bm.l.map (mvw (X.length + 1)) = l := ⟨_, rfl⟩
    have HL6 := Lib.hid hL6
    have hll6 : L6.length ≤ L5.length + Bm.l.length := by rw [← hL6]; simp
    clear hL6
    go_cut [15] from 17 to 154 (fun a_ wx => a_ = .int .i64 (X.length : Int) ∧ ∃ A c, Hid (WhAt w w1.heap.size (w.heap.size + 1) w3.heap.size (.slice BA Bm.l.length bc, .slice BB Bm.th.length bb, Bm.deep) Bm.l th wx L6 A c TA tc))
    case first =>
      have hw1 := HW1.out
      refine wp_region_held_drew (S := fun V => V.cell? ⟨w3.heap.size, 0, none⟩ = some (.slice BA Bm.l.length bc)) (by kernel_rfl) y7 (fun hHeld => ?_)
      refine wpAnyH_take (i := 0) (oi := ⟨some 136, _, _, _, _, _⟩) (v := .pointer (some ⟨w1.heap.size, 0, none⟩)) rfl (by kernel_rfl) (by kernel_rfl) (by kernel_rfl) (fun _ _ _ h => h) (Or.inl ⟨by rfl, fun V hV => by go_simp⟩) (by assumption) ?_
      try simp only [Act.put, List.setIfInBounds_toArray, List.set_cons_zero, List.set_cons_succ]
      refine wpAnyH_take (i := 2) (oi := ⟨some 138, _, _, _, _, _⟩) (v := .pointer (some ⟨w3.heap.size, 0, none⟩)) rfl (by kernel_rfl) (by kernel_rfl) (by kernel_rfl) (fun _ _ _ h => h) (Or.inl ⟨by rfl, fun V hV => by go_simp⟩) (by assumption) ?_
      try simp only [Act.put, List.setIfInBounds_toArray, List.set_cons_zero, List.set_cons_succ]
      refine wpAnyH_take (i := 3) (oi := ⟨some 139, _, _, _, _, _⟩) (v := .slice BA Bm.l.length bc) rfl (by kernel_rfl) (by kernel_rfl) (by kernel_rfl) (fun _ _ _ h => h) (Or.inl ⟨by rfl, fun V hV => by have q9 := hV; go_simp⟩) (by assumption) ?_
      try simp only [Act.put, List.setIfInBounds_toArray, List.set_cons_zero, List.set_cons_succ]
      refine wpAnyH_take (i := 4) (oi := ⟨some 140, _, _, _, _, _⟩) (v := .int .i64 (X.length : Int)) rfl (by kernel_rfl) (by kernel_rfl) (by kernel_rfl) (fun _ _ _ h => h) (Or.inl ⟨by rfl, fun V hV => by go_simp⟩) (by assumption) ?_
      try simp only [Act.put, List.setIfInBounds_toArray, List.set_cons_zero, List.set_cons_succ]
      refine wpAnyH_take (i := 5) (oi := ⟨some 141, _, _, _, _, _⟩) (v := .int .i64 ((X.length : Int) + 1)) rfl (by kernel_rfl) (by kernel_rfl) (by kernel_rfl) (fun _ _ _ h => h) (Or.inl ⟨by rfl, fun V hV => by go_simp⟩) (by assumption) ?_
      try simp only [Act.put, List.setIfInBounds_toArray, List.set_cons_zero, List.set_cons_succ]
      refine wpAnyH_ready (rs := [1, 6]) (by kernel_rfl) (by simp) ?_
      refine AllReadyH.cons (o := ⟨some 137, _, _, _, _, _⟩) rfl (fun K hK => ?_) ?_
      · go_simp
        refine hK.out _ _ (hHeld) (fun hHeld' => ?_)
        clear hK K hHeld
        have hHeld := hHeld'
        clear hHeld'
        try simp only [Act.put, List.setIfInBounds_toArray, List.set_cons_zero, List.set_cons_succ]
        refine wpAnyH_ready (rs := [6]) (by kernel_rfl) (by simp) ?_
        refine AllReadyH.cons (o := ⟨some 142, _, _, _, _, _⟩) rfl (fun K hK => ?_) AllReadyH.nil
        go_simp
        refine (movedw_int w5.drew Bm.l (.slice BA Bm.l.length bc) (X.length + 1) ((X.length : Int) + 1) (by omega) HBR5.out.r7.1.drewed (by omega)).mono ?_
        rintro E w1' ⟨hb1, V1, rfl, hr1, ho1⟩
        obtain ⟨V1A, v1c, hv1, _⟩ := hr1.slice
        subst hv1
        have hbc1 : Below w5.heap.size w5 w1' := below_fromdrew hb1
        have p0' := blk_cell (HBR5.out.below hbc1).mm 0
        refine hK.out _ _ (blk_cell (HBR5.out.below hbc1).b7 0) (fun hHeld' => ?_)
        clear hK K hHeld
        have hHeld := hHeld'
        clear hHeld'
        try simp only [Act.put, List.setIfInBounds_toArray, List.set_cons_zero, List.set_cons_succ]
        refine wpAnyH_ready (rs := [7]) (by kernel_rfl) (by simp) ?_
        refine AllReadyH.cons (o := ⟨some 143, _, _, _, _, _⟩) rfl (fun K hK => ?_) AllReadyH.nil
        refine step_append_rows (by rfl) _ _ 24 (by rfl) 42 (.agg #[.int .i64 0, .int .i64 0, .int .i64 0, .int .i64 0, .int .i64 0, .int .i64 0]) 6 48 Try.underlying24 info_ins rfl (.slice A5 L5.length c5) L5.length (insCells L5) (by rfl) (HBR5.out.below hbc1).rl (.slice V1A Bm.l.length v1c) Bm.l.length (insCells (Bm.l.map (mvw (X.length + 1)))) (by rfl) hr1 (insCells_one _) (by unfold maxLen; omega) (by omega) ?_
        intro v' w' hrow' hgrow hown
        obtain ⟨A', c', hv', hc'⟩ := hrow'.slice
        subst hv'
        have hbb := grown_blk hgrow (HBR5.out.below hbc1).mm ((HBR5.out.below hbc1).rl.ne (HBR5.out.below hbc1).mm (by decide))
        have fb := blk_cell hbb 0
        have ff := blk_free hbb
        have hps := ((HBR5.out.below hbc1).push (Y := Bm.l.map (mvw (X.length + 1))) (by simp) hrow' hgrow hown)
        refine hK.out _ _ (blk_cell (grown_blk hgrow (HBR5.out.below hbc1).b7 ((HBR5.out.below hbc1).rl.ne (HBR5.out.below hbc1).b7 (by decide))) 0) (fun hHeld' => ?_)
        clear hK K hHeld
        have hHeld := hHeld'
        clear hHeld'
        try simp only [Act.put, List.setIfInBounds_toArray, List.set_cons_zero, List.set_cons_succ]
        refine wpAnyH_take (i := 8) (oi := ⟨some 144, _, _, _, _, _⟩) (v := .pointer (some ⟨w1.heap.size, 0, none⟩)) rfl (by kernel_rfl) (by kernel_rfl) (by kernel_rfl) (fun _ _ _ h => h) (Or.inl ⟨by rfl, fun V hV => by go_simp⟩) (by assumption) ?_
        try simp only [Act.put, List.setIfInBounds_toArray, List.set_cons_zero, List.set_cons_succ]
        refine wpAnyH_ready (rs := [9]) (by kernel_rfl) (by simp) ?_
        refine AllReadyH.cons (o := ⟨none, _, _, _, _, _⟩) rfl (fun K hK => ?_) AllReadyH.nil
        go_simp
        refine hK.out _ _ (blk_cell hps.b7 0) (fun hHeld' => ?_)
        clear hK K hHeld
        have hHeld := hHeld'
        clear hHeld'
        try simp only [Act.put, List.setIfInBounds_toArray, List.set_cons_zero, List.set_cons_succ]
        refine wpAnyH_done (by kernel_rfl) ?_ _
        rw [HL6.out] at hps
        go_wp2_with fail
        go_meet
        exact ⟨rfl, A', c', Lib.hid hps⟩
      · refine AllReadyH.cons (o := ⟨some 142, _, _, _, _, _⟩) rfl (fun K hK => ?_) AllReadyH.nil
        go_simp
        refine (movedw_int w5.drew Bm.l (.slice BA Bm.l.length bc) (X.length + 1) ((X.length : Int) + 1) (by omega) HBR5.out.r7.1.drewed (by omega)).mono ?_
        rintro E w1' ⟨hb1, V1, rfl, hr1, ho1⟩
        obtain ⟨V1A, v1c, hv1, _⟩ := hr1.slice
        subst hv1
        have hbc1 : Below w5.heap.size w5 w1' := below_fromdrew hb1
        have p0' := blk_cell (HBR5.out.below hbc1).mm 0
        refine hK.out _ _ (blk_cell (HBR5.out.below hbc1).b7 0) (fun hHeld' => ?_)
        clear hK K hHeld
        have hHeld := hHeld'
        clear hHeld'
        try simp only [Act.put, List.setIfInBounds_toArray, List.set_cons_zero, List.set_cons_succ]
        refine wpAnyH_ready (rs := [1]) (by kernel_rfl) (by simp) ?_
        refine AllReadyH.cons (o := ⟨some 137, _, _, _, _, _⟩) rfl (fun K hK => ?_) AllReadyH.nil
        go_simp
        refine hK.out _ _ (hHeld) (fun hHeld' => ?_)
        clear hK K hHeld
        have hHeld := hHeld'
        clear hHeld'
        try simp only [Act.put, List.setIfInBounds_toArray, List.set_cons_zero, List.set_cons_succ]
        refine wpAnyH_ready (rs := [7]) (by kernel_rfl) (by simp) ?_
        refine AllReadyH.cons (o := ⟨some 143, _, _, _, _, _⟩) rfl (fun K hK => ?_) AllReadyH.nil
        refine step_append_rows (by rfl) _ _ 24 (by rfl) 42 (.agg #[.int .i64 0, .int .i64 0, .int .i64 0, .int .i64 0, .int .i64 0, .int .i64 0]) 6 48 Try.underlying24 info_ins rfl (.slice A5 L5.length c5) L5.length (insCells L5) (by rfl) (HBR5.out.below hbc1).rl (.slice V1A Bm.l.length v1c) Bm.l.length (insCells (Bm.l.map (mvw (X.length + 1)))) (by rfl) hr1 (insCells_one _) (by unfold maxLen; omega) (by omega) ?_
        intro v' w' hrow' hgrow hown
        obtain ⟨A', c', hv', hc'⟩ := hrow'.slice
        subst hv'
        have hbb := grown_blk hgrow (HBR5.out.below hbc1).mm ((HBR5.out.below hbc1).rl.ne (HBR5.out.below hbc1).mm (by decide))
        have fb := blk_cell hbb 0
        have ff := blk_free hbb
        have hps := ((HBR5.out.below hbc1).push (Y := Bm.l.map (mvw (X.length + 1))) (by simp) hrow' hgrow hown)
        refine hK.out _ _ (blk_cell (grown_blk hgrow (HBR5.out.below hbc1).b7 ((HBR5.out.below hbc1).rl.ne (HBR5.out.below hbc1).b7 (by decide))) 0) (fun hHeld' => ?_)
        clear hK K hHeld
        have hHeld := hHeld'
        clear hHeld'
        try simp only [Act.put, List.setIfInBounds_toArray, List.set_cons_zero, List.set_cons_succ]
        refine wpAnyH_take (i := 8) (oi := ⟨some 144, _, _, _, _, _⟩) (v := .pointer (some ⟨w1.heap.size, 0, none⟩)) rfl (by kernel_rfl) (by kernel_rfl) (by kernel_rfl) (fun _ _ _ h => h) (Or.inl ⟨by rfl, fun V hV => by go_simp⟩) (by assumption) ?_
        try simp only [Act.put, List.setIfInBounds_toArray, List.set_cons_zero, List.set_cons_succ]
        refine wpAnyH_ready (rs := [9]) (by kernel_rfl) (by simp) ?_
        refine AllReadyH.cons (o := ⟨none, _, _, _, _, _⟩) rfl (fun K hK => ?_) AllReadyH.nil
        go_simp
        refine hK.out _ _ (blk_cell hps.b7 0) (fun hHeld' => ?_)
        clear hK K hHeld
        have hHeld := hHeld'
        clear hHeld'
        try simp only [Act.put, List.setIfInBounds_toArray, List.set_cons_zero, List.set_cons_succ]
        refine wpAnyH_done (by kernel_rfl) ?_ _
        rw [HL6.out] at hps
        go_wp2_with fail
        go_meet
        exact ⟨rfl, A', c', Lib.hid hps⟩
    case rest =>
      obtain ⟨rfl, A6, c6, HBR6⟩ := hcut
      clear m0 y7
      have HNE6 := Lib.hid (HBR6.out.rl.ne HBR6.out.mm (by decide))
      have q0 := blk_cell HBR6.out.mm 0
      go_upto_region 31 with (at_builtin; go_must (refine wpList_append_rows _ rfl _ _ 24 rfl 42 (.agg #[.int .i64 0, .int .i64 0, .int .i64 0, .int .i64 0, .int .i64 0, .int .i64 0]) 6 48 Try.underlying24 info_ins rfl (.slice A6 (L6.length) c6) (L6.length) (insCells L6) rfl (HBR6.out.rl.alloc _) (.slice (some ⟨wc.heap.size, 0, none⟩) 1 1) 1 [.int .i64 10, .int .i64 0, .int .i64 0, .int .i64 0, .int .i64 0, .int .i64 0] rfl (Row.laid (n := 1) (cs := #[.int .i64 10, .int .i64 0, .int .i64 0, .int .i64 0, .int .i64 0, .int .i64 0]) (size := 6) rfl rfl (by decide)) (by simp [Value.oneCell']) (by unfold maxLen; omega) (by omega) ?_); intro v' w' hrow' hgrow hown; obtain ⟨A7, c7, hv', hc'⟩ := hrow'.slice; subst hv'; have hbb := grown_blk hgrow (blk_alloc HBR6.out.mm _) HNE6.out; have fb := blk_cell hbb 0; have ff := blk_free hbb)
      have hps := ((HBR6.out.below (Below.refl wc.heap.size wc).al).push (n := L6.length + 1) (Y := [(⟨10, 0, 0, 0, 0, 0⟩ : Ins)]) rfl (by simp only [insCells, Ins.cells, List.append_nil]; exact hrow') hgrow hown)
      obtain ⟨L7, hL7⟩ : ∃ l, L6 ++ [(⟨10, 0, 0, 0, 0, 0⟩ : Ins)] = l := ⟨_, rfl⟩
      obtain ⟨w7, hw7⟩ : ∃ x, w'.setCell ⟨w1.heap.size, 0, none⟩ (.slice A7 (L6.length + 1) c7) = x := ⟨_, rfl⟩
      have hll7 : L7.length ≤ L6.length + 1 := by rw [← hL7]; simp
      rw [hL7, hw7] at hps
      rw [hw7]
      have HBR7 := Lib.hid hps
      have HL7 := Lib.hid hL7
      clear hps hL7 hw7 hrow' hgrow hown hbb fb ff
      have HPD := Lib.hid (show whileM X a th Bm = ⟨L7, th, Bm.deep⟩ by unfold whileM; rw [← HL7.out, ← HL6.out, ← HL5.out])
      clear q0
      have q0 := blk_cell HBR7.out.mm 0
      have q1 := blk_cell HBR7.out.mm 1
      have q2 := blk_cell HBR7.out.mm 2
      have qf := blk_free HBR7.out.mm
      have d7 := blk_cell HBR7.out.b7 2
      have HY9 := Lib.hid (fun u => blk_far HBR7.out.res (show w.heap.size + 1 ≠ (⟨w1.heap.size, 2, none⟩ : Addr).block from by show w.heap.size + 1 ≠ w1.heap.size; omega) u)
      have y0 := fun u => blk_cell (HY9.out u) 0
      have y1 := fun u => blk_cell (HY9.out u) 1
      have y2 := fun u => blk_cell (HY9.out u) 2
      have yf := fun u => blk_free (HY9.out u)
      go_wp2
      refine bodyPost_ret (results_cell rfl _ _ (w.heap.size + 1) [.slice A7 L7.length c7, .slice TA th.length tc, .bool Bm.deep] (by rfl) (range_at (blk_set (blk_set (blk_set (HY9.out _) 0 _) 1 _) 2 _) 0 [.slice A7 L7.length c7, .slice TA th.length tc, .bool Bm.deep] rfl) rfl rfl (by kernel_rfl)) rfl ?_
      rw [HM.out, HPD.out]
      exact MDo.fin (m := ⟨L7, th, Bm.deep⟩) (HBR7.out.bel.setCell HBR7.out.hm _) (HY9.out _) (rowSet HBR7.out.rl (HBR7.out.rl.ne HBR7.out.mm (by decide))) (rowSet HBR7.out.rt (HBR7.out.rt.ne HBR7.out.mm (by decide))) HBR7.out.own _ _ _ rfl
end Go.Proofs.Ytjlnpppjkdcpkaa.My
