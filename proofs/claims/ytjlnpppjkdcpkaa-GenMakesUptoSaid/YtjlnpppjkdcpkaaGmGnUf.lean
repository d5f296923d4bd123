/- The document's way through a statement. Conditions: the tree was there in the world W, which is kept; it may be. -/
import Derived.Test.YtjlnpppjkdcpkaaGmGnUd
namespace Go.Proofs.Ytjlnpppjkdcpkaa.My
open Go.RowKit Go.Maps Go.Proofs.Ytjlnpppjkdcpkaa.NumA
set_option linter.unusedVariables false
set_option linter.unusedSimpArgs false
theorem MBox.pushed2 {w w1 w' : World} {p nL : Nat} {L Y : List Ins} {th : List ByteArray} {dp : Bool} {u0 : Value} {AL BT A' : Option Addr} {cL bT c' n : Nat} (hB : Below w.heap.size w w1) (hp : w1.heap[p]? = some (mC u0 (.slice BT th.length bT) dp)) (hwp : w.heap.size ≤ p) (hnL : nL = L.length)
    (hL : Row w1 42 6 (.slice AL nL cL) nL (insCells L)) (hT : Row w1 9 1 (.slice BT th.length bT) th.length (th.map .string)) (hO : ∀ g, (Value.slice AL nL cL).ownBlock = some g → w.heap.size ≤ g)
    (hn : n = L.length + Y.length) (hrow : Row w' 42 6 (.slice A' n c') n (insCells L ++ insCells Y)) (hg : w1.grownBy w' (Value.slice AL nL cL).ownBlock) (hown : (Value.slice A' n c').ownBlock = (Value.slice AL nL cL).ownBlock ∨ (Value.slice A' n c').ownBlock = some w1.heap.size) :
    MBox (w'.setCell ⟨p, 0, none⟩ (.slice A' n c')) w.heap.size p ⟨L ++ Y, th, dp⟩ ∧ Below w.heap.size w (w'.setCell ⟨p, 0, none⟩ (.slice A' n c')) ∧
    (∀ (q : Nat) (cs : Array Value) (t : TypeId), q ≠ p → w1.heap[q]? = some (.cells cs t (0, 0)) → 42 ≠ t → (w'.setCell ⟨p, 0, none⟩ (.slice A' n c')).heap[q]? = some (.cells cs t (0, 0))) := by
  subst hnL
  have hbb := grown_blk hg hp (hL.ne hp (by decide))
  have far : ∀ {e : TypeId} {z m : Nat} {v : Value} {xs : List Value}, Row w1 e z v m xs → e ≠ 42 → e ≠ 80 → Row (w'.setCell ⟨p, 0, none⟩ (.slice A' n c')) e z v m xs := fun hr h1 h2 =>
    rowSet (hr.keep fun g hgg => hg.block g (hr.lt hgg) fun e => rows_apart hr hL h1 g hgg e.symm) (hr.ne hp h2)
  subst hn
  have hlen : L.length + Y.length = (L ++ Y).length := by simp
  refine ⟨?_, (Below.grown hB hg hB.size hO).setCell hwp _, fun q cs t hq hc ht => blk_far (grown_blk hg hc (hL.ne hc ht)) hq _⟩
  have hTT := far hT (by decide) (by decide)
  rw [hlen] at hrow hTT ⊢
  rw [← insCells_app] at hrow
  exact ⟨A', c', BT, bT, blk_set hbb 0 _, rowSet hrow (hrow.ne hbb (by decide)), hTT, fun g hgg => by
    rcases hown with e | e
    · rw [own_any _ _ _ (L.length + Y.length) c', e] at hgg; exact hO g hgg
    · rw [own_any _ _ _ (L.length + Y.length) c', e] at hgg; have := Option.some.inj hgg; have := hB.size; omega, hwp⟩
theorem grown_row {w1 w' : World} {e e' : TypeId} {z z' n n' : Nat} {v v' : Value} {xs xs' : List Value} (hr : Row w1 e z v n xs) (h' : Row w1 e' z' v' n' xs') (hne : e ≠ e') (hg : w1.grownBy w' v'.ownBlock) : Row w' e z v n xs :=
  hr.keep fun g hgg => hg.block g (hr.lt hgg) fun e => rows_apart hr h' hne g hgg e.symm
set_option maxRecDepth 100000 in
set_option maxHeartbeats 8000000 in
theorem done_3 (W : World) (N : Nat) (ih : DOneIH W N) (s : Stmt) (A0 : Option Addr) (c0 : Nat) (A1 : Option Addr) (c1 : Nat) (A2 : Option Addr) (c2 d : Nat) (hN : s.nodes ≤ N + 1) (hrd : Expr.rds W s.args A0 0) (hrd1 : Stmt.rds W s.body A1 0) (hrd2 : Stmt.rds W s.els A2 0) (hr : s.rightB nameB d = true) (hl : s.nodes ≤ 100000) (th : List ByteArray) (V : Value) (w : World) (hB : Below W.heap.size W w) (hth : Row w 9 1 V th.length (th.map .string)) (htl : th.length + s.nodes ≤ 900) (hk : s.kind = 3) :
    Calls Try.prog 51 #[s.val A0 c0 A1 c1 A2 c2, V] w (MDo (stmtM th s) w) := by
  obtain ⟨hkk, hla, hrr, hlb, hle, hrb, hre⟩ := Stmt.right_parts hr
  have hne := s.nodes_eq
  have hm := stmtM_eq th s
  obtain ⟨TA, tc, hV, _⟩ := hth.slice
  subst hV
  unfold Stmt.val
  have hx := blk_alloc (blk_new w (.cells #[.int .i64 s.kind, .string s.name, .int .i64 s.cell, .slice A0 s.args.length c0, .slice A1 s.body.length c1, .slice A2 s.els.length c2] 36)) (mC (.slice none 0 0) (.slice none 0 0) false)
  have hy := blk_new (w.alloc (.cells #[.int .i64 s.kind, .string s.name, .int .i64 s.cell, .slice A0 s.args.length c0, .slice A1 s.body.length c1, .slice A2 s.els.length c2] 36)) (mC (.slice none 0 0) (.slice none 0 0) false)
  rw [size_al] at hy
  have hb0 : Below w.heap.size w ((w.alloc (.cells #[.int .i64 s.kind, .string s.name, .int .i64 s.cell, .slice A0 s.args.length c0, .slice A1 s.body.length c1, .slice A2 s.els.length c2] 36)).alloc (mC (.slice none 0 0) (.slice none 0 0) false)) := ((Below.refl _ _).al).al
  have hz0 : ((w.alloc (.cells #[.int .i64 s.kind, .string s.name, .int .i64 s.cell, .slice A0 s.args.length c0, .slice A1 s.body.length c1, .slice A2 s.els.length c2] 36)).alloc (mC (.slice none 0 0) (.slice none 0 0) false)).heap.size = w.heap.size + 2 := by rw [size_al, size_al]
  obtain ⟨w0, hw0⟩ : ∃ w0, ((w.alloc (.cells #[.int .i64 s.kind, .string s.name, .int .i64 s.cell, .slice A0 s.args.length c0, .slice A1 s.body.length c1, .slice A2 s.els.length c2] 36)).alloc (mC (.slice none 0 0) (.slice none 0 0) false)) = w0 := ⟨_, rfl⟩
  rw [hw0] at hx hy hb0 hz0
  unfold mC at hw0
  have HX := Lib.hid hx
  have HY := Lib.hid hy
  have HB0 := Lib.hid hb0
  have HW := Lib.hid hw0
  have HZ := Lib.hid hz0
  have HB := Lib.hid hB
  have HT0 := Lib.hid (hth.below hb0)
  have hws := hB.size
  have x0 := blk_cell hx 0
  have HWB := Lib.hid (hB.trans (hb0.mono hws))
  have hlen : s.args.length = 2 := by simp [wantA, hk] at hla; omega
  have hj0 : 0 < s.args.length := by omega
  have hga0 : s.args.getD 0 default = s.args[0]'hj0 := by simp [List.getD, hj0]
  have hn0 := Expr.nodesL_take s.args 0 hj0
  have hra0 := Expr.rightsB_all hrr (s.args[0]'hj0) (List.getElem_mem hj0)
  rw [hga0] at hm
  obtain ⟨ba0, oa0, B0, d0, hA0, hba0, m00, m01, m02, m03, m04, hc0, hs0, hrd0'⟩ := Expr.at hrd HWB.out hj0
  simp only [Nat.zero_mul, Nat.add_zero] at m00 m01 m02 m03 m04
  obtain ⟨e0, he0⟩ : ∃ e, s.args[0]'hj0 = e := ⟨_, rfl⟩
  rw [he0] at m00 m01 m02 m03 m04 hrd0' hra0 hn0 hm
  have hI := dexpr_calls W e0.nodes e0 B0 d0 1 (Nat.le_refl _) hrd0' (by omega) hra0 th (.slice TA th.length tc) 11 w0 HWB.out (hth.below hb0) (by omega) (by omega) (by omega)
  have HI := Lib.hid hI
  have HL := Lib.hid (fun r h => exprD_len (r := r) (th := th) (t := 11) hra0 h)
  have hN0 : e0.nodes ≤ 100000 := by omega
  have hj0' : (0 : Int) < (s.args.length : Int) := by omega

  have hj1 : 1 < s.args.length := by omega
  have hga1 : s.args.getD 1 default = s.args[1]'hj1 := by simp [List.getD, hj1]
  have hra1 := Expr.rightsB_all hrr (s.args[1]'hj1) (List.getElem_mem hj1)
  rw [hga1] at hm
  obtain ⟨ba1, oa1, B1, d1, hA1, _, _, _, _, _, _, hc1, hs1, hrd1'⟩ := Expr.at hrd HWB.out hj1
  obtain ⟨e1, he1⟩ : ∃ e, s.args[1]'hj1 = e := ⟨_, rfl⟩
  have hn1 : e1.nodes ≤ Expr.nodesL s.args := by
    have h := Expr.nodesL_take s.args 1 hj1
    rw [he1] at h; omega
  have HRDA := Lib.hid hrd
  rw [he1] at hrd1' hra1 hm
  have HAT1 := Lib.hid (fun w' (hb : Below W.heap.size W w') => by
    obtain ⟨ba, oa, B, dd, h1, h2, g0, g1, g2, g3, g4, h3, h4, h5⟩ := Expr.at hrd hb hj1
    rw [he1] at g0 g1 g2 g3 g4 h3 h5
    exact (⟨ba, oa, B, dd, h1, g0, g1, g2, g3, g4, h5⟩ : ∃ ba oa B dd, A0 = some ⟨ba, oa, none⟩ ∧ w'.cell? ⟨ba, oa + 1 * 5, none⟩ = some (.int .i64 e1.kind) ∧ w'.cell? ⟨ba, oa + 1 * 5 + 1, none⟩ = some (.int .i64 e1.num) ∧ w'.cell? ⟨ba, oa + 1 * 5 + 2, none⟩ = some (.string e1.name) ∧ w'.cell? ⟨ba, oa + 1 * 5 + 3, none⟩ = some (.int .i64 e1.op) ∧ w'.cell? ⟨ba, oa + 1 * 5 + 4, none⟩ = some (.slice B e1.args.length dd) ∧ Expr.rds W e1.args B 0))
  have hI1 := fun B dd (hrd : Expr.rds W e1.args B 0) t w' (hb : Below W.heap.size W w') (ht : Row w' 9 1 (.slice TA th.length tc) th.length (th.map .string)) h0 h1 => dexpr_calls W e1.nodes e1 B dd 1 (Nat.le_refl _) hrd (by omega) hra1 th (.slice TA th.length tc) t w' hb ht (by omega) h0 h1
  have HI1 := Lib.hid hI1
  have HL1 := Lib.hid (fun t r h => exprD_len (r := r) (th := th) (t := t) hra1 h)
  have hN1 : e1.nodes ≤ 100000 := by omega
  have hj1' : (1 : Int) < (s.args.length : Int) := by omega
  subst hA0
  have x3 := blk_cell hx 3
  rw [if_neg (by omega), if_neg (by omega), if_pos hk] at hm
  have HMM := Lib.hid hm
  have t1 : (s.kind == 1) = false := by simp [hk]
  have t2 : (s.kind == 2) = false := by simp [hk]
  have t9 : (s.kind == 9) = false := by simp [hk]
  have t3 : (s.kind == 3) = true := by simp [hk]
  have t4 : (s.kind == 4) = false := by simp [hk]
  have t5 : (s.kind == 5) = false := by simp [hk]
  have t8 : (s.kind == 8) = false := by simp [hk]
  have t6 : (s.kind == 6) = false := by simp [hk]
  have t7 : (s.kind == 7) = false := by simp [hk]
  clear hm hI hI1 hga0 hga1 hra0 hra1 hrd0' hrd1' hn0 hn1 he0 he1 hlen hc0 hs0 hc1 hs1 hk hA1
  clear hx hy hb0 hw0 hz0 hrr hlb hle hrb hre hr hla hkk hne hth hB hrd hrd1 hrd2 ih
  cases hx : exprD th 11 e0 with
  | none =>
    have HM := Lib.hid (show stmtM th s = ⟨[], [], true⟩ by rw [HMM.out]; unfold storeM; rw [hx])
    go_enter Try.func51, Try.ntmps51
    go_wp2_with (have tk := HW; clear tk; rw [HW.out]; clear HW)
    refine HI.out.mono ?_
    intro E w1 hd
    obtain ⟨rfl, hb1⟩ := hd.none hx
    have hyy := below_blk hb1 HY.out (blk_lt HY.out)
    have y0 := blk_cell (hyy) 0
    have y1 := blk_cell (hyy) 1
    have y2 := blk_cell (hyy) 2
    have yf := blk_free (hyy)
    have HYY := Lib.hid hyy
    have HB1 := Lib.hid (HB0.out.trans (hb1.mono HB0.out.size))
    clear hyy hb1 hd x0 x3 m00 m01 m02 m03 m04
    go_wp2
    refine bodyPost_ret (results_cell rfl _ _ (w.heap.size + 1) [.slice none 0 0, .slice none 0 0, .bool true] (by rfl) (range_at (blk_set (blk_set (blk_set (HYY.out) 0 _) 1 _) 2 _) 0 [.slice none 0 0, .slice none 0 0, .bool true] rfl) rfl rfl (by kernel_rfl)) rfl ?_
    rw [HM.out]
    exact MDo.fin (m := ⟨[], [], true⟩) HB1.out HYY.out (Row.nil _ _ _) (Row.nil _ _ _) (fun g hg => by simp [Value.ownBlock] at hg) _ _ _ rfl
  | some r =>
    obtain ⟨a, t, X⟩ := r
    have HHX := Lib.hid hx
    have ht1 := exprD_t (by omega) (by omega) hx
    simp only at ht1
    have hXl := (HL.out _ hx).1
    simp only at hXl
    go_enter Try.func51, Try.ntmps51
    go_wp2_with (have tk := HW; clear tk; rw [HW.out]; clear HW)
    refine HI.out.mono ?_
    intro E w1 hd
    obtain ⟨XA, xc, rfl, hb1, hr1, ho1⟩ := hd.some hx
    have HB1 := Lib.hid (HB0.out.trans (hb1.mono HB0.out.size))
    have HO1 := Lib.hid (show ∀ g, (Value.slice XA X.length xc).ownBlock = some g → w.heap.size ≤ g from fun g hg => Nat.le_trans HB0.out.size (ho1 g hg))
    have HX1 := Lib.hid (below_blk hb1 HX.out (blk_lt HX.out))
    have HY1 := Lib.hid (below_blk hb1 HY.out (blk_lt HY.out))
    have HR1 := Lib.hid hr1
    have HT1 := Lib.hid (HT0.out.below hb1)
    have hz1 : w.heap.size + 2 ≤ w1.heap.size := by have := hb1.size; have := HZ.out; omega
    clear hb1 hr1 ho1 hd x0 x3 m00 m01 m02 m03 m04 hx
    obtain ⟨w2, hw2⟩ : ∃ w2, w1.alloc (mC (.slice XA X.length xc) (.slice TA th.length tc) false) = w2 := ⟨_, rfl⟩
    have hq := blk_new w1 (mC (.slice XA X.length xc) (.slice TA th.length tc) false)
    have hb2 : Below w.heap.size w w2 := hw2 ▸ HB1.out.al
    have hb12 : Below w1.heap.size w1 w2 := hw2 ▸ (Below.refl _ _).al
    rw [hw2] at hq
    unfold mC at hw2
    have HW2 := Lib.hid hw2
    have HQ2 := Lib.hid (show w2.heap[w1.heap.size]? = some (mC (.slice XA X.length xc) (.slice TA th.length tc) false) from hq)
    have HB2 := Lib.hid hb2
    have HX2 := Lib.hid (below_blk hb12 HX1.out (blk_lt HX1.out))
    have HY2 := Lib.hid (below_blk hb12 HY1.out (blk_lt HY1.out))
    have HR2 := Lib.hid (HR1.out.below hb12)
    have HT2 := Lib.hid (HT1.out.below hb12)
    have HNE := Lib.hid (HR2.out.ne HQ2.out (by decide))
    have hz2 : w1.heap.size + 1 ≤ w2.heap.size := by have := blk_lt HQ2.out; omega
    clear hw2 hq hb2 hb12
    have x0 := blk_cell HX2.out 0
    have q0 := blk_cell HQ2.out 0
    obtain ⟨ba1', oa1', B1, d1, hA1, g0, g1, g2, g3, g4, hrd1'⟩ := HAT1.out w2 (HB.out.trans (HB2.out.mono hws))
    simp only [Option.some.injEq, Addr.mk.injEq] at hA1
    obtain ⟨rfl, rfl, _⟩ := hA1
    simp only [Nat.one_mul] at g0 g1 g2 g3 g4
    have HI2 := Lib.hid (HI1.out B1 d1 hrd1' t w2 (HB.out.trans (HB2.out.mono hws)) HT2.out ht1.1 ht1.2)
    have x3 := blk_cell HX2.out 3
    clear hrd1'
    go_wp2_with (have tk := HW2; clear tk; rw [HW2.out]; clear HW2)
    refine HI2.out.mono ?_
    intro E w3 hd
    cases hy : exprD th t e1 with
    | none =>
      obtain ⟨rfl, hb3⟩ := hd.none hy
      have HM := Lib.hid (show stmtM th s = ⟨X ++ [(⟨7, 0, 0, a, 0, 0⟩ : Ins)], th, true⟩ by rw [HMM.out]; unfold storeM; rw [HHX.out]; simp only; rw [hy])
      clear hd
      have HB3 := Lib.hid (HB2.out.trans (hb3.mono HB2.out.size))
      have HQ3 := Lib.hid (below_blk hb3 HQ2.out (blk_lt HQ2.out))
      have HY3 := Lib.hid (below_blk hb3 HY2.out (blk_lt HY2.out))
      have HX3 := Lib.hid (below_blk hb3 HX2.out (blk_lt HX2.out))
      have HR3 := Lib.hid (HR2.out.below hb3)
      have HT3 := Lib.hid (HT2.out.below hb3)
      clear x0 x3 q0 g0 g1 g2 g3 g4 hb3
      have x0 := blk_cell HX3.out 0
      have q0 := blk_cell HQ3.out 0
      go_upto_region 15 with (first
        | (at_builtin; have tk := HR4; clear tk; go_must (refine wpList_append_rows _ rfl _ _ 24 rfl 42 (.agg #[.int .i64 0, .int .i64 0, .int .i64 0, .int .i64 0, .int .i64 0, .int .i64 0]) 6 48 Try.underlying24 info_ins rfl (.slice A4 (X.length) c4) (X.length) (insCells X) rfl (HR4.out.alloc _) (.slice (some ⟨w4.heap.size, 0, none⟩) 1 1) 1 [.int .i64 7, .int .i64 0, .int .i64 0, .int .i64 a, .int .i64 0, .int .i64 0] rfl (Row.laid (n := 1) (cs := #[.int .i64 7, .int .i64 0, .int .i64 0, .int .i64 a, .int .i64 0, .int .i64 0]) (size := 6) rfl rfl (by decide)) (by simp [Value.oneCell']) (by unfold maxLen; omega) (by omega) ?_); intro v' w' hrow' hgrow hown; obtain ⟨A5, c5, hv', hc'⟩ := hrow'.slice; subst hv'; have hbb := grown_blk hgrow (blk_alloc HQ4.out _) HNE4.out; have fb := blk_cell hbb 0; have ff := blk_free hbb)
        | (at_builtin; go_must (refine wpList_append_rows _ rfl _ _ 24 rfl 42 (.agg #[.int .i64 0, .int .i64 0, .int .i64 0, .int .i64 0, .int .i64 0, .int .i64 0]) 6 48 Try.underlying24 info_ins rfl (.slice XA X.length xc) X.length (insCells X) rfl HR3.out (.slice none 0 0) (0) ([]) rfl (Row.nil _ _ _) (by first | exact insCells_one _ | simp) (by unfold maxLen; omega) (by omega) ?_); intro v4 w4 hr4 hg4 hn4; rw [Nat.add_zero, List.append_nil] at hr4; obtain ⟨A4, c4, hv4, _⟩ := hr4.slice; subst hv4; have HR4 := Lib.hid hr4; have HG4 := Lib.hid hg4; have HN4 := Lib.hid hn4; have HQ4 := Lib.hid (grown_blk hg4 HQ3.out (HR3.out.ne HQ3.out (by decide))); have HNE4 := Lib.hid (hr4.ne HQ4.out (by decide)); have HY4 := Lib.hid (grown_blk hg4 HY3.out (HR3.out.ne HY3.out (by decide))); have HT4 := Lib.hid (grown_row HT3.out HR3.out (by decide) hg4); have HB4 := Lib.hid (Below.grown HB3.out hg4 HB3.out.size HO1.out); clear hr4 hg4 hn4))
      have hO4 : ∀ g, (Value.slice A4 (X.length) c4).ownBlock = some g → w.heap.size ≤ g := fun g hg => by
        rcases HN4.out with e | e
        · rw [e] at hg; exact HO1.out g hg
        · rw [e] at hg; have := Option.some.inj hg; have := HB3.out.size; omega
      obtain ⟨f1, f2, f3⟩ := MBox.pushed2 (w := w) (n := X.length + 1) (L := X) (Y := [(⟨7, 0, 0, a, 0, 0⟩ : Ins)]) (HB4.out.al) (blk_alloc HQ4.out _) (by omega) (by simp) (HR4.out.alloc _) (HT4.out.alloc _) hO4 (by simp) hrow' hgrow hown
      obtain ⟨A9, c9, B9, b9, hm9, hl9, ht9, ho9, _⟩ := f1
      have hy9 := f3 (w.heap.size + 1) _ _ (by omega) (blk_alloc HY4.out _) (by decide)
      have HF2 := Lib.hid f2
      have HL9 := Lib.hid hl9
      have HT9 := Lib.hid ht9
      have HO9 := Lib.hid ho9
      have HQ9 := Lib.hid hm9
      clear q0
      have q0 := blk_cell hm9 0
      have q1 := blk_cell hm9 1
      have q2 := blk_cell hm9 2
      have qf := blk_free hm9
      have HY9 := Lib.hid (fun u => blk_far hy9 (show w.heap.size + 1 ≠ (⟨w1.heap.size, 2, none⟩ : Addr).block from by show w.heap.size + 1 ≠ w1.heap.size; omega) u)
      have y0 := fun u => blk_cell (HY9.out u) 0
      have y1 := fun u => blk_cell (HY9.out u) 1
      have y2 := fun u => blk_cell (HY9.out u) 2
      have yf := fun u => blk_free (HY9.out u)
      clear f2 f3 hrow' hgrow hown hbb hl9 ht9 ho9 fb ff hO4 hy9 hm9
      go_wp2
      refine bodyPost_ret (results_cell rfl _ _ (w.heap.size + 1) [.slice A9 (X.length + 1) c9, .slice B9 th.length b9, .bool true] (by rfl) (range_at (blk_set (blk_set (blk_set (HY9.out _) 0 _) 1 _) 2 _) 0 [.slice A9 (X.length + 1) c9, .slice B9 th.length b9, .bool true] rfl) rfl rfl (by kernel_rfl)) rfl ?_
      rw [HM.out]
      exact MDo.fin (m := ⟨X ++ [(⟨7, 0, 0, a, 0, 0⟩ : Ins)], th, true⟩) (HF2.out.setCell (by omega) _) (HY9.out _) (rowSet HL9.out (HL9.out.ne HQ9.out (by decide))) (rowSet HT9.out (HT9.out.ne HQ9.out (by decide))) HO9.out _ _ _ (by simp)
    | some r =>
      obtain ⟨v, t2, Y⟩ := r
      obtain ⟨YA, yc, rfl, hb3, hry, _⟩ := hd.some hy
      have hYl := (HL1.out _ _ hy).1
      simp only at hYl
      have HM := Lib.hid (show stmtM th s = ⟨(X ++ Y) ++ [(⟨7, 0, v, a, 0, 0⟩ : Ins)], th, false⟩ by rw [HMM.out]; unfold storeM; rw [HHX.out]; simp only; rw [hy])
      have HRY := Lib.hid hry
      clear hd hry hy
      have HB3 := Lib.hid (HB2.out.trans (hb3.mono HB2.out.size))
      have HQ3 := Lib.hid (below_blk hb3 HQ2.out (blk_lt HQ2.out))
      have HY3 := Lib.hid (below_blk hb3 HY2.out (blk_lt HY2.out))
      have HX3 := Lib.hid (below_blk hb3 HX2.out (blk_lt HX2.out))
      have HR3 := Lib.hid (HR2.out.below hb3)
      have HT3 := Lib.hid (HT2.out.below hb3)
      clear x0 x3 q0 g0 g1 g2 g3 g4 hb3
      have x0 := blk_cell HX3.out 0
      have q0 := blk_cell HQ3.out 0
      go_upto_region 15 with (first
        | (at_builtin; have tk := HR4; clear tk; go_must (refine wpList_append_rows _ rfl _ _ 24 rfl 42 (.agg #[.int .i64 0, .int .i64 0, .int .i64 0, .int .i64 0, .int .i64 0, .int .i64 0]) 6 48 Try.underlying24 info_ins rfl (.slice A4 (X.length + Y.length) c4) (X.length + Y.length) (insCells (X ++ Y)) rfl (HR4.out.alloc _) (.slice (some ⟨w4.heap.size, 0, none⟩) 1 1) 1 [.int .i64 7, .int .i64 0, .int .i64 v, .int .i64 a, .int .i64 0, .int .i64 0] rfl (Row.laid (n := 1) (cs := #[.int .i64 7, .int .i64 0, .int .i64 v, .int .i64 a, .int .i64 0, .int .i64 0]) (size := 6) rfl rfl (by decide)) (by simp [Value.oneCell']) (by unfold maxLen; omega) (by omega) ?_); intro v' w' hrow' hgrow hown; obtain ⟨A5, c5, hv', hc'⟩ := hrow'.slice; subst hv'; have hbb := grown_blk hgrow (blk_alloc HQ4.out _) HNE4.out; have fb := blk_cell hbb 0; have ff := blk_free hbb)
        | (at_builtin; go_must (refine wpList_append_rows _ rfl _ _ 24 rfl 42 (.agg #[.int .i64 0, .int .i64 0, .int .i64 0, .int .i64 0, .int .i64 0, .int .i64 0]) 6 48 Try.underlying24 info_ins rfl (.slice XA X.length xc) X.length (insCells X) rfl HR3.out (.slice YA Y.length yc) (Y.length) (insCells Y) rfl (HRY.out) (by first | exact insCells_one _ | simp) (by unfold maxLen; omega) (by omega) ?_); intro v4 w4 hr4 hg4 hn4; rw [← insCells_app] at hr4; obtain ⟨A4, c4, hv4, _⟩ := hr4.slice; subst hv4; have HR4 := Lib.hid hr4; have HG4 := Lib.hid hg4; have HN4 := Lib.hid hn4; have HQ4 := Lib.hid (grown_blk hg4 HQ3.out (HR3.out.ne HQ3.out (by decide))); have HNE4 := Lib.hid (hr4.ne HQ4.out (by decide)); have HY4 := Lib.hid (grown_blk hg4 HY3.out (HR3.out.ne HY3.out (by decide))); have HT4 := Lib.hid (grown_row HT3.out HR3.out (by decide) hg4); have HB4 := Lib.hid (Below.grown HB3.out hg4 HB3.out.size HO1.out); clear hr4 hg4 hn4))
      have hO4 : ∀ g, (Value.slice A4 (X.length + Y.length) c4).ownBlock = some g → w.heap.size ≤ g := fun g hg => by
        rcases HN4.out with e | e
        · rw [e] at hg; exact HO1.out g hg
        · rw [e] at hg; have := Option.some.inj hg; have := HB3.out.size; omega
      obtain ⟨f1, f2, f3⟩ := MBox.pushed2 (w := w) (n := X.length + Y.length + 1) (L := (X ++ Y)) (Y := [(⟨7, 0, v, a, 0, 0⟩ : Ins)]) (HB4.out.al) (blk_alloc HQ4.out _) (by omega) (by simp) (HR4.out.alloc _) (HT4.out.alloc _) hO4 (by simp) hrow' hgrow hown
      obtain ⟨A9, c9, B9, b9, hm9, hl9, ht9, ho9, _⟩ := f1
      have hy9 := f3 (w.heap.size + 1) _ _ (by omega) (blk_alloc HY4.out _) (by decide)
      have HF2 := Lib.hid f2
      have HL9 := Lib.hid hl9
      have HT9 := Lib.hid ht9
      have HO9 := Lib.hid ho9
      have HQ9 := Lib.hid hm9
      clear q0
      have q0 := blk_cell hm9 0
      have q1 := blk_cell hm9 1
      have q2 := blk_cell hm9 2
      have qf := blk_free hm9
      have HY9 := Lib.hid (fun u => blk_far hy9 (show w.heap.size + 1 ≠ (⟨w1.heap.size, 2, none⟩ : Addr).block from by show w.heap.size + 1 ≠ w1.heap.size; omega) u)
      have y0 := fun u => blk_cell (HY9.out u) 0
      have y1 := fun u => blk_cell (HY9.out u) 1
      have y2 := fun u => blk_cell (HY9.out u) 2
      have yf := fun u => blk_free (HY9.out u)
      clear f2 f3 hrow' hgrow hown hbb hl9 ht9 ho9 fb ff hO4 hy9 hm9
      go_wp2
      refine bodyPost_ret (results_cell rfl _ _ (w.heap.size + 1) [.slice A9 (X.length + Y.length + 1) c9, .slice B9 th.length b9, .bool false] (by rfl) (range_at (blk_set (blk_set (blk_set (HY9.out _) 0 _) 1 _) 2 _) 0 [.slice A9 (X.length + Y.length + 1) c9, .slice B9 th.length b9, .bool false] rfl) rfl rfl (by kernel_rfl)) rfl ?_
      rw [HM.out]
      exact MDo.fin (m := ⟨(X ++ Y) ++ [(⟨7, 0, v, a, 0, 0⟩ : Ins)], th, false⟩) (HF2.out.setCell (by omega) _) (HY9.out _) (rowSet HL9.out (HL9.out.ne HQ9.out (by decide))) (rowSet HT9.out (HT9.out.ne HQ9.out (by decide))) HO9.out _ _ _ (by simp; omega)
end Go.Proofs.Ytjlnpppjkdcpkaa.My
