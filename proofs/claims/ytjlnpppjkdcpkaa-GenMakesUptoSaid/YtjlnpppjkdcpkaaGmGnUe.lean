/- The document's way through a statement. Conditions: the tree was there in the world W, which is kept; it may be. -/
import Derived.Test.YtjlnpppjkdcpkaaGmGnUd
namespace Go.Proofs.Ytjlnpppjkdcpkaa.My
open Go.RowKit Go.Maps Go.Proofs.Ytjlnpppjkdcpkaa.NumA
set_option linter.unusedVariables false
set_option linter.unusedSimpArgs false
set_option maxRecDepth 100000 in
set_option maxHeartbeats 8000000 in
theorem done_6 (W : World) (N : Nat) (ih : DOneIH W N) (s : Stmt) (A0 : Option Addr) (c0 : Nat) (A1 : Option Addr) (c1 : Nat) (A2 : Option Addr) (c2 d : Nat) (hN : s.nodes ≤ N + 1) (hrd : Expr.rds W s.args A0 0) (hrd1 : Stmt.rds W s.body A1 0) (hrd2 : Stmt.rds W s.els A2 0) (hr : s.rightB nameB d = true) (hl : s.nodes ≤ 100000) (th : List ByteArray) (V : Value) (w : World) (hB : Below W.heap.size W w) (hth : Row w 9 1 V th.length (th.map .string)) (htl : th.length + s.nodes ≤ 900) (hk : s.kind = 6) :
    Calls Try.prog 51 #[s.val A0 c0 A1 c1 A2 c2, V] w (MDo (stmtM th s) w) := by
  obtain ⟨hkk, hla, hrr, hlb, hle, hrb, hre⟩ := Stmt.right_parts hr
  have hne := s.nodes_eq
  have hm := stmtM_eq th s
  obtain ⟨TA, tc, hV, _⟩ := hth.slice
  subst hV
  unfold Stmt.val
  have hx := blk_alloc (blk_new w (.cells #[.int .i64 s.kind, .string s.name, .int .i64 s.cell, .slice A0 s.args.length c0, .slice A1 s.body.length c1, .slice A2 s.els.length c2] 36)) (mC (.slice none 0 0) (.slice none 0 0) false)
  have hy := blk_new (w.alloc (.cells #[.int .i64 s.kind, .string s.name, .int .i64 s.cell, .slice A0 s.args.length c0, .slice A1 s.body.length c1, .slice A2 s.els.length c2] 36)) (mC (.slice none 0 0) (.slice none 0 0) false)
  rw [size_al] at hy
  have hb0 : Below w.heap.size w ((w.alloc (.cells #[.int .i64 s.kind, .string s.name, .int .i64 s.cell, .slice A0 s.args.length c0, .slice A1 s.body.length c1, .slice A2 s.els.length c2] 36)).alloc (mC (.slice none 0 0) (.slice none 0 0) false)) := ((Below.refl _ _).al).al
  have hz0 : ((w.alloc (.cells #[.int .i64 s.kind, .string s.name, .int .i64 s.cell, .slice A0 s.args.length c0, .slice A1 s.body.length c1, .slice A2 s.els.length c2] 36)).alloc (mC (.slice none 0 0) (.slice none 0 0) false)).heap.size = w.heap.size + 2 := by rw [size_al, size_al]
  obtain ⟨w0, hw0⟩ : ∃ w0, ((w.alloc (.cells #[.int .i64 s.kind, .string s.name, .int .i64 s.cell, .slice A0 s.args.length c0, .slice A1 s.body.length c1, .slice A2 s.els.length c2] 36)).alloc (mC (.slice none 0 0) (.slice none 0 0) false)) = w0 := ⟨_, rfl⟩
  rw [hw0] at hx hy hb0 hz0
  unfold mC at hw0
  have HX := Lib.hid hx
  have HY := Lib.hid hy
  have HB0 := Lib.hid hb0
  have HW := Lib.hid hw0
  have HZ := Lib.hid hz0
  have HB := Lib.hid hB
  have HT0 := Lib.hid (hth.below hb0)
  have hws := hB.size
  have x0 := blk_cell hx 0
  have HWB := Lib.hid (hB.trans (hb0.mono hws))
  have hlen : s.args.length = 1 := by simp [wantA, hk] at hla; omega
  have hj0 : 0 < s.args.length := by omega
  have hga0 : s.args.getD 0 default = s.args[0]'hj0 := by simp [List.getD, hj0]
  have hn0 := Expr.nodesL_take s.args 0 hj0
  have hra0 := Expr.rightsB_all hrr (s.args[0]'hj0) (List.getElem_mem hj0)
  rw [hga0] at hm
  obtain ⟨ba0, oa0, B0, d0, hA0, hba0, m00, m01, m02, m03, m04, hc0, hs0, hrd0'⟩ := Expr.at hrd HWB.out hj0
  simp only [Nat.zero_mul, Nat.add_zero] at m00 m01 m02 m03 m04
  obtain ⟨e0, he0⟩ : ∃ e, s.args[0]'hj0 = e := ⟨_, rfl⟩
  rw [he0] at m00 m01 m02 m03 m04 hrd0' hra0 hn0 hm
  have hI := dexpr_calls W e0.nodes e0 B0 d0 1 (Nat.le_refl _) hrd0' (by omega) hra0 th (.slice TA th.length tc) 11 w0 HWB.out (hth.below hb0) (by omega) (by omega) (by omega)
  have HI := Lib.hid hI
  have HL := Lib.hid (fun r h => exprD_len (r := r) (th := th) (t := 11) hra0 h)
  have hN0 : e0.nodes ≤ 100000 := by omega
  have hj0' : (0 : Int) < (s.args.length : Int) := by omega
  subst hA0
  have x3 := blk_cell hx 3
  rw [if_neg (by omega), if_neg (by omega), if_neg (by omega), if_neg (by omega), if_neg (by omega), if_neg (by omega), if_neg (by omega), if_pos hk] at hm
  have HMM := Lib.hid hm
  have t1 : (s.kind == 1) = false := by simp [hk]
  have t2 : (s.kind == 2) = false := by simp [hk]
  have t9 : (s.kind == 9) = false := by simp [hk]
  have t3 : (s.kind == 3) = false := by simp [hk]
  have t4 : (s.kind == 4) = false := by simp [hk]
  have t5 : (s.kind == 5) = false := by simp [hk]
  have t8 : (s.kind == 8) = false := by simp [hk]
  have t6 : (s.kind == 6) = true := by simp [hk]
  have t7 : (s.kind == 7) = false := by simp [hk]
  have HBR := Lib.hid (fun X XA xc a w' hB' hth' hX hXO hXl => dbranch_calls W N ih s (some ⟨ba0, oa0, none⟩) c0 A1 c1 A2 c2 d hN hrd1 hrd2 hr (by omega) th (.slice TA th.length tc) X XA xc a w w' hB hB' hth' htl hX hXO hXl)
  clear hm hI hga0 hra0 hrd0' hn0 he0 hlen hc0 hs0 hk
  clear hx hy hb0 hw0 hz0 hrr hlb hle hrb hre hr hla hkk hne hth hB hrd hrd1 hrd2 ih
  cases hx : exprD th 11 e0 with
  | none =>
    have HM := Lib.hid (show stmtM th s = ⟨[], [], true⟩ by rw [HMM.out, hx])
    go_enter Try.func51, Try.ntmps51
    go_wp2_with (have tk := HW; clear tk; rw [HW.out]; clear HW)
    refine HI.out.mono ?_
    intro E w1 hd
    obtain ⟨rfl, hb1⟩ := hd.none hx
    have hyy := below_blk hb1 HY.out (blk_lt HY.out)
    have y0 := blk_cell (hyy) 0
    have y1 := blk_cell (hyy) 1
    have y2 := blk_cell (hyy) 2
    have yf := blk_free (hyy)
    have HYY := Lib.hid hyy
    have HB1 := Lib.hid (HB0.out.trans (hb1.mono HB0.out.size))
    clear hyy hb1 hd x0 x3 m00 m01 m02 m03 m04
    go_wp2
    refine bodyPost_ret (results_cell rfl _ _ (w.heap.size + 1) [.slice none 0 0, .slice none 0 0, .bool true] (by rfl) (range_at (blk_set (blk_set (blk_set (HYY.out) 0 _) 1 _) 2 _) 0 [.slice none 0 0, .slice none 0 0, .bool true] rfl) rfl rfl (by kernel_rfl)) rfl ?_
    rw [HM.out]
    exact MDo.fin (m := ⟨[], [], true⟩) HB1.out HYY.out (Row.nil _ _ _) (Row.nil _ _ _) (fun g hg => by simp [Value.ownBlock] at hg) _ _ _ rfl
  | some r =>
    obtain ⟨a, t, X⟩ := r
    have HM := Lib.hid (show stmtM th s = brM X a th (blockM ⟨[], th, false⟩ s.body) (blockM ⟨[], th, false⟩ s.els) s.els.length by rw [HMM.out, hx]; rfl)
    have hXl := (HL.out _ hx).1
    simp only at hXl
    go_enter Try.func51, Try.ntmps51
    go_wp2_with (have tk := HW; clear tk; rw [HW.out]; clear HW)
    refine HI.out.mono ?_
    intro E w1 hd
    obtain ⟨XA, xc, rfl, hb1, hr1, ho1⟩ := hd.some hx
    have HB1 := Lib.hid (HB0.out.trans (hb1.mono HB0.out.size))
    have HO1 := Lib.hid (show ∀ g, (Value.slice XA X.length xc).ownBlock = some g → w.heap.size ≤ g from fun g hg => Nat.le_trans HB0.out.size (ho1 g hg))
    have HX1 := Lib.hid (below_blk hb1 HX.out (blk_lt HX.out))
    have HY1 := Lib.hid (below_blk hb1 HY.out (blk_lt HY.out))
    have HR1 := Lib.hid hr1
    have HT1 := Lib.hid (HT0.out.below hb1)
    have hz1 : w.heap.size + 2 ≤ w1.heap.size := by have := hb1.size; have := HZ.out; omega
    clear hb1 hr1 ho1 hd x0 x3 m00 m01 m02 m03 m04 hx
    obtain ⟨w2, hw2⟩ : ∃ w2, w1.alloc (mC (.slice XA X.length xc) (.slice TA th.length tc) false) = w2 := ⟨_, rfl⟩
    have hq := blk_new w1 (mC (.slice XA X.length xc) (.slice TA th.length tc) false)
    have hb2 : Below w.heap.size w w2 := hw2 ▸ HB1.out.al
    have hb12 : Below w1.heap.size w1 w2 := hw2 ▸ (Below.refl _ _).al
    rw [hw2] at hq
    unfold mC at hw2
    have HW2 := Lib.hid hw2
    have HQ2 := Lib.hid (show w2.heap[w1.heap.size]? = some (mC (.slice XA X.length xc) (.slice TA th.length tc) false) from hq)
    have HB2 := Lib.hid hb2
    have HX2 := Lib.hid (below_blk hb12 HX1.out (blk_lt HX1.out))
    have HY2 := Lib.hid (below_blk hb12 HY1.out (blk_lt HY1.out))
    have HR2 := Lib.hid (HR1.out.below hb12)
    have HT2 := Lib.hid (HT1.out.below hb12)
    have HNE := Lib.hid (HR2.out.ne HQ2.out (by decide))
    have hz2 : w1.heap.size + 1 ≤ w2.heap.size := by have := blk_lt HQ2.out; omega
    clear hw2 hq hb2 hb12
    have x0 := blk_cell HX2.out 0
    have q0 := blk_cell HQ2.out 0
    have x1 := blk_cell HX2.out 1
    have x2 := blk_cell HX2.out 2
    have x3 := blk_cell HX2.out 3
    have x4 := blk_cell HX2.out 4
    have x5 := blk_cell HX2.out 5
    have q1 := blk_cell HQ2.out 1
    have q2 := blk_cell HQ2.out 2
    obtain ⟨Rm, hRm⟩ : ∃ m, brM X a th (blockM ⟨[], th, false⟩ s.body) (blockM ⟨[], th, false⟩ s.els) s.els.length = m := ⟨_, rfl⟩
    have hbr := HBR.out X XA xc a w2 HB2.out HT2.out HR2.out HO1.out (by omega)
    unfold Stmt.val at hbr
    rw [hRm] at hbr HM
    have HBRX := Lib.hid hbr
    clear hbr hRm
    go_wp2_with (first
      | (have tk := HW2; clear tk; rw [HW2.out]; clear HW2))
    refine HBRX.out.mono ?_
    rintro E w3 ⟨hb3, hf3, VL, VT, rfl, hr3, ht3, ho3⟩
    obtain ⟨LA, lc, rfl, _⟩ := hr3.slice
    obtain ⟨UA, uc, rfl, _⟩ := ht3.slice
    have hy3 := hf3 _ _ _ HY2.out (by decide)
    have y0 := blk_cell (hy3) 0
    have y1 := blk_cell (hy3) 1
    have y2 := blk_cell (hy3) 2
    have yf := blk_free (hy3)
    have HY3 := Lib.hid hy3
    have HF3 := Lib.hid hb3
    have HR3 := Lib.hid hr3
    have HT3 := Lib.hid ht3
    have HO3 := Lib.hid ho3
    clear x0 x1 x2 x3 x4 x5 q0 q1 q2 hy3 hb3 hf3 hr3 ht3 ho3
    go_wp2
    refine bodyPost_ret (results_cell rfl _ _ (w.heap.size + 1) [.slice LA Rm.l.length lc, .slice UA Rm.th.length uc, .bool Rm.deep] (by rfl) (range_at (blk_set (blk_set (blk_set (HY3.out) 0 _) 1 _) 2 _) 0 [.slice LA Rm.l.length lc, .slice UA Rm.th.length uc, .bool Rm.deep] rfl) rfl rfl (by kernel_rfl)) rfl ?_
    rw [HM.out]
    exact MDo.fin HF3.out HY3.out HR3.out HT3.out HO3.out _ _ _ rfl
end Go.Proofs.Ytjlnpppjkdcpkaa.My
