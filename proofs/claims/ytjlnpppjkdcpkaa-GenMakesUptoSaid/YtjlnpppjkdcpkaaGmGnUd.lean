/- The document's way through a statement. Conditions: the tree was there in the world W, which is kept; it may be. -/
import Derived.Test.YtjlnpppjkdcpkaaGmGnUc
namespace Go.Proofs.Ytjlnpppjkdcpkaa.My
open Go.RowKit Go.Maps Go.Proofs.Ytjlnpppjkdcpkaa.NumA
set_option linter.unusedVariables false
set_option linter.unusedSimpArgs false
/-- the result's cell set -/
theorem MDo.fin {w wx : World} {m : Mm} {A B : Option Addr} {c b : Nat} {cs : Array Value} (hb : Below w.heap.size w wx) (hres : wx.heap[w.heap.size + 1]? = some (.cells cs 80 (0, 0))) (h1 : Row wx 42 6 (.slice A m.l.length c) m.l.length (insCells m.l)) (h2 : Row wx 9 1 (.slice B m.th.length b) m.th.length (m.th.map .string)) (h3 : ∀ g, (Value.slice A m.l.length c).ownBlock = some g → w.heap.size ≤ g) (u0 u1 u2 : Value) {E : Ending} (hE : E = .returned (.agg #[.slice A m.l.length c, .slice B m.th.length b, .bool m.deep])) :
    MDo m w E (((wx.setCell ⟨w.heap.size + 1, 0, none⟩ u0).setCell ⟨w.heap.size + 1, 1, none⟩ u1).setCell ⟨w.heap.size + 1, 2, none⟩ u2) :=
  ⟨((hb.setCell (Nat.le_succ _) _).setCell (Nat.le_succ _) _).setCell (Nat.le_succ _) _, _, _, hE, row_sets h1 hres (by decide) _ _ _, row_sets h2 hres (by decide) _ _ _, h3⟩
set_option maxRecDepth 100000 in
set_option maxHeartbeats 8000000 in
theorem done_named (W : World) (N : Nat) (ih : DOneIH W N) (s : Stmt) (A0 : Option Addr) (c0 : Nat) (A1 : Option Addr) (c1 : Nat) (A2 : Option Addr) (c2 d : Nat) (hN : s.nodes ≤ N + 1) (hrd : Expr.rds W s.args A0 0) (hrd1 : Stmt.rds W s.body A1 0) (hrd2 : Stmt.rds W s.els A2 0) (hr : s.rightB nameB d = true) (hl : s.nodes ≤ 100000) (th : List ByteArray) (V : Value) (w : World) (hB : Below W.heap.size W w) (hth : Row w 9 1 V th.length (th.map .string)) (htl : th.length + s.nodes ≤ 900) (hk : s.kind = 1 ∨ s.kind = 2) :
    Calls Try.prog 51 #[s.val A0 c0 A1 c1 A2 c2, V] w (MDo (stmtM th s) w) := by
  obtain ⟨hkk, hla, hrr, hlb, hle, hrb, hre⟩ := Stmt.right_parts hr
  have hne := s.nodes_eq
  have hm := stmtM_eq th s
  obtain ⟨TA, tc, hV, _⟩ := hth.slice
  subst hV
  unfold Stmt.val
  have hx := blk_alloc (blk_new w (.cells #[.int .i64 s.kind, .string s.name, .int .i64 s.cell, .slice A0 s.args.length c0, .slice A1 s.body.length c1, .slice A2 s.els.length c2] 36)) (mC (.slice none 0 0) (.slice none 0 0) false)
  have hy := blk_new (w.alloc (.cells #[.int .i64 s.kind, .string s.name, .int .i64 s.cell, .slice A0 s.args.length c0, .slice A1 s.body.length c1, .slice A2 s.els.length c2] 36)) (mC (.slice none 0 0) (.slice none 0 0) false)
  rw [size_al] at hy
  have hb0 : Below w.heap.size w ((w.alloc (.cells #[.int .i64 s.kind, .string s.name, .int .i64 s.cell, .slice A0 s.args.length c0, .slice A1 s.body.length c1, .slice A2 s.els.length c2] 36)).alloc (mC (.slice none 0 0) (.slice none 0 0) false)) := ((Below.refl _ _).al).al
  have hz0 : ((w.alloc (.cells #[.int .i64 s.kind, .string s.name, .int .i64 s.cell, .slice A0 s.args.length c0, .slice A1 s.body.length c1, .slice A2 s.els.length c2] 36)).alloc (mC (.slice none 0 0) (.slice none 0 0) false)).heap.size = w.heap.size + 2 := by rw [size_al, size_al]
  obtain ⟨w0, hw0⟩ : ∃ w0, ((w.alloc (.cells #[.int .i64 s.kind, .string s.name, .int .i64 s.cell, .slice A0 s.args.length c0, .slice A1 s.body.length c1, .slice A2 s.els.length c2] 36)).alloc (mC (.slice none 0 0) (.slice none 0 0) false)) = w0 := ⟨_, rfl⟩
  rw [hw0] at hx hy hb0 hz0
  unfold mC at hw0
  have HX := Lib.hid hx
  have HY := Lib.hid hy
  have HB0 := Lib.hid hb0
  have HW := Lib.hid hw0
  have HZ := Lib.hid hz0
  have HB := Lib.hid hB
  have HT0 := Lib.hid (hth.below hb0)
  have hws := hB.size
  have x0 := blk_cell hx 0
  have HWB := Lib.hid (hB.trans (hb0.mono hws))
  have hI := dnamed_calls W s A0 c0 A1 c1 A2 c2 d hk hrd hr (by omega) th (.slice TA th.length tc) w0 HWB.out (hth.below hb0) (by omega)
  unfold Stmt.val at hI
  have HI := Lib.hid hI
  have HM := Lib.hid hm
  have x1 := blk_cell hx 1
  have x2 := blk_cell hx 2
  have x3 := blk_cell hx 3
  have x4 := blk_cell hx 4
  have x5 := blk_cell hx 5
  have HK := Lib.hid hk
  clear hI hm hk
  clear hx hy hb0 hw0 hz0 hrr hlb hle hrb hre hr hla hkk hne hth hB hrd hrd1 hrd2 ih
  rcases HK.out with h1 | h1
  · have t1 : (s.kind == 1) = true := by simp [h1]
    have t2 : (s.kind == 2) = false := by simp [h1]
    clear h1
    go_enter Try.func51, Try.ntmps51
    go_wp2_with (have tk := HW; clear tk; rw [HW.out]; clear HW)
    refine HI.out.mono ?_
    intro E w1 hd
    obtain ⟨LA, lc, UA, uc, rfl, hb1, hr1, hr2, ho1⟩ := hd.split
    have hyy := below_blk hb1 HY.out (blk_lt HY.out)
    have y0 := blk_cell (hyy) 0
    have y1 := blk_cell (hyy) 1
    have y2 := blk_cell (hyy) 2
    have yf := blk_free (hyy)
    have HYY := Lib.hid hyy
    have HB1 := Lib.hid (HB0.out.trans (hb1.mono HB0.out.size))
    have HR1 := Lib.hid hr1
    have HR2 := Lib.hid hr2
    have HO1 := Lib.hid (show ∀ g, (Value.slice LA (stmtM th s).l.length lc).ownBlock = some g → w.heap.size ≤ g from fun g hg => Nat.le_trans HB0.out.size (ho1 g hg))
    clear hyy hb1 hr1 hr2 ho1 hd x0 x1 x2 x3 x4 x5
    go_wp2
    refine bodyPost_ret (results_cell rfl _ _ (w.heap.size + 1) [.slice LA (stmtM th s).l.length lc, .slice UA (stmtM th s).th.length uc, .bool (stmtM th s).deep] (by rfl) (range_at (blk_set (blk_set (blk_set (HYY.out) 0 _) 1 _) 2 _) 0 [.slice LA (stmtM th s).l.length lc, .slice UA (stmtM th s).th.length uc, .bool (stmtM th s).deep] rfl) rfl rfl (by kernel_rfl)) rfl ?_
    exact MDo.fin HB1.out HYY.out HR1.out HR2.out HO1.out _ _ _ rfl
  · have t1 : (s.kind == 1) = false := by simp [h1]
    have t2 : (s.kind == 2) = true := by simp [h1]
    clear h1
    go_enter Try.func51, Try.ntmps51
    go_wp2_with (have tk := HW; clear tk; rw [HW.out]; clear HW)
    refine HI.out.mono ?_
    intro E w1 hd
    obtain ⟨LA, lc, UA, uc, rfl, hb1, hr1, hr2, ho1⟩ := hd.split
    have hyy := below_blk hb1 HY.out (blk_lt HY.out)
    have y0 := blk_cell (hyy) 0
    have y1 := blk_cell (hyy) 1
    have y2 := blk_cell (hyy) 2
    have yf := blk_free (hyy)
    have HYY := Lib.hid hyy
    have HB1 := Lib.hid (HB0.out.trans (hb1.mono HB0.out.size))
    have HR1 := Lib.hid hr1
    have HR2 := Lib.hid hr2
    have HO1 := Lib.hid (show ∀ g, (Value.slice LA (stmtM th s).l.length lc).ownBlock = some g → w.heap.size ≤ g from fun g hg => Nat.le_trans HB0.out.size (ho1 g hg))
    clear hyy hb1 hr1 hr2 ho1 hd x0 x1 x2 x3 x4 x5
    go_wp2
    refine bodyPost_ret (results_cell rfl _ _ (w.heap.size + 1) [.slice LA (stmtM th s).l.length lc, .slice UA (stmtM th s).th.length uc, .bool (stmtM th s).deep] (by rfl) (range_at (blk_set (blk_set (blk_set (HYY.out) 0 _) 1 _) 2 _) 0 [.slice LA (stmtM th s).l.length lc, .slice UA (stmtM th s).th.length uc, .bool (stmtM th s).deep] rfl) rfl rfl (by kernel_rfl)) rfl ?_
    exact MDo.fin HB1.out HYY.out HR1.out HR2.out HO1.out _ _ _ rfl
set_option maxRecDepth 100000 in
set_option maxHeartbeats 8000000 in
theorem done_stop (W : World) (N : Nat) (ih : DOneIH W N) (s : Stmt) (A0 : Option Addr) (c0 : Nat) (A1 : Option Addr) (c1 : Nat) (A2 : Option Addr) (c2 d : Nat) (hN : s.nodes ≤ N + 1) (hrd : Expr.rds W s.args A0 0) (hrd1 : Stmt.rds W s.body A1 0) (hrd2 : Stmt.rds W s.els A2 0) (hr : s.rightB nameB d = true) (hl : s.nodes ≤ 100000) (th : List ByteArray) (V : Value) (w : World) (hB : Below W.heap.size W w) (hth : Row w 9 1 V th.length (th.map .string)) (htl : th.length + s.nodes ≤ 900) (hk : s.kind = 9) :
    Calls Try.prog 51 #[s.val A0 c0 A1 c1 A2 c2, V] w (MDo (stmtM th s) w) := by
  obtain ⟨hkk, hla, hrr, hlb, hle, hrb, hre⟩ := Stmt.right_parts hr
  have hne := s.nodes_eq
  have hm := stmtM_eq th s
  obtain ⟨TA, tc, hV, _⟩ := hth.slice
  subst hV
  unfold Stmt.val
  have hx := blk_alloc (blk_new w (.cells #[.int .i64 s.kind, .string s.name, .int .i64 s.cell, .slice A0 s.args.length c0, .slice A1 s.body.length c1, .slice A2 s.els.length c2] 36)) (mC (.slice none 0 0) (.slice none 0 0) false)
  have hy := blk_new (w.alloc (.cells #[.int .i64 s.kind, .string s.name, .int .i64 s.cell, .slice A0 s.args.length c0, .slice A1 s.body.length c1, .slice A2 s.els.length c2] 36)) (mC (.slice none 0 0) (.slice none 0 0) false)
  rw [size_al] at hy
  have hb0 : Below w.heap.size w ((w.alloc (.cells #[.int .i64 s.kind, .string s.name, .int .i64 s.cell, .slice A0 s.args.length c0, .slice A1 s.body.length c1, .slice A2 s.els.length c2] 36)).alloc (mC (.slice none 0 0) (.slice none 0 0) false)) := ((Below.refl _ _).al).al
  have hz0 : ((w.alloc (.cells #[.int .i64 s.kind, .string s.name, .int .i64 s.cell, .slice A0 s.args.length c0, .slice A1 s.body.length c1, .slice A2 s.els.length c2] 36)).alloc (mC (.slice none 0 0) (.slice none 0 0) false)).heap.size = w.heap.size + 2 := by rw [size_al, size_al]
  obtain ⟨w0, hw0⟩ : ∃ w0, ((w.alloc (.cells #[.int .i64 s.kind, .string s.name, .int .i64 s.cell, .slice A0 s.args.length c0, .slice A1 s.body.length c1, .slice A2 s.els.length c2] 36)).alloc (mC (.slice none 0 0) (.slice none 0 0) false)) = w0 := ⟨_, rfl⟩
  rw [hw0] at hx hy hb0 hz0
  unfold mC at hw0
  have HX := Lib.hid hx
  have HY := Lib.hid hy
  have HB0 := Lib.hid hb0
  have HW := Lib.hid hw0
  have HZ := Lib.hid hz0
  have HB := Lib.hid hB
  have HT0 := Lib.hid (hth.below hb0)
  have hws := hB.size
  have x0 := blk_cell hx 0
  have HWB := Lib.hid (hB.trans (hb0.mono hws))
  rw [hk] at hm
  have HM := Lib.hid (show stmtM th s = ⟨[⟨1, 0, 0, 0, 0, 0⟩], th, false⟩ from hm)
  have t1 : (s.kind == 1) = false := by simp [hk]
  have t2 : (s.kind == 2) = false := by simp [hk]
  have t9 : (s.kind == 9) = true := by simp [hk]
  have HTT := Lib.hid (hth.below hb0)
  have y0 := fun o => blk_cell (blk_alloc hy o) 0
  have y1 := fun o => blk_cell (blk_alloc hy o) 1
  have y2 := fun o => blk_cell (blk_alloc hy o) 2
  have yf := fun o => blk_free (blk_alloc hy o)
  clear hm hk
  clear hx hy hb0 hw0 hz0 hrr hlb hle hrb hre hr hla hkk hne hth hB hrd hrd1 hrd2 ih
  go_enter Try.func51, Try.ntmps51
  go_wp2_with (have tk := HW; clear tk; rw [HW.out]; clear HW)
  refine bodyPost_ret (results_cell rfl _ _ (w.heap.size + 1) [.slice (some ⟨w0.heap.size, 0, none⟩) 1 1, .slice TA th.length tc, .bool false] (by rfl) (range_at (blk_set (blk_set (blk_set (blk_alloc HY.out _) 0 _) 1 _) 2 _) 0 [.slice (some ⟨w0.heap.size, 0, none⟩) 1 1, .slice TA th.length tc, .bool false] rfl) rfl rfl (by kernel_rfl)) rfl ?_
  rw [HM.out]
  exact MDo.fin (m := ⟨[⟨1, 0, 0, 0, 0, 0⟩], th, false⟩) HB0.out.al (blk_alloc HY.out _) (Row.laid (w := w0) (g := w0.heap.size) (n := 1) (cs := #[.int .i64 1, .int .i64 0, .int .i64 0, .int .i64 0, .int .i64 0, .int .i64 0]) (e := 42) (size := 6) rfl rfl (by decide)) (HTT.out.alloc _) (fun g hg => by simp [Value.ownBlock] at hg; have := HB0.out.size; omega) _ _ _ rfl
set_option maxRecDepth 100000 in
set_option maxHeartbeats 8000000 in
theorem done_4 (W : World) (N : Nat) (ih : DOneIH W N) (s : Stmt) (A0 : Option Addr) (c0 : Nat) (A1 : Option Addr) (c1 : Nat) (A2 : Option Addr) (c2 d : Nat) (hN : s.nodes ≤ N + 1) (hrd : Expr.rds W s.args A0 0) (hrd1 : Stmt.rds W s.body A1 0) (hrd2 : Stmt.rds W s.els A2 0) (hr : s.rightB nameB d = true) (hl : s.nodes ≤ 100000) (th : List ByteArray) (V : Value) (w : World) (hB : Below W.heap.size W w) (hth : Row w 9 1 V th.length (th.map .string)) (htl : th.length + s.nodes ≤ 900) (hk : s.kind = 4) :
    Calls Try.prog 51 #[s.val A0 c0 A1 c1 A2 c2, V] w (MDo (stmtM th s) w) := by
  obtain ⟨hkk, hla, hrr, hlb, hle, hrb, hre⟩ := Stmt.right_parts hr
  have hne := s.nodes_eq
  have hm := stmtM_eq th s
  obtain ⟨TA, tc, hV, _⟩ := hth.slice
  subst hV
  unfold Stmt.val
  have hx := blk_alloc (blk_new w (.cells #[.int .i64 s.kind, .string s.name, .int .i64 s.cell, .slice A0 s.args.length c0, .slice A1 s.body.length c1, .slice A2 s.els.length c2] 36)) (mC (.slice none 0 0) (.slice none 0 0) false)
  have hy := blk_new (w.alloc (.cells #[.int .i64 s.kind, .string s.name, .int .i64 s.cell, .slice A0 s.args.length c0, .slice A1 s.body.length c1, .slice A2 s.els.length c2] 36)) (mC (.slice none 0 0) (.slice none 0 0) false)
  rw [size_al] at hy
  have hb0 : Below w.heap.size w ((w.alloc (.cells #[.int .i64 s.kind, .string s.name, .int .i64 s.cell, .slice A0 s.args.length c0, .slice A1 s.body.length c1, .slice A2 s.els.length c2] 36)).alloc (mC (.slice none 0 0) (.slice none 0 0) false)) := ((Below.refl _ _).al).al
  have hz0 : ((w.alloc (.cells #[.int .i64 s.kind, .string s.name, .int .i64 s.cell, .slice A0 s.args.length c0, .slice A1 s.body.length c1, .slice A2 s.els.length c2] 36)).alloc (mC (.slice none 0 0) (.slice none 0 0) false)).heap.size = w.heap.size + 2 := by rw [size_al, size_al]
  obtain ⟨w0, hw0⟩ : ∃ w0, ((w.alloc (.cells #[.int .i64 s.kind, .string s.name, .int .i64 s.cell, .slice A0 s.args.length c0, .slice A1 s.body.length c1, .slice A2 s.els.length c2] 36)).alloc (mC (.slice none 0 0) (.slice none 0 0) false)) = w0 := ⟨_, rfl⟩
  rw [hw0] at hx hy hb0 hz0
  unfold mC at hw0
  have HX := Lib.hid hx
  have HY := Lib.hid hy
  have HB0 := Lib.hid hb0
  have HW := Lib.hid hw0
  have HZ := Lib.hid hz0
  have HB := Lib.hid hB
  have HT0 := Lib.hid (hth.below hb0)
  have hws := hB.size
  have x0 := blk_cell hx 0
  have HWB := Lib.hid (hB.trans (hb0.mono hws))
  have hlen : s.args.length = 1 := by simp [wantA, hk] at hla; omega
  have hj0 : 0 < s.args.length := by omega
  have hga0 : s.args.getD 0 default = s.args[0]'hj0 := by simp [List.getD, hj0]
  have hn0 := Expr.nodesL_take s.args 0 hj0
  have hra0 := Expr.rightsB_all hrr (s.args[0]'hj0) (List.getElem_mem hj0)
  rw [hga0] at hm
  obtain ⟨ba0, oa0, B0, d0, hA0, hba0, m00, m01, m02, m03, m04, hc0, hs0, hrd0'⟩ := Expr.at hrd HWB.out hj0
  simp only [Nat.zero_mul, Nat.add_zero] at m00 m01 m02 m03 m04
  obtain ⟨e0, he0⟩ : ∃ e, s.args[0]'hj0 = e := ⟨_, rfl⟩
  rw [he0] at m00 m01 m02 m03 m04 hrd0' hra0 hn0 hm
  have hI := dexpr_calls W e0.nodes e0 B0 d0 1 (Nat.le_refl _) hrd0' (by omega) hra0 th (.slice TA th.length tc) 11 w0 HWB.out (hth.below hb0) (by omega) (by omega) (by omega)
  have HI := Lib.hid hI
  have HL := Lib.hid (fun r h => exprD_len (r := r) (th := th) (t := 11) hra0 h)
  have hN0 : e0.nodes ≤ 100000 := by omega
  have hj0' : (0 : Int) < (s.args.length : Int) := by omega
  subst hA0
  have x3 := blk_cell hx 3
  rw [if_neg (by omega), if_neg (by omega), if_neg (by omega), if_pos hk] at hm
  have HMM := Lib.hid hm
  have t1 : (s.kind == 1) = false := by simp [hk]
  have t2 : (s.kind == 2) = false := by simp [hk]
  have t9 : (s.kind == 9) = false := by simp [hk]
  have t3 : (s.kind == 3) = false := by simp [hk]
  have t4 : (s.kind == 4) = true := by simp [hk]
  have t5 : (s.kind == 5) = false := by simp [hk]
  have t8 : (s.kind == 8) = false := by simp [hk]
  have t6 : (s.kind == 6) = false := by simp [hk]
  have t7 : (s.kind == 7) = false := by simp [hk]
  clear hm hI hga0 hra0 hrd0' hn0 he0 hlen hc0 hs0 hk
  clear hx hy hb0 hw0 hz0 hrr hlb hle hrb hre hr hla hkk hne hth hB hrd hrd1 hrd2 ih
  cases hx : exprD th 11 e0 with
  | none =>
    have HM := Lib.hid (show stmtM th s = ⟨[], [], true⟩ by rw [HMM.out]; unfold oneM; rw [hx])
    go_enter Try.func51, Try.ntmps51
    go_wp2_with (have tk := HW; clear tk; rw [HW.out]; clear HW)
    refine HI.out.mono ?_
    intro E w1 hd
    obtain ⟨rfl, hb1⟩ := hd.none hx
    have hyy := below_blk hb1 HY.out (blk_lt HY.out)
    have y0 := blk_cell (hyy) 0
    have y1 := blk_cell (hyy) 1
    have y2 := blk_cell (hyy) 2
    have yf := blk_free (hyy)
    have HYY := Lib.hid hyy
    have HB1 := Lib.hid (HB0.out.trans (hb1.mono HB0.out.size))
    clear hyy hb1 hd x0 x3 m00 m01 m02 m03 m04
    go_wp2
    refine bodyPost_ret (results_cell rfl _ _ (w.heap.size + 1) [.slice none 0 0, .slice none 0 0, .bool true] (by rfl) (range_at (blk_set (blk_set (blk_set (HYY.out) 0 _) 1 _) 2 _) 0 [.slice none 0 0, .slice none 0 0, .bool true] rfl) rfl rfl (by kernel_rfl)) rfl ?_
    rw [HM.out]
    exact MDo.fin (m := ⟨[], [], true⟩) HB1.out HYY.out (Row.nil _ _ _) (Row.nil _ _ _) (fun g hg => by simp [Value.ownBlock] at hg) _ _ _ rfl
  | some r =>
    obtain ⟨a, t, X⟩ := r
    have HM := Lib.hid (show stmtM th s = ⟨X ++ [(⟨9, 0, a, 0, 0, 0⟩ : Ins)], th, false⟩ by rw [HMM.out]; unfold oneM; rw [hx])
    have hXl := (HL.out _ hx).1
    simp only at hXl
    go_enter Try.func51, Try.ntmps51
    go_wp2_with (have tk := HW; clear tk; rw [HW.out]; clear HW)
    refine HI.out.mono ?_
    intro E w1 hd
    obtain ⟨XA, xc, rfl, hb1, hr1, ho1⟩ := hd.some hx
    have HB1 := Lib.hid (HB0.out.trans (hb1.mono HB0.out.size))
    have HO1 := Lib.hid (show ∀ g, (Value.slice XA X.length xc).ownBlock = some g → w.heap.size ≤ g from fun g hg => Nat.le_trans HB0.out.size (ho1 g hg))
    have HX1 := Lib.hid (below_blk hb1 HX.out (blk_lt HX.out))
    have HY1 := Lib.hid (below_blk hb1 HY.out (blk_lt HY.out))
    have HR1 := Lib.hid hr1
    have HT1 := Lib.hid (HT0.out.below hb1)
    have hz1 : w.heap.size + 2 ≤ w1.heap.size := by have := hb1.size; have := HZ.out; omega
    clear hb1 hr1 ho1 hd x0 x3 m00 m01 m02 m03 m04 hx
    obtain ⟨w2, hw2⟩ : ∃ w2, w1.alloc (mC (.slice XA X.length xc) (.slice TA th.length tc) false) = w2 := ⟨_, rfl⟩
    have hq := blk_new w1 (mC (.slice XA X.length xc) (.slice TA th.length tc) false)
    have hb2 : Below w.heap.size w w2 := hw2 ▸ HB1.out.al
    have hb12 : Below w1.heap.size w1 w2 := hw2 ▸ (Below.refl _ _).al
    rw [hw2] at hq
    unfold mC at hw2
    have HW2 := Lib.hid hw2
    have HQ2 := Lib.hid (show w2.heap[w1.heap.size]? = some (mC (.slice XA X.length xc) (.slice TA th.length tc) false) from hq)
    have HB2 := Lib.hid hb2
    have HX2 := Lib.hid (below_blk hb12 HX1.out (blk_lt HX1.out))
    have HY2 := Lib.hid (below_blk hb12 HY1.out (blk_lt HY1.out))
    have HR2 := Lib.hid (HR1.out.below hb12)
    have HT2 := Lib.hid (HT1.out.below hb12)
    have HNE := Lib.hid (HR2.out.ne HQ2.out (by decide))
    have hz2 : w1.heap.size + 1 ≤ w2.heap.size := by have := blk_lt HQ2.out; omega
    clear hw2 hq hb2 hb12
    have x0 := blk_cell HX2.out 0
    have q0 := blk_cell HQ2.out 0
    go_upto_region 32 with (first
      | (have tk := HW2; clear tk; rw [HW2.out]; clear HW2)
      | (at_builtin; go_must (refine wpList_append_rows _ rfl _ _ 24 rfl 42 (.agg #[.int .i64 0, .int .i64 0, .int .i64 0, .int .i64 0, .int .i64 0, .int .i64 0]) 6 48 Try.underlying24 info_ins rfl (.slice XA X.length xc) (X.length) (insCells X) rfl (HR2.out.alloc _) (.slice (some ⟨w2.heap.size, 0, none⟩) 1 1) 1 [.int .i64 9, .int .i64 0, .int .i64 a, .int .i64 0, .int .i64 0, .int .i64 0] rfl (Row.laid (n := 1) (cs := #[.int .i64 9, .int .i64 0, .int .i64 a, .int .i64 0, .int .i64 0, .int .i64 0]) (size := 6) rfl rfl (by decide)) (by simp [Value.oneCell']) (by unfold maxLen; omega) (by omega) ?_); intro v' w' hrow' hgrow hown; obtain ⟨A5, c5, hv', hc'⟩ := hrow'.slice; subst hv'; have hbb := grown_blk hgrow (blk_alloc HQ2.out _) HNE.out; have fb := blk_cell hbb 0; have ff := blk_free hbb))
    obtain ⟨f1, f2, f3, f4⟩ := MBox.pushed (w := w) (n := X.length + 1) (Y := [(⟨9, 0, a, 0, 0, 0⟩ : Ins)]) (HB2.out.al) (blk_alloc HQ2.out _) (by omega) (HR2.out.alloc _) (HT2.out.alloc _) HO1.out rfl hrow' hgrow hown
    obtain ⟨A9, c9, B9, b9, hm9, hl9, ht9, ho9, _⟩ := f1
    have HF2 := Lib.hid f2
    have hy9 := f3 (w.heap.size + 1) _ _ (by omega) (blk_alloc HY2.out _) (by decide)
    have HL9 := Lib.hid hl9
    have HT9 := Lib.hid ht9
    have HO9 := Lib.hid ho9
    clear q0
    have q0 := blk_cell hm9 0
    have q1 := blk_cell hm9 1
    have q2 := blk_cell hm9 2
    have y0 := blk_cell (hy9) 0
    have y1 := blk_cell (hy9) 1
    have y2 := blk_cell (hy9) 2
    have yf := blk_free (hy9)
    have HY9 := Lib.hid hy9
    clear f2 f3 f4 hrow' hgrow hown hbb hy9 hl9 ht9 ho9 fb ff
    go_wp2
    refine bodyPost_ret (results_cell rfl _ _ (w.heap.size + 1) [.slice A9 (X.length + 1) c9, .slice B9 th.length b9, .bool false] (by rfl) (range_at (blk_set (blk_set (blk_set (HY9.out) 0 _) 1 _) 2 _) 0 [.slice A9 (X.length + 1) c9, .slice B9 th.length b9, .bool false] rfl) rfl rfl (by kernel_rfl)) rfl ?_
    rw [HM.out]
    exact MDo.fin (m := ⟨X ++ [(⟨9, 0, a, 0, 0, 0⟩ : Ins)], th, false⟩) HF2.out HY9.out HL9.out HT9.out HO9.out _ _ _ (by simp)
set_option maxRecDepth 100000 in
set_option maxHeartbeats 8000000 in
theorem done_5 (W : World) (N : Nat) (ih : DOneIH W N) (s : Stmt) (A0 : Option Addr) (c0 : Nat) (A1 : Option Addr) (c1 : Nat) (A2 : Option Addr) (c2 d : Nat) (hN : s.nodes ≤ N + 1) (hrd : Expr.rds W s.args A0 0) (hrd1 : Stmt.rds W s.body A1 0) (hrd2 : Stmt.rds W s.els A2 0) (hr : s.rightB nameB d = true) (hl : s.nodes ≤ 100000) (th : List ByteArray) (V : Value) (w : World) (hB : Below W.heap.size W w) (hth : Row w 9 1 V th.length (th.map .string)) (htl : th.length + s.nodes ≤ 900) (hk : s.kind = 5) :
    Calls Try.prog 51 #[s.val A0 c0 A1 c1 A2 c2, V] w (MDo (stmtM th s) w) := by
  obtain ⟨hkk, hla, hrr, hlb, hle, hrb, hre⟩ := Stmt.right_parts hr
  have hne := s.nodes_eq
  have hm := stmtM_eq th s
  obtain ⟨TA, tc, hV, _⟩ := hth.slice
  subst hV
  unfold Stmt.val
  have hx := blk_alloc (blk_new w (.cells #[.int .i64 s.kind, .string s.name, .int .i64 s.cell, .slice A0 s.args.length c0, .slice A1 s.body.length c1, .slice A2 s.els.length c2] 36)) (mC (.slice none 0 0) (.slice none 0 0) false)
  have hy := blk_new (w.alloc (.cells #[.int .i64 s.kind, .string s.name, .int .i64 s.cell, .slice A0 s.args.length c0, .slice A1 s.body.length c1, .slice A2 s.els.length c2] 36)) (mC (.slice none 0 0) (.slice none 0 0) false)
  rw [size_al] at hy
  have hb0 : Below w.heap.size w ((w.alloc (.cells #[.int .i64 s.kind, .string s.name, .int .i64 s.cell, .slice A0 s.args.length c0, .slice A1 s.body.length c1, .slice A2 s.els.length c2] 36)).alloc (mC (.slice none 0 0) (.slice none 0 0) false)) := ((Below.refl _ _).al).al
  have hz0 : ((w.alloc (.cells #[.int .i64 s.kind, .string s.name, .int .i64 s.cell, .slice A0 s.args.length c0, .slice A1 s.body.length c1, .slice A2 s.els.length c2] 36)).alloc (mC (.slice none 0 0) (.slice none 0 0) false)).heap.size = w.heap.size + 2 := by rw [size_al, size_al]
  obtain ⟨w0, hw0⟩ : ∃ w0, ((w.alloc (.cells #[.int .i64 s.kind, .string s.name, .int .i64 s.cell, .slice A0 s.args.length c0, .slice A1 s.body.length c1, .slice A2 s.els.length c2] 36)).alloc (mC (.slice none 0 0) (.slice none 0 0) false)) = w0 := ⟨_, rfl⟩
  rw [hw0] at hx hy hb0 hz0
  unfold mC at hw0
  have HX := Lib.hid hx
  have HY := Lib.hid hy
  have HB0 := Lib.hid hb0
  have HW := Lib.hid hw0
  have HZ := Lib.hid hz0
  have HB := Lib.hid hB
  have HT0 := Lib.hid (hth.below hb0)
  have hws := hB.size
  have x0 := blk_cell hx 0
  have HWB := Lib.hid (hB.trans (hb0.mono hws))
  have hlen : s.args.length = 1 := by simp [wantA, hk] at hla; omega
  have hj0 : 0 < s.args.length := by omega
  have hga0 : s.args.getD 0 default = s.args[0]'hj0 := by simp [List.getD, hj0]
  have hn0 := Expr.nodesL_take s.args 0 hj0
  have hra0 := Expr.rightsB_all hrr (s.args[0]'hj0) (List.getElem_mem hj0)
  rw [hga0] at hm
  obtain ⟨ba0, oa0, B0, d0, hA0, hba0, m00, m01, m02, m03, m04, hc0, hs0, hrd0'⟩ := Expr.at hrd HWB.out hj0
  simp only [Nat.zero_mul, Nat.add_zero] at m00 m01 m02 m03 m04
  obtain ⟨e0, he0⟩ : ∃ e, s.args[0]'hj0 = e := ⟨_, rfl⟩
  rw [he0] at m00 m01 m02 m03 m04 hrd0' hra0 hn0 hm
  have hI := dexpr_calls W e0.nodes e0 B0 d0 1 (Nat.le_refl _) hrd0' (by omega) hra0 th (.slice TA th.length tc) 11 w0 HWB.out (hth.below hb0) (by omega) (by omega) (by omega)
  have HI := Lib.hid hI
  have HL := Lib.hid (fun r h => exprD_len (r := r) (th := th) (t := 11) hra0 h)
  have hN0 : e0.nodes ≤ 100000 := by omega
  have hj0' : (0 : Int) < (s.args.length : Int) := by omega
  subst hA0
  have x3 := blk_cell hx 3
  rw [if_neg (by omega), if_neg (by omega), if_neg (by omega), if_neg (by omega), if_pos hk] at hm
  have HMM := Lib.hid hm
  have t1 : (s.kind == 1) = false := by simp [hk]
  have t2 : (s.kind == 2) = false := by simp [hk]
  have t9 : (s.kind == 9) = false := by simp [hk]
  have t3 : (s.kind == 3) = false := by simp [hk]
  have t4 : (s.kind == 4) = false := by simp [hk]
  have t5 : (s.kind == 5) = true := by simp [hk]
  have t8 : (s.kind == 8) = false := by simp [hk]
  have t6 : (s.kind == 6) = false := by simp [hk]
  have t7 : (s.kind == 7) = false := by simp [hk]
  clear hm hI hga0 hra0 hrd0' hn0 he0 hlen hc0 hs0 hk
  clear hx hy hb0 hw0 hz0 hrr hlb hle hrb hre hr hla hkk hne hth hB hrd hrd1 hrd2 ih
  cases hx : exprD th 11 e0 with
  | none =>
    have HM := Lib.hid (show stmtM th s = ⟨[], [], true⟩ by rw [HMM.out]; unfold oneM; rw [hx])
    go_enter Try.func51, Try.ntmps51
    go_wp2_with (have tk := HW; clear tk; rw [HW.out]; clear HW)
    refine HI.out.mono ?_
    intro E w1 hd
    obtain ⟨rfl, hb1⟩ := hd.none hx
    have hyy := below_blk hb1 HY.out (blk_lt HY.out)
    have y0 := blk_cell (hyy) 0
    have y1 := blk_cell (hyy) 1
    have y2 := blk_cell (hyy) 2
    have yf := blk_free (hyy)
    have HYY := Lib.hid hyy
    have HB1 := Lib.hid (HB0.out.trans (hb1.mono HB0.out.size))
    clear hyy hb1 hd x0 x3 m00 m01 m02 m03 m04
    go_wp2
    refine bodyPost_ret (results_cell rfl _ _ (w.heap.size + 1) [.slice none 0 0, .slice none 0 0, .bool true] (by rfl) (range_at (blk_set (blk_set (blk_set (HYY.out) 0 _) 1 _) 2 _) 0 [.slice none 0 0, .slice none 0 0, .bool true] rfl) rfl rfl (by kernel_rfl)) rfl ?_
    rw [HM.out]
    exact MDo.fin (m := ⟨[], [], true⟩) HB1.out HYY.out (Row.nil _ _ _) (Row.nil _ _ _) (fun g hg => by simp [Value.ownBlock] at hg) _ _ _ rfl
  | some r =>
    obtain ⟨a, t, X⟩ := r
    have HM := Lib.hid (show stmtM th s = ⟨X ++ [(⟨8, 0, a, 0, s.cell, 0⟩ : Ins)], th, false⟩ by rw [HMM.out]; unfold oneM; rw [hx])
    have hXl := (HL.out _ hx).1
    simp only at hXl
    go_enter Try.func51, Try.ntmps51
    go_wp2_with (have tk := HW; clear tk; rw [HW.out]; clear HW)
    refine HI.out.mono ?_
    intro E w1 hd
    obtain ⟨XA, xc, rfl, hb1, hr1, ho1⟩ := hd.some hx
    have HB1 := Lib.hid (HB0.out.trans (hb1.mono HB0.out.size))
    have HO1 := Lib.hid (show ∀ g, (Value.slice XA X.length xc).ownBlock = some g → w.heap.size ≤ g from fun g hg => Nat.le_trans HB0.out.size (ho1 g hg))
    have HX1 := Lib.hid (below_blk hb1 HX.out (blk_lt HX.out))
    have HY1 := Lib.hid (below_blk hb1 HY.out (blk_lt HY.out))
    have HR1 := Lib.hid hr1
    have HT1 := Lib.hid (HT0.out.below hb1)
    have hz1 : w.heap.size + 2 ≤ w1.heap.size := by have := hb1.size; have := HZ.out; omega
    clear hb1 hr1 ho1 hd x0 x3 m00 m01 m02 m03 m04 hx
    obtain ⟨w2, hw2⟩ : ∃ w2, w1.alloc (mC (.slice XA X.length xc) (.slice TA th.length tc) false) = w2 := ⟨_, rfl⟩
    have hq := blk_new w1 (mC (.slice XA X.length xc) (.slice TA th.length tc) false)
    have hb2 : Below w.heap.size w w2 := hw2 ▸ HB1.out.al
    have hb12 : Below w1.heap.size w1 w2 := hw2 ▸ (Below.refl _ _).al
    rw [hw2] at hq
    unfold mC at hw2
    have HW2 := Lib.hid hw2
    have HQ2 := Lib.hid (show w2.heap[w1.heap.size]? = some (mC (.slice XA X.length xc) (.slice TA th.length tc) false) from hq)
    have HB2 := Lib.hid hb2
    have HX2 := Lib.hid (below_blk hb12 HX1.out (blk_lt HX1.out))
    have HY2 := Lib.hid (below_blk hb12 HY1.out (blk_lt HY1.out))
    have HR2 := Lib.hid (HR1.out.below hb12)
    have HT2 := Lib.hid (HT1.out.below hb12)
    have HNE := Lib.hid (HR2.out.ne HQ2.out (by decide))
    have hz2 : w1.heap.size + 1 ≤ w2.heap.size := by have := blk_lt HQ2.out; omega
    clear hw2 hq hb2 hb12
    have x0 := blk_cell HX2.out 0
    have q0 := blk_cell HQ2.out 0
    have x2' := blk_cell HX2.out 2
    go_upto_region 32 with (first
      | (have tk := HW2; clear tk; rw [HW2.out]; clear HW2)
      | (at_builtin; go_must (refine wpList_append_rows _ rfl _ _ 24 rfl 42 (.agg #[.int .i64 0, .int .i64 0, .int .i64 0, .int .i64 0, .int .i64 0, .int .i64 0]) 6 48 Try.underlying24 info_ins rfl (.slice XA X.length xc) (X.length) (insCells X) rfl (HR2.out.alloc _) (.slice (some ⟨w2.heap.size, 0, none⟩) 1 1) 1 [.int .i64 8, .int .i64 0, .int .i64 a, .int .i64 0, .int .i64 s.cell, .int .i64 0] rfl (Row.laid (n := 1) (cs := #[.int .i64 8, .int .i64 0, .int .i64 a, .int .i64 0, .int .i64 s.cell, .int .i64 0]) (size := 6) rfl rfl (by decide)) (by simp [Value.oneCell']) (by unfold maxLen; omega) (by omega) ?_); intro v' w' hrow' hgrow hown; obtain ⟨A5, c5, hv', hc'⟩ := hrow'.slice; subst hv'; have hbb := grown_blk hgrow (blk_alloc HQ2.out _) HNE.out; have fb := blk_cell hbb 0; have ff := blk_free hbb))
    obtain ⟨f1, f2, f3, f4⟩ := MBox.pushed (w := w) (n := X.length + 1) (Y := [(⟨8, 0, a, 0, s.cell, 0⟩ : Ins)]) (HB2.out.al) (blk_alloc HQ2.out _) (by omega) (HR2.out.alloc _) (HT2.out.alloc _) HO1.out rfl hrow' hgrow hown
    obtain ⟨A9, c9, B9, b9, hm9, hl9, ht9, ho9, _⟩ := f1
    have HF2 := Lib.hid f2
    have hy9 := f3 (w.heap.size + 1) _ _ (by omega) (blk_alloc HY2.out _) (by decide)
    have HL9 := Lib.hid hl9
    have HT9 := Lib.hid ht9
    have HO9 := Lib.hid ho9
    clear q0
    have q0 := blk_cell hm9 0
    have q1 := blk_cell hm9 1
    have q2 := blk_cell hm9 2
    have y0 := blk_cell (hy9) 0
    have y1 := blk_cell (hy9) 1
    have y2 := blk_cell (hy9) 2
    have yf := blk_free (hy9)
    have HY9 := Lib.hid hy9
    clear f2 f3 f4 hrow' hgrow hown hbb hy9 hl9 ht9 ho9 fb ff
    go_wp2
    refine bodyPost_ret (results_cell rfl _ _ (w.heap.size + 1) [.slice A9 (X.length + 1) c9, .slice B9 th.length b9, .bool false] (by rfl) (range_at (blk_set (blk_set (blk_set (HY9.out) 0 _) 1 _) 2 _) 0 [.slice A9 (X.length + 1) c9, .slice B9 th.length b9, .bool false] rfl) rfl rfl (by kernel_rfl)) rfl ?_
    rw [HM.out]
    exact MDo.fin (m := ⟨X ++ [(⟨8, 0, a, 0, s.cell, 0⟩ : Ins)], th, false⟩) HF2.out HY9.out HL9.out HT9.out HO9.out _ _ _ (by simp)
set_option maxRecDepth 100000 in
set_option maxHeartbeats 8000000 in
theorem done_8 (W : World) (N : Nat) (ih : DOneIH W N) (s : Stmt) (A0 : Option Addr) (c0 : Nat) (A1 : Option Addr) (c1 : Nat) (A2 : Option Addr) (c2 d : Nat) (hN : s.nodes ≤ N + 1) (hrd : Expr.rds W s.args A0 0) (hrd1 : Stmt.rds W s.body A1 0) (hrd2 : Stmt.rds W s.els A2 0) (hr : s.rightB nameB d = true) (hl : s.nodes ≤ 100000) (th : List ByteArray) (V : Value) (w : World) (hB : Below W.heap.size W w) (hth : Row w 9 1 V th.length (th.map .string)) (htl : th.length + s.nodes ≤ 900) (hk : s.kind = 8) :
    Calls Try.prog 51 #[s.val A0 c0 A1 c1 A2 c2, V] w (MDo (stmtM th s) w) := by
  obtain ⟨hkk, hla, hrr, hlb, hle, hrb, hre⟩ := Stmt.right_parts hr
  have hne := s.nodes_eq
  have hm := stmtM_eq th s
  obtain ⟨TA, tc, hV, _⟩ := hth.slice
  subst hV
  unfold Stmt.val
  have hx := blk_alloc (blk_new w (.cells #[.int .i64 s.kind, .string s.name, .int .i64 s.cell, .slice A0 s.args.length c0, .slice A1 s.body.length c1, .slice A2 s.els.length c2] 36)) (mC (.slice none 0 0) (.slice none 0 0) false)
  have hy := blk_new (w.alloc (.cells #[.int .i64 s.kind, .string s.name, .int .i64 s.cell, .slice A0 s.args.length c0, .slice A1 s.body.length c1, .slice A2 s.els.length c2] 36)) (mC (.slice none 0 0) (.slice none 0 0) false)
  rw [size_al] at hy
  have hb0 : Below w.heap.size w ((w.alloc (.cells #[.int .i64 s.kind, .string s.name, .int .i64 s.cell, .slice A0 s.args.length c0, .slice A1 s.body.length c1, .slice A2 s.els.length c2] 36)).alloc (mC (.slice none 0 0) (.slice none 0 0) false)) := ((Below.refl _ _).al).al
  have hz0 : ((w.alloc (.cells #[.int .i64 s.kind, .string s.name, .int .i64 s.cell, .slice A0 s.args.length c0, .slice A1 s.body.length c1, .slice A2 s.els.length c2] 36)).alloc (mC (.slice none 0 0) (.slice none 0 0) false)).heap.size = w.heap.size + 2 := by rw [size_al, size_al]
  obtain ⟨w0, hw0⟩ : ∃ w0, ((w.alloc (.cells #[.int .i64 s.kind, .string s.name, .int .i64 s.cell, .slice A0 s.args.length c0, .slice A1 s.body.length c1, .slice A2 s.els.length c2] 36)).alloc (mC (.slice none 0 0) (.slice none 0 0) false)) = w0 := ⟨_, rfl⟩
  rw [hw0] at hx hy hb0 hz0
  unfold mC at hw0
  have HX := Lib.hid hx
  have HY := Lib.hid hy
  have HB0 := Lib.hid hb0
  have HW := Lib.hid hw0
  have HZ := Lib.hid hz0
  have HB := Lib.hid hB
  have HT0 := Lib.hid (hth.below hb0)
  have hws := hB.size
  have x0 := blk_cell hx 0
  have HWB := Lib.hid (hB.trans (hb0.mono hws))
  have hlen : s.args.length = 1 := by simp [wantA, hk] at hla; omega
  have hj0 : 0 < s.args.length := by omega
  have hga0 : s.args.getD 0 default = s.args[0]'hj0 := by simp [List.getD, hj0]
  have hn0 := Expr.nodesL_take s.args 0 hj0
  have hra0 := Expr.rightsB_all hrr (s.args[0]'hj0) (List.getElem_mem hj0)
  rw [hga0] at hm
  obtain ⟨ba0, oa0, B0, d0, hA0, hba0, m00, m01, m02, m03, m04, hc0, hs0, hrd0'⟩ := Expr.at hrd HWB.out hj0
  simp only [Nat.zero_mul, Nat.add_zero] at m00 m01 m02 m03 m04
  obtain ⟨e0, he0⟩ : ∃ e, s.args[0]'hj0 = e := ⟨_, rfl⟩
  rw [he0] at m00 m01 m02 m03 m04 hrd0' hra0 hn0 hm
  have hI := dexpr_calls W e0.nodes e0 B0 d0 1 (Nat.le_refl _) hrd0' (by omega) hra0 th (.slice TA th.length tc) 11 w0 HWB.out (hth.below hb0) (by omega) (by omega) (by omega)
  have HI := Lib.hid hI
  have HL := Lib.hid (fun r h => exprD_len (r := r) (th := th) (t := 11) hra0 h)
  have hN0 : e0.nodes ≤ 100000 := by omega
  have hj0' : (0 : Int) < (s.args.length : Int) := by omega
  subst hA0
  have x3 := blk_cell hx 3
  rw [if_neg (by omega), if_neg (by omega), if_neg (by omega), if_neg (by omega), if_neg (by omega), if_pos hk] at hm
  have HMM := Lib.hid hm
  have t1 : (s.kind == 1) = false := by simp [hk]
  have t2 : (s.kind == 2) = false := by simp [hk]
  have t9 : (s.kind == 9) = false := by simp [hk]
  have t3 : (s.kind == 3) = false := by simp [hk]
  have t4 : (s.kind == 4) = false := by simp [hk]
  have t5 : (s.kind == 5) = false := by simp [hk]
  have t8 : (s.kind == 8) = true := by simp [hk]
  have t6 : (s.kind == 6) = false := by simp [hk]
  have t7 : (s.kind == 7) = false := by simp [hk]
  clear hm hI hga0 hra0 hrd0' hn0 he0 hlen hc0 hs0 hk
  clear hx hy hb0 hw0 hz0 hrr hlb hle hrb hre hr hla hkk hne hth hB hrd hrd1 hrd2 ih
  cases hx : exprD th 11 e0 with
  | none =>
    have HM := Lib.hid (show stmtM th s = ⟨[], [], true⟩ by rw [HMM.out]; unfold oneM; rw [hx])
    go_enter Try.func51, Try.ntmps51
    go_wp2_with (have tk := HW; clear tk; rw [HW.out]; clear HW)
    refine HI.out.mono ?_
    intro E w1 hd
    obtain ⟨rfl, hb1⟩ := hd.none hx
    have hyy := below_blk hb1 HY.out (blk_lt HY.out)
    have y0 := blk_cell (hyy) 0
    have y1 := blk_cell (hyy) 1
    have y2 := blk_cell (hyy) 2
    have yf := blk_free (hyy)
    have HYY := Lib.hid hyy
    have HB1 := Lib.hid (HB0.out.trans (hb1.mono HB0.out.size))
    clear hyy hb1 hd x0 x3 m00 m01 m02 m03 m04
    go_wp2
    refine bodyPost_ret (results_cell rfl _ _ (w.heap.size + 1) [.slice none 0 0, .slice none 0 0, .bool true] (by rfl) (range_at (blk_set (blk_set (blk_set (HYY.out) 0 _) 1 _) 2 _) 0 [.slice none 0 0, .slice none 0 0, .bool true] rfl) rfl rfl (by kernel_rfl)) rfl ?_
    rw [HM.out]
    exact MDo.fin (m := ⟨[], [], true⟩) HB1.out HYY.out (Row.nil _ _ _) (Row.nil _ _ _) (fun g hg => by simp [Value.ownBlock] at hg) _ _ _ rfl
  | some r =>
    obtain ⟨a, t, X⟩ := r
    have HM := Lib.hid (show stmtM th s = ⟨X ++ [(⟨13, 0, a, 0, 0, 0⟩ : Ins)], th, false⟩ by rw [HMM.out]; unfold oneM; rw [hx])
    have hXl := (HL.out _ hx).1
    simp only at hXl
    go_enter Try.func51, Try.ntmps51
    go_wp2_with (have tk := HW; clear tk; rw [HW.out]; clear HW)
    refine HI.out.mono ?_
    intro E w1 hd
    obtain ⟨XA, xc, rfl, hb1, hr1, ho1⟩ := hd.some hx
    have HB1 := Lib.hid (HB0.out.trans (hb1.mono HB0.out.size))
    have HO1 := Lib.hid (show ∀ g, (Value.slice XA X.length xc).ownBlock = some g → w.heap.size ≤ g from fun g hg => Nat.le_trans HB0.out.size (ho1 g hg))
    have HX1 := Lib.hid (below_blk hb1 HX.out (blk_lt HX.out))
    have HY1 := Lib.hid (below_blk hb1 HY.out (blk_lt HY.out))
    have HR1 := Lib.hid hr1
    have HT1 := Lib.hid (HT0.out.below hb1)
    have hz1 : w.heap.size + 2 ≤ w1.heap.size := by have := hb1.size; have := HZ.out; omega
    clear hb1 hr1 ho1 hd x0 x3 m00 m01 m02 m03 m04 hx
    obtain ⟨w2, hw2⟩ : ∃ w2, w1.alloc (mC (.slice XA X.length xc) (.slice TA th.length tc) false) = w2 := ⟨_, rfl⟩
    have hq := blk_new w1 (mC (.slice XA X.length xc) (.slice TA th.length tc) false)
    have hb2 : Below w.heap.size w w2 := hw2 ▸ HB1.out.al
    have hb12 : Below w1.heap.size w1 w2 := hw2 ▸ (Below.refl _ _).al
    rw [hw2] at hq
    unfold mC at hw2
    have HW2 := Lib.hid hw2
    have HQ2 := Lib.hid (show w2.heap[w1.heap.size]? = some (mC (.slice XA X.length xc) (.slice TA th.length tc) false) from hq)
    have HB2 := Lib.hid hb2
    have HX2 := Lib.hid (below_blk hb12 HX1.out (blk_lt HX1.out))
    have HY2 := Lib.hid (below_blk hb12 HY1.out (blk_lt HY1.out))
    have HR2 := Lib.hid (HR1.out.below hb12)
    have HT2 := Lib.hid (HT1.out.below hb12)
    have HNE := Lib.hid (HR2.out.ne HQ2.out (by decide))
    have hz2 : w1.heap.size + 1 ≤ w2.heap.size := by have := blk_lt HQ2.out; omega
    clear hw2 hq hb2 hb12
    have x0 := blk_cell HX2.out 0
    have q0 := blk_cell HQ2.out 0
    go_upto_region 32 with (first
      | (have tk := HW2; clear tk; rw [HW2.out]; clear HW2)
      | (at_builtin; go_must (refine wpList_append_rows _ rfl _ _ 24 rfl 42 (.agg #[.int .i64 0, .int .i64 0, .int .i64 0, .int .i64 0, .int .i64 0, .int .i64 0]) 6 48 Try.underlying24 info_ins rfl (.slice XA X.length xc) (X.length) (insCells X) rfl (HR2.out.alloc _) (.slice (some ⟨w2.heap.size, 0, none⟩) 1 1) 1 [.int .i64 13, .int .i64 0, .int .i64 a, .int .i64 0, .int .i64 0, .int .i64 0] rfl (Row.laid (n := 1) (cs := #[.int .i64 13, .int .i64 0, .int .i64 a, .int .i64 0, .int .i64 0, .int .i64 0]) (size := 6) rfl rfl (by decide)) (by simp [Value.oneCell']) (by unfold maxLen; omega) (by omega) ?_); intro v' w' hrow' hgrow hown; obtain ⟨A5, c5, hv', hc'⟩ := hrow'.slice; subst hv'; have hbb := grown_blk hgrow (blk_alloc HQ2.out _) HNE.out; have fb := blk_cell hbb 0; have ff := blk_free hbb))
    obtain ⟨f1, f2, f3, f4⟩ := MBox.pushed (w := w) (n := X.length + 1) (Y := [(⟨13, 0, a, 0, 0, 0⟩ : Ins)]) (HB2.out.al) (blk_alloc HQ2.out _) (by omega) (HR2.out.alloc _) (HT2.out.alloc _) HO1.out rfl hrow' hgrow hown
    obtain ⟨A9, c9, B9, b9, hm9, hl9, ht9, ho9, _⟩ := f1
    have HF2 := Lib.hid f2
    have hy9 := f3 (w.heap.size + 1) _ _ (by omega) (blk_alloc HY2.out _) (by decide)
    have HL9 := Lib.hid hl9
    have HT9 := Lib.hid ht9
    have HO9 := Lib.hid ho9
    clear q0
    have q0 := blk_cell hm9 0
    have q1 := blk_cell hm9 1
    have q2 := blk_cell hm9 2
    have y0 := blk_cell (hy9) 0
    have y1 := blk_cell (hy9) 1
    have y2 := blk_cell (hy9) 2
    have yf := blk_free (hy9)
    have HY9 := Lib.hid hy9
    clear f2 f3 f4 hrow' hgrow hown hbb hy9 hl9 ht9 ho9 fb ff
    go_wp2
    refine bodyPost_ret (results_cell rfl _ _ (w.heap.size + 1) [.slice A9 (X.length + 1) c9, .slice B9 th.length b9, .bool false] (by rfl) (range_at (blk_set (blk_set (blk_set (HY9.out) 0 _) 1 _) 2 _) 0 [.slice A9 (X.length + 1) c9, .slice B9 th.length b9, .bool false] rfl) rfl rfl (by kernel_rfl)) rfl ?_
    rw [HM.out]
    exact MDo.fin (m := ⟨X ++ [(⟨13, 0, a, 0, 0, 0⟩ : Ins)], th, false⟩) HF2.out HY9.out HL9.out HT9.out HO9.out _ _ _ (by simp)
end Go.Proofs.Ytjlnpppjkdcpkaa.My
