/- The document's way through an expression. Conditions: the tree was there in the world W, which is kept; it may be. -/
import Derived.Test.YtjlnpppjkdcpkaaGmGnRg
namespace Go.Proofs.Ytjlnpppjkdcpkaa.My
open Go.RowKit Go.Maps Go.Proofs.Ytjlnpppjkdcpkaa.NumA
set_option linter.unusedVariables false
set_option linter.unusedSimpArgs false
theorem insCells_push (l : List Ins) (x : Ins) : insCells (l ++ [x]) = insCells l ++ x.cells := by simp [insCells_app, insCells]
theorem pushI {w : World} {v : Value} {n : Nat} {l : List Ins} {x : Ins} (h : Row w 42 6 v (n + 1) (insCells l ++ x.cells)) (hn : n = l.length) : Row w 42 6 v (l ++ [x]).length (insCells (l ++ [x])) := by
  rw [insCells_push, List.length_append, List.length_singleton, ← hn]
  exact h
theorem exprD_mk (th : List ByteArray) (t k n : Int) (s : ByteArray) (o : Int) (la : List Expr) : exprD th t (.mk k n s o la) = if k = 2 then some (regD th s, t, [])
    else if 16 ≤ t then none
    else if k = 1 then some (t, t + 1, [⟨2, 0, t, 0, 0, n⟩])
    else match exprsD th t la with
      | none => none
      | some (vs, _, l) => some (t, t + 1, l ++ [lastOp k o t vs]) := by rw [exprD]; rfl
theorem wantE_1 {k : Int} {l : List Expr} (h : (l.length : Int) = wantE k) (hk : k = 3 ∨ k = 4) : l.length = 1 := by
  rcases hk with rfl | rfl <;> simp [wantE] at h <;> omega
theorem wantE_2 {k : Int} {l : List Expr} (h : (l.length : Int) = wantE k) (hk : k = 5) : l.length = 2 := by
  subst hk; simp [wantE] at h; omega
theorem len1 {l : List Expr} (h : l.length = 1) : l = [l[0]'(by omega)] := by
  match l, h with
  | [x], _ => rfl
theorem len2 {l : List Expr} (h : l.length = 2) : l = [l[0]'(by omega), l[1]'(by omega)] := by
  match l, h with
  | [x, y], _ => rfl
theorem ExprDo.none {o : Option (Int × Int × List Ins)} {w : World} {E : Ending} {w' : World} (h : ExprDo o w E w') (ho : o = .none) : E = .returned (.tuple #[.slice .none 0 0, .int .i64 0, .int .i64 0, .bool false]) ∧ Below w.heap.size w w' := by
  subst ho; exact ⟨h.2, h.1⟩
theorem ExprDo.some {o : Option (Int × Int × List Ins)} {w : World} {E : Ending} {w' : World} (h : ExprDo o w E w') {a t' : Int} {X : List Ins} (ho : o = .some (a, t', X)) : ∃ A c, E = .returned (.tuple #[.slice A X.length c, .int .i64 a, .int .i64 t', .bool true]) ∧ Below w.heap.size w w' ∧ Row w' 42 6 (.slice A X.length c) X.length (insCells X) ∧ ∀ g, (Value.slice A X.length c).ownBlock = .some g → w.heap.size ≤ g := by
  subst ho
  obtain ⟨hb, V, rfl, hr, ho⟩ := h
  obtain ⟨A, c, rfl, _⟩ := hr.slice
  exact ⟨A, c, rfl, hb, hr, ho⟩
/-- onto a row of its own: what was made of it is new as well -/
theorem own_grown {w w1 : World} {A A' : Option Addr} {n n' c c' : Nat} (h : ∀ q, (Value.slice A n c).ownBlock = .some q → w.heap.size ≤ q) (hz : w.heap.size ≤ w1.heap.size)
    (hn : (Value.slice A' n' c').ownBlock = (Value.slice A n c).ownBlock ∨ (Value.slice A' n' c').ownBlock = .some w1.heap.size) : ∀ q, (Value.slice A' n' c').ownBlock = .some q → w.heap.size ≤ q := fun q hq => by
  rcases hn with e | e
  · rw [e] at hq; exact h q hq
  · rw [e] at hq; have := Option.some.inj hq; omega
set_option maxRecDepth 100000 in
set_option maxHeartbeats 8000000 in
theorem dexpr_calls (W : World) (N : Nat) : ∀ (e : Expr) (A : Option Addr) (c d : Nat), e.nodes ≤ N → Expr.rds W e.args A 0 → e.nodes ≤ 1000000 → e.rightB nameB d = true → ∀ (th : List ByteArray) (V : Value) (t : Int) (w : World), Below W.heap.size W w → Row w 9 1 V th.length (th.map .string) → th.length ≤ 1000 → 0 ≤ t → t ≤ 16 →
    Calls Try.prog 73 #[.agg #[.int .i64 e.kind, .int .i64 e.num, .string e.name, .int .i64 e.op, .slice A e.args.length c], V, .int .i64 t] w (ExprDo (exprD th t e) w) := by
  induction N with
  | zero => intro e A c d hN; have := e.nodes_eq; omega
  | succ N ih =>
    intro e A c d hN hrd hl hr th V t w hB hth htl h0 h1
    rw [Expr.rightB_eq] at hr
    simp only [Bool.and_eq_true, decide_eq_true_eq] at hr
    obtain ⟨⟨⟨⟨_, hk⟩, hla⟩, _⟩, hrr⟩ := hr
    obtain ⟨k, n, s, o, la⟩ := e
    have hq := exprD_mk th t k n s o la
    have hne : (Expr.mk k n s o la).nodes = 1 + Expr.nodesL la := by rw [Expr.nodes]
    change 1 ≤ k ∧ k ≤ 5 at hk
    change (la.length : Int) = wantE k at hla
    change Expr.rightsB nameB (d + 1) la = true at hrr
    change Expr.rds W la A 0 at hrd
    show Calls Try.prog 73 #[.agg #[.int .i64 k, .int .i64 n, .string s, .int .i64 o, .slice A la.length c], V, .int .i64 t] w (ExprDo (exprD th t (.mk k n s o la)) w)
    obtain ⟨A1, c1, rfl, _⟩ := hth.slice
    have hx0 := blk_new w (.cells #[.int .i64 k, .int .i64 n, .string s, .int .i64 o, .slice A la.length c] 66)
    have hz0 := size_al w (.cells #[.int .i64 k, .int .i64 n, .string s, .int .i64 o, .slice A la.length c] 66)
    have hb0 : Below w.heap.size w (w.alloc (.cells #[.int .i64 k, .int .i64 n, .string s, .int .i64 o, .slice A la.length c] 66)) := (Below.refl _ _).al
    obtain ⟨w0, hw0⟩ : ∃ w0, w.alloc (.cells #[.int .i64 k, .int .i64 n, .string s, .int .i64 o, .slice A la.length c] 66) = w0 := ⟨_, rfl⟩
    rw [hw0] at hx0 hz0 hb0
    have HW := Lib.hid hw0
    have HB0 := Lib.hid hb0
    have HBW0 := Lib.hid (hB.trans (hb0.mono hB.size))
    have HT0 := Lib.hid (hth.below hb0)
    have hws := hB.size
    have HX := Lib.hid hx0
    have x0 := blk_cell hx0 0
    have x1 := blk_cell hx0 1
    have x2 := blk_cell hx0 2
    have x3 := blk_cell hx0 3
    have x4 := blk_cell hx0 4
    clear hw0 hb0 hx0
    by_cases h2 : k = 2
    · have h2b : (k == 2) = true := by simp [h2]
      have HQ := Lib.hid (show exprD th t (.mk k n s o la) = some (regD th s, t, []) by rw [hq, if_pos h2])
      have hrg := dreg_calls th s _ w0 (by omega) HT0.out
      have HRG := Lib.hid hrg
      clear hrg hq h2 hk hla
      go_enter Try.func73, Try.ntmps73
      go_wp2_with (have tk := HW; clear tk; rw [HW.out]; clear HW)
      refine HRG.out.mono ?_
      rintro y w1 ⟨rfl, rfl⟩
      go_wp2
      refine bodyPost_ret (results_tmp4 rfl _ _ _) rfl ?_
      rw [HQ.out]
      exact ⟨HB0.out, _, rfl, Row.nil _ _ _, fun g hg => by simp [Value.ownBlock] at hg⟩
    · have h2b : (k == 2) = false := by simp [h2]
      by_cases h16 : 16 ≤ t
      · have h15 : t > 15 := by omega
        have HQ := Lib.hid (show exprD th t (.mk k n s o la) = none by rw [hq, if_neg h2, if_pos h16])
        clear hq h2 hk hla h16
        go_enter Try.func73, Try.ntmps73
        go_wp2_with (have tk := HW; clear tk; rw [HW.out]; clear HW)
        refine bodyPost_ret (results_tmp4 rfl _ _ _) rfl ?_
        rw [HQ.out]
        exact ⟨HB0.out, rfl⟩
      · have h15 : ¬ (t > 15) := by omega
        by_cases h1k : k = 1
        · have h1b : (k == 1) = true := by simp [h1k]
          have HQ := Lib.hid (show exprD th t (.mk k n s o la) = some (t, t + 1, [⟨2, 0, t, 0, 0, n⟩]) by rw [hq, if_neg h2, if_neg h16, if_pos h1k])
          clear hq h2 hk hla h16 h1k
          go_enter Try.func73, Try.ntmps73
          go_wp2_with (have tk := HW; clear tk; rw [HW.out]; clear HW)
          refine bodyPost_ret (results_tmp4 rfl _ _ _) rfl ?_
          rw [HQ.out]
          exact ⟨HB0.out.al, _, rfl, Row.laid (n := 1) (cs := #[.int .i64 2, .int .i64 0, .int .i64 t, .int .i64 0, .int .i64 0, .int .i64 n]) (size := 6) hz0 rfl (by decide), fun g hg => by simp [Value.ownBlock] at hg; omega⟩
        · have h1b : (k == 1) = false := by simp [h1k]
          rw [if_neg h2, if_neg h16, if_neg h1k] at hq
          by_cases h5 : k = 5
          · have hlen := wantE_2 hla h5
            have hl2 := len2 hlen
            have p0 : 0 < la.length := by omega
            have p1 : 1 < la.length := by omega
            have hno : (la[0]'p0).nodes + (la[1]'p1).nodes ≤ Expr.nodesL la := by
              conv => rhs; rw [hl2]
              simp [Expr.nodesL]
            obtain ⟨b, o', A4, c4, rfl, hbW, q0, q1, q2, q3, q4, hc4, hs4, rd4⟩ := Expr.at hrd HBW0.out (j := 0) (by omega)
            simp only [Nat.zero_mul, Nat.add_zero] at q0 q1 q2 q3 q4
            obtain ⟨b', o2', A5, c5, hA, _, _, _, _, _, _, hc5, hs5, rd5⟩ := Expr.at hrd HBW0.out (j := 1) (by omega)
            have hi1 := fun w' hb ht => ih la[0] A4 c4 (d + 1) (by omega) rd4 (by omega) (Expr.rightsB_all hrr _ (List.getElem_mem _)) th (.slice A1 th.length c1) t w' hb ht htl h0 h1
            have HI1 := Lib.hid hi1
            have HRD := Lib.hid hrd
            have HRR := Lib.hid hrr
            have HHQ := Lib.hid hq
            have HL2 := Lib.hid (show la = [la[0]'p0, la[1]'p1] from hl2)
            have HH5 := Lib.hid h5
            have k3 : (k == 3) = false := by simp [h5]
            have k4 : (k == 4) = false := by simp [h5]
            clear hi1 hq h2 hk hla h16 h1k hl2 h5 hrd hrr rd4 rd5 hA
            have hwl := HW.out
            rw [hlen] at x4 hwl ⊢
            have HW := Lib.hid hwl
            clear hwl
            go_enter Try.func73, Try.ntmps73
            go_wp2_with (have tk := HW; clear tk; rw [HW.out]; clear HW)
            refine (HI1.out w0 HBW0.out HT0.out).mono ?_
            rintro E w1 hd1
            clear x0 x1 x2 x3 x4 q0 q1 q2 q3 q4
            cases hx : exprD th t la[0] with
            | none =>
              obtain ⟨rfl, hb1⟩ := hd1.none hx
              have HQ := Lib.hid (show exprD th t (.mk k n s o la) = none by rw [HHQ.out, HL2.out, exprsD_two, hx]; rfl)
              have HB1 := Lib.hid (HB0.out.trans (hb1.mono HB0.out.size))
              clear hx hd1 hb1
              go_wp2_with fail
              refine bodyPost_ret (results_tmp4 rfl _ _ _) rfl ?_
              rw [HQ.out]
              exact ⟨HB1.out, rfl⟩
            | some r =>
              obtain ⟨a, t1, X⟩ := r
              obtain ⟨A6, c6, rfl, hb1, hr1, ho1⟩ := hd1.some hx
              have ht1 := exprD_t h0 h1 hx
              simp only at ht1
              have hXl := (exprD_len (Expr.rightsB_all HRR.out _ (List.getElem_mem (show 0 < la.length by omega))) hx).1
              simp only at hXl
              have hx1 := below_blk hb1 HX.out (by omega)
              rw [hlen] at hx1
              have x0 := blk_cell hx1 0
              have x3 := blk_cell hx1 3
              have x4 := blk_cell hx1 4
              have HX1 := Lib.hid hx1
              have HB1 := Lib.hid (HB0.out.trans (hb1.mono HB0.out.size))
              have HBW1 := Lib.hid (HBW0.out.trans (hb1.mono HBW0.out.size))
              have HT1 := Lib.hid (HT0.out.below hb1)
              have HR1 := Lib.hid hr1
              have HO1 := Lib.hid ho1
              have HHX := Lib.hid hx
              obtain ⟨b', o2', A5, c5, hA, _, q0, q1, q2, q3, q4, hc5, hs5, rd5⟩ := Expr.at HRD.out HBW1.out (j := 1) (by omega)
              simp only [Nat.one_mul] at q0 q1 q2 q3 q4
              simp only [Option.some.injEq, Addr.mk.injEq] at hA
              obtain ⟨rfl, rfl, _⟩ := hA
              have hi2 := fun w' hb ht => ih la[1] A5 c5 (d + 1) (by omega) rd5 (by omega) (Expr.rightsB_all HRR.out _ (List.getElem_mem _)) th (.slice A1 th.length c1) t1 w' hb ht htl ht1.1 ht1.2
              have HI2 := Lib.hid hi2
              clear hx1 hi2 hx hd1 hb1 hr1 ho1 rd5
              go_wp2_with fail
              refine (HI2.out w1 HBW1.out HT1.out).mono ?_
              rintro E w2 hd2
              clear x0 x3 x4 q0 q1 q2 q3 q4
              cases hy : exprD th t1 la[1] with
              | none =>
                obtain ⟨rfl, hb2⟩ := hd2.none hy
                have HQ := Lib.hid (show exprD th t (.mk k n s o la) = none by rw [HHQ.out, HL2.out, exprsD_two, HHX.out]; simp only [Option.bind_some]; rw [hy]; rfl)
                have HB2 := Lib.hid (HB1.out.trans (hb2.mono HB1.out.size))
                clear hy hd2 hb2
                go_wp2_with fail
                refine bodyPost_ret (results_tmp4 rfl _ _ _) rfl ?_
                rw [HQ.out]
                exact ⟨HB2.out, rfl⟩
              | some r =>
                obtain ⟨v, t2, Y⟩ := r
                obtain ⟨A7, c7, rfl, hb2, hr2, ho2⟩ := hd2.some hy
                have hYl := (exprD_len (Expr.rightsB_all HRR.out _ (List.getElem_mem (show 1 < la.length by omega))) hy).1
                simp only at hYl
                have HQ := Lib.hid (show exprD th t (.mk k n s o la) = some (t, t + 1, X ++ Y ++ [⟨5, o, t, a, v, 0⟩]) by rw [HHQ.out, HL2.out, exprsD_two, HHX.out]; simp only [Option.bind_some]; rw [hy, HH5.out]; rfl)
                have HB2 := Lib.hid (HB1.out.trans (hb2.mono HB1.out.size))
                have HX2 := Lib.hid (below_blk hb2 HX1.out (blk_lt HX1.out))
                have HR12 := Lib.hid (HR1.out.below hb2)
                have HR2 := Lib.hid hr2
                have hz2 := HB2.out.size
                clear hy hd2 hb2 hr2 ho2
                go_wp2_with (first
                  | (at_builtin; have tk := HR3; clear tk; go_must (refine wpList_append_rows _ rfl _ _ 24 rfl 42 (.agg #[.int .i64 0, .int .i64 0, .int .i64 0, .int .i64 0, .int .i64 0, .int .i64 0]) 6 48 Try.underlying24 info_ins rfl (.slice A3 (X.length + Y.length) c3) (X.length + Y.length) (insCells X ++ insCells Y) rfl (HR3.out.alloc _) (.slice (some ⟨w3.heap.size, 0, none⟩) 1 1) 1 [.int .i64 5, .int .i64 o, .int .i64 t, .int .i64 a, .int .i64 v, .int .i64 0] rfl (Row.laid (n := 1) (cs := #[.int .i64 5, .int .i64 o, .int .i64 t, .int .i64 a, .int .i64 v, .int .i64 0]) (size := 6) rfl rfl (by decide)) (by simp [Value.oneCell']) (by unfold maxLen; omega) (by omega) ?_); intro v4 w4 hr4 hg4 hn4; obtain ⟨A4, c4, hv4, _⟩ := hr4.slice; subst hv4; have HR4 := Lib.hid hr4; have HG4 := Lib.hid hg4; have HN4 := Lib.hid hn4; clear hr4 hg4 hn4)
                  | (at_builtin; go_must (refine wpList_append_rows _ rfl _ _ 24 rfl 42 (.agg #[.int .i64 0, .int .i64 0, .int .i64 0, .int .i64 0, .int .i64 0, .int .i64 0]) 6 48 Try.underlying24 info_ins rfl (.slice A6 X.length c6) (X.length) (insCells X) rfl (HR12.out) (.slice A7 Y.length c7) (Y.length) (insCells Y) rfl (HR2.out) (insCells_one _) (by unfold maxLen; omega) (by omega) ?_); intro v3 w3 hr3 hg3 hn3; obtain ⟨A3, c3, hv3, _⟩ := hr3.slice; subst hv3; have HR3 := Lib.hid hr3; have HG3 := Lib.hid hg3; have HN3 := Lib.hid hn3; clear hr3 hg3 hn3; have HB3 := Lib.hid (Below.grown HB2.out HG3.out HB2.out.size (fun q hq => by have := HO1.out q hq; omega)); have hx3 := grown_blk HG3.out HX2.out (fun e => by have := HO1.out _ e; omega); have x3 := blk_cell hx3 3; have HO3 := Lib.hid (own_grown (w := w) (fun q hq => by have := HO1.out q hq; omega : ∀ q, (Value.slice A6 X.length c6).ownBlock = some q → w.heap.size ≤ q) HB2.out.size HN3.out); clear hx3))
                have HB4 := Lib.hid (Below.grown ((HB3.out).al) HG4.out (by rw [size_al]; have := HB3.out.size; omega) (fun q hq => HO3.out q hq))
                have HR4' := HR4.out
                rw [← insCells_app] at HR4'
                have HRE := Lib.hid HR4'
                have HO4 := Lib.hid (own_grown (w := w) HO3.out (by rw [size_al]; have := HB3.out.size; omega) HN4.out)
                clear HR4'
                go_wp2
                refine bodyPost_ret (results_tmp4 rfl _ _ _) rfl ?_
                rw [HQ.out]
                refine ⟨HB4.out, _, rfl, ?_, HO4.out⟩
                exact pushI (l := X ++ Y) (x := ⟨5, o, t, a, v, 0⟩) HRE.out (by simp)
          · have h34 : k = 3 ∨ k = 4 := by omega
            have hlen := wantE_1 hla h34
            have hl1 := len1 hlen
            have p0 : 0 < la.length := by omega
            have hno : (la[0]'p0).nodes ≤ Expr.nodesL la := by
              conv => rhs; rw [hl1]
              simp [Expr.nodesL]
            obtain ⟨b, o', A4, c4, rfl, hbW, q0, q1, q2, q3, q4, hc4, hs4, rd4⟩ := Expr.at hrd HBW0.out (j := 0) (by omega)
            simp only [Nat.zero_mul, Nat.add_zero] at q0 q1 q2 q3 q4
            have hi1 := fun w' hb ht => ih la[0] A4 c4 (d + 1) (by omega) rd4 (by omega) (Expr.rightsB_all hrr _ (List.getElem_mem _)) th (.slice A1 th.length c1) t w' hb ht htl h0 h1
            have HI1 := Lib.hid hi1
            have HRR := Lib.hid hrr
            have HHQ := Lib.hid hq
            have HL2 := Lib.hid (show la = [la[0]'p0] from hl1)
            have HH5 := Lib.hid h34
            clear hi1 hq h2 hk hla h16 h1k hl1 h34 h5 hrd hrr rd4
            have hwl := HW.out
            rw [hlen] at x4 hwl ⊢
            have HW := Lib.hid hwl
            clear hwl
            go_enter Try.func73, Try.ntmps73
            go_wp2_with (have tk := HW; clear tk; rw [HW.out]; clear HW)
            refine (HI1.out w0 HBW0.out HT0.out).mono ?_
            rintro E w1 hd1
            clear x0 x1 x2 x3 x4 q0 q1 q2 q3 q4
            cases hx : exprD th t la[0] with
            | none =>
              obtain ⟨rfl, hb1⟩ := hd1.none hx
              have HQ := Lib.hid (show exprD th t (.mk k n s o la) = none by rw [HHQ.out, HL2.out, exprsD_one, hx]; rfl)
              have HB1 := Lib.hid (HB0.out.trans (hb1.mono HB0.out.size))
              clear hx hd1 hb1
              go_wp2_with fail
              refine bodyPost_ret (results_tmp4 rfl _ _ _) rfl ?_
              rw [HQ.out]
              exact ⟨HB1.out, rfl⟩
            | some r =>
              obtain ⟨a, t1, X⟩ := r
              obtain ⟨A6, c6, rfl, hb1, hr1, ho1⟩ := hd1.some hx
              have hXl := (exprD_len (Expr.rightsB_all HRR.out _ (List.getElem_mem (show 0 < la.length by omega))) hx).1
              simp only at hXl
              have hx1 := below_blk hb1 HX.out (by omega)
              rw [hlen] at hx1
              have x0 := blk_cell hx1 0
              have x3 := blk_cell hx1 3
              have HB1 := Lib.hid (HB0.out.trans (hb1.mono HB0.out.size))
              have HR1 := Lib.hid hr1
              have HO1 := Lib.hid (show ∀ q, (Value.slice A6 X.length c6).ownBlock = .some q → w.heap.size ≤ q from fun q hq => by have := ho1 q hq; omega)
              have HHX := Lib.hid hx
              clear hx1 hx hd1 hb1 hr1 ho1
              by_cases k3 : k = 3
              · have k3b : (k == 3) = true := by simp [k3]
                have HQ := Lib.hid (show exprD th t (.mk k n s o la) = some (t, t + 1, X ++ [⟨6, 0, t, a, 0, 0⟩]) by rw [HHQ.out, HL2.out, exprsD_one, HHX.out]; subst k3; rfl)
                clear k3
                go_wp2_with (at_builtin; go_must (refine wpList_append_rows _ rfl _ _ 24 rfl 42 (.agg #[.int .i64 0, .int .i64 0, .int .i64 0, .int .i64 0, .int .i64 0, .int .i64 0]) 6 48 Try.underlying24 info_ins rfl (.slice A6 X.length c6) (X.length) (insCells X) rfl (HR1.out.alloc _) (.slice (some ⟨w1.heap.size, 0, none⟩) 1 1) 1 [.int .i64 6, .int .i64 0, .int .i64 t, .int .i64 a, .int .i64 0, .int .i64 0] rfl (Row.laid (n := 1) (cs := #[.int .i64 6, .int .i64 0, .int .i64 t, .int .i64 a, .int .i64 0, .int .i64 0]) (size := 6) rfl rfl (by decide)) (by simp [Value.oneCell']) (by unfold maxLen; omega) (by omega) ?_); intro v4 w4 hr4 hg4 hn4; obtain ⟨A4, c4, hv4, _⟩ := hr4.slice; subst hv4; have HR4 := Lib.hid hr4; have HG4 := Lib.hid hg4; have HN4 := Lib.hid hn4; clear hr4 hg4 hn4)
                have HB4 := Lib.hid (Below.grown ((HB1.out).al) HG4.out (by rw [size_al]; have := HB1.out.size; omega) (fun q hq => HO1.out q hq))
                have HO4 := Lib.hid (own_grown (w := w) HO1.out (by rw [size_al]; have := HB1.out.size; omega) HN4.out)
                go_wp2
                refine bodyPost_ret (results_tmp4 rfl _ _ _) rfl ?_
                rw [HQ.out]
                refine ⟨HB4.out, _, rfl, ?_, HO4.out⟩
                exact pushI (l := X) (x := ⟨6, 0, t, a, 0, 0⟩) HR4.out (by simp)
              · have k3b : (k == 3) = false := by simp [k3]
                have k4 : k = 4 := by have := HH5.out; omega
                have k4b : (k == 4) = true := by simp [k4]
                have HQ := Lib.hid (show exprD th t (.mk k n s o la) = some (t, t + 1, X ++ [⟨4, o, t, a, 0, 0⟩]) by rw [HHQ.out, HL2.out, exprsD_one, HHX.out]; subst k4; rfl)
                clear k3 k4
                go_wp2_with (at_builtin; go_must (refine wpList_append_rows _ rfl _ _ 24 rfl 42 (.agg #[.int .i64 0, .int .i64 0, .int .i64 0, .int .i64 0, .int .i64 0, .int .i64 0]) 6 48 Try.underlying24 info_ins rfl (.slice A6 X.length c6) (X.length) (insCells X) rfl (HR1.out.alloc _) (.slice (some ⟨w1.heap.size, 0, none⟩) 1 1) 1 [.int .i64 4, .int .i64 o, .int .i64 t, .int .i64 a, .int .i64 0, .int .i64 0] rfl (Row.laid (n := 1) (cs := #[.int .i64 4, .int .i64 o, .int .i64 t, .int .i64 a, .int .i64 0, .int .i64 0]) (size := 6) rfl rfl (by decide)) (by simp [Value.oneCell']) (by unfold maxLen; omega) (by omega) ?_); intro v4 w4 hr4 hg4 hn4; obtain ⟨A4, c4, hv4, _⟩ := hr4.slice; subst hv4; have HR4 := Lib.hid hr4; have HG4 := Lib.hid hg4; have HN4 := Lib.hid hn4; clear hr4 hg4 hn4)
                have HB4 := Lib.hid (Below.grown ((HB1.out).al) HG4.out (by rw [size_al]; have := HB1.out.size; omega) (fun q hq => HO1.out q hq))
                have HO4 := Lib.hid (own_grown (w := w) HO1.out (by rw [size_al]; have := HB1.out.size; omega) HN4.out)
                go_wp2
                refine bodyPost_ret (results_tmp4 rfl _ _ _) rfl ?_
                rw [HQ.out]
                refine ⟨HB4.out, _, rfl, ?_, HO4.out⟩
                exact pushI (l := X) (x := ⟨4, o, t, a, 0, 0⟩) HR4.out (by simp)
end Go.Proofs.Ytjlnpppjkdcpkaa.My
