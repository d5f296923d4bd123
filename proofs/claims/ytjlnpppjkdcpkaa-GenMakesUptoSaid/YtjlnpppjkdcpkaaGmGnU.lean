/- The document's statements that give a name a value. Conditions: the tree was there in the world W, which is kept; it may be. -/
import Derived.Test.YtjlnpppjkdcpkaaGmGnT
import Derived.Test.YtjlnpppjkdcpkaaGmGnDe
import Derived.Test.YtjlnpppjkdcpkaaGmNameR2
import Derived.Deep.DeepCutAuto
namespace Go.Proofs.Ytjlnpppjkdcpkaa.My
open Go.RowKit Go.Maps Go.Proofs.Ytjlnpppjkdcpkaa.NumA
set_option linter.unusedVariables false
set_option linter.unusedSimpArgs false
/-- what the document's way through a statement hands back -/
def MDo (m : Mm) (w : World) (E : Ending) (w' : World) : Prop := Below w.heap.size w w' ∧ ∃ VL VT, E = .returned (.agg #[VL, VT, .bool m.deep]) ∧ Row w' 42 6 VL m.l.length (insCells m.l) ∧ Row w' 9 1 VT m.th.length (m.th.map .string) ∧ ∀ g, VL.ownBlock = some g → w.heap.size ≤ g
theorem laidD_at {X : List Ins} {j : Nat} (hjX : j < X.length) (hj : X.length = j + 1) (r a : Int) : laidD X r a = X.set j { X[j] with a := r } := by
  unfold laidD
  rw [if_neg (by omega), show X.length - 1 = j by omega]
  simp [List.getD, show j < X.length by omega]
theorem row_sets {w : World} {e : TypeId} {z n q : Nat} {v : Value} {xs : List Value} {cs : Array Value} (h : Row w e z v n xs) (hq : w.heap[q]? = some (.cells cs 80 (0, 0))) (hne : e ≠ 80) (u0 u1 u2 : Value) : Row (((w.setCell ⟨q, 0, none⟩ u0).setCell ⟨q, 1, none⟩ u1).setCell ⟨q, 2, none⟩ u2) e z v n xs := rowSet (rowSet (rowSet h (h.ne hq hne)) (h.ne hq hne)) (h.ne hq hne)
/-- the names that are there behind a statement that gives a name a value -/
def thN (th : List ByteArray) (k : Int) (s : ByteArray) : List ByteArray := if k = 1 then th ++ [s] else th
theorem thN_len (th : List ByteArray) (k : Int) (s : ByteArray) : (thN th k s).length ≤ th.length + 1 := by
  unfold thN; split
  · simp
  · omega
def namedM (th : List ByteArray) (k : Int) (s : ByteArray) (e : Expr) : Mm := match exprD th 11 e with
  | none => ⟨[], [], true⟩
  | some (a, _, X) => ⟨laidD X (regD (thN th k s) s) a, thN th k s, false⟩
theorem namedM_is {th : List ByteArray} {s : Stmt} (hk : s.kind = 1 ∨ s.kind = 2) : stmtM th s = namedM th s.kind s.name (s.args.getD 0 default) := by
  rw [stmtM_eq]
  unfold namedM thN
  rcases hk with h | h
  · rw [h, if_pos rfl, if_pos rfl]; rfl
  · rw [h, if_neg (by decide), if_pos rfl, if_neg (by decide)]; rfl
set_option maxRecDepth 100000 in
set_option maxHeartbeats 8000000 in
theorem dnamed_calls (W : World) (s : Stmt) (A0 : Option Addr) (c0 : Nat) (A1 : Option Addr) (c1 : Nat) (A2 : Option Addr) (c2 d : Nat) (hk : s.kind = 1 ∨ s.kind = 2) (hrd : Expr.rds W s.args A0 0) (hr : s.rightB nameB d = true) (hl : s.nodes ≤ 1000000) (th : List ByteArray) (V : Value) (w : World) (hB : Below W.heap.size W w) (hth : Row w 9 1 V th.length (th.map .string)) (htl : th.length ≤ 900) :
    Calls Try.prog 72 #[s.val A0 c0 A1 c1 A2 c2, V] w (MDo (stmtM th s) w) := by
  obtain ⟨hkk, hla, hrr, hlb, hle, hrb, hre⟩ := Stmt.right_parts hr
  have hlen : s.args.length = 1 := by rcases hk with e | e <;> (rw [e] at hla; simp [wantA] at hla; omega)
  have hj0 : 0 < s.args.length := by omega
  have hga0 : s.args.getD 0 default = s.args[0]'hj0 := by simp [List.getD, hj0]
  have hne := s.nodes_eq
  have hn0 := Expr.nodesL_take s.args 0 hj0
  have hm := namedM_is (th := th) hk
  rw [hga0] at hm
  rw [hm]
  have hra0 := Expr.rightsB_all hrr (s.args[0]'hj0) (List.getElem_mem hj0)
  unfold Stmt.val
  have hx := blk_alloc (blk_new w (.cells #[.int .i64 s.kind, .string s.name, .int .i64 s.cell, .slice A0 s.args.length c0, .slice A1 s.body.length c1, .slice A2 s.els.length c2] 36)) (.cells #[.slice none 0 0, .slice none 0 0, .bool false] 80)
  have hy := blk_new (w.alloc (.cells #[.int .i64 s.kind, .string s.name, .int .i64 s.cell, .slice A0 s.args.length c0, .slice A1 s.body.length c1, .slice A2 s.els.length c2] 36)) (.cells #[.slice none 0 0, .slice none 0 0, .bool false] 80)
  rw [size_al] at hy
  have hb0 : Below w.heap.size w ((w.alloc (.cells #[.int .i64 s.kind, .string s.name, .int .i64 s.cell, .slice A0 s.args.length c0, .slice A1 s.body.length c1, .slice A2 s.els.length c2] 36)).alloc (.cells #[.slice none 0 0, .slice none 0 0, .bool false] 80)) := ((Below.refl _ _).al).al
  obtain ⟨w0, hw0⟩ : ∃ w0, ((w.alloc (.cells #[.int .i64 s.kind, .string s.name, .int .i64 s.cell, .slice A0 s.args.length c0, .slice A1 s.body.length c1, .slice A2 s.els.length c2] 36)).alloc (.cells #[.slice none 0 0, .slice none 0 0, .bool false] 80)) = w0 := ⟨_, rfl⟩
  rw [hw0] at hx hy hb0
  have hHB := hB.trans (hb0.mono hB.size)
  obtain ⟨ba0, oa0, B0, d0, hA0, hba0, m00, m01, m02, m03, m04, hc0, hs0, hrd0'⟩ := Expr.at hrd hHB hj0
  simp only [Nat.zero_mul, Nat.add_zero] at m00 m01 m02 m03 m04
  obtain ⟨e0, he0⟩ : ∃ e, s.args[0]'hj0 = e := ⟨_, rfl⟩
  rw [he0] at m00 m01 m02 m03 m04 hrd0' hra0 hn0 ⊢
  have hI := dexpr_calls W e0.nodes e0 B0 d0 1 (Nat.le_refl _) hrd0' (by omega) hra0 th V 11 w0 hHB (hth.below hb0) (by omega) (by omega) (by omega)
  rw [hlen] at hw0 hx ⊢
  have HI := Lib.hid hI
  have hHB0 := hHB
  have HX := Lib.hid hx
  have HY := Lib.hid hy
  have HB0 := Lib.hid hb0
  have HW := Lib.hid hw0
  have HT0 := Lib.hid (hth.below hb0)
  have x0 := blk_cell hx 0
  have x1 := blk_cell hx 1
  have x3 := blk_cell hx 3
  obtain ⟨AV, cV, hV, hcV⟩ := hth.slice
  subst hV
  subst hA0
  have HL := Lib.hid (fun r h => exprD_len (r := r) (th := th) (t := 11) hra0 h)
  have HN := Lib.hid (show e0.nodes ≤ 1000000 by omega)
  have HK := Lib.hid hk
  clear hx hy hb0 hw0 hHB hI hrr hlb hle hrb hre hr hrd hla hkk hne hn0 hm hga0 hc0 hs0 hrd0' hra0 hth hB he0
  have HBW := Lib.hid hHB0
  cases hx : exprD th 11 e0 with
  | none =>
    have HQ := Lib.hid (show namedM th s.kind s.name e0 = ⟨[], [], true⟩ by unfold namedM; rw [hx])
    go_enter Try.func72, Try.ntmps72
    go_wp2_with (have tk := HW; clear tk; rw [HW.out]; clear HW)
    refine HI.out.mono ?_
    rintro E w1 hd1
    obtain ⟨rfl, hb1⟩ := hd1.none hx
    clear x0 x1 x3 m00 m01 m02 m03 m04
    have HX1 := Lib.hid (below_blk hb1 HX.out (blk_lt HX.out))
    have HY1 := Lib.hid (below_blk hb1 HY.out (blk_lt HY.out))
    have HB1 := Lib.hid (HB0.out.trans (hb1.mono HB0.out.size))
    have HT1 := Lib.hid (HT0.out.below hb1)
    have HHX := Lib.hid hx
    clear hd1 hb1 hx
    have x0 := blk_cell HX1.out 0
    go_upto_if 23 with fail
    go_cut [1] (fun v wx => ∃ A c, v = .slice A (thN th s.kind s.name).length c ∧ Hid (Row wx 9 1 v (thN th s.kind s.name).length ((thN th s.kind s.name).map .string)) ∧ Hid (Below w1.heap.size w1 wx))
    case first =>
      rcases HK.out with h1 | h1
      · have hkb : (s.kind == 1) = true := by simp [h1]
        have HTH := Lib.hid (show thN th s.kind s.name = th ++ [s.name] by unfold thN; rw [if_pos h1])
        clear h1
        have x1 := blk_cell HX1.out 1
        go_wp2_with fail
        go_region_held3 (fun w' => w'.cell? ⟨w.heap.size, 1, none⟩ = some (.string s.name) ∧ Below w1.heap.size w1 w')
          (first
            | exact s23 HX1.out (Below.refl _ _).drew
            | exact s23 HX1.out (Below.alloc (Below.refl _ _) (Nat.le_refl _) _).drew
            | exact s23 HX1.out (Below.alloc (Below.alloc (Below.refl _ _) (Nat.le_refl _) _) (by simp) _).drew
            | exact s23 HX1.out hX5
            | exact s23 HX1.out hX4
            | exact s23 HX1.out (hX4.alloc hX4.size _)
            | exact s23 HX1.out (hX4.alloc hX4.size _).drew)
          (first
            | (refine step_append_rows (by rfl) _ _ _ (by rfl) 9 (.string ⟨#[]⟩) 1 16 Try.underlying78 info_string rfl v4 _ _ (by rfl) (by first | exact hr4 | exact hr4.alloc _ | exact (hr4.alloc _).drewed) (.slice (some ⟨w4.heap.size, 0, none⟩) 1 1) 1 [.string s.name] (by rfl) (by first | exact Row.laid (w := w4) (cs := #[.string s.name]) (by simp) rfl (by decide) | exact (Row.laid (w := w4) (cs := #[.string s.name]) (by simp) rfl (by decide)).drewed) (by simp [Value.oneCell']) (by unfold maxLen; omega) (by omega) ?_; intro v5 w5 hr5 hg5 hn5; have hX5 : Below w1.heap.size w1 w5 := (by first | exact Below.grown hX4 hg5 hX4.size hY4 | exact Below.grown (hX4.alloc hX4.size _) hg5 (hX4.alloc hX4.size _).size hY4 | exact Below.grown (hX4.alloc hX4.size _).drew hg5 (hX4.alloc hX4.size _).size hY4); have hY5 : ∀ g, v5.ownBlock = some g → w1.heap.size ≤ g := (by intro g hg; rcases hn5 with h | h <;> rw [h] at hg <;> first | exact hY4 g hg | (simp [Value.ownBlock] at hg; have hz4 := hX4.size; omega)))
            | (refine step_append_rows (by rfl) _ _ _ (by rfl) 9 (.string ⟨#[]⟩) 1 16 Try.underlying78 info_string rfl v4 _ _ (by rfl) (by first | exact hr4 | exact hr4.alloc _ | exact (hr4.alloc _).drewed) (.slice (some ⟨w1.heap.size + 1, 0, none⟩) 1 1) 1 [.string s.name] (by rfl) (g3 hg4 (g2 w1 (.cells #[] 9) s.name).1 (by simp [Value.ownBlock])) (by simp [Value.oneCell']) (by unfold maxLen; omega) (by omega) ?_; intro v5 w5 hr5 hg5 hn5; have hX5 : Below w1.heap.size w1 w5 := (by first | exact Below.grown hX4 hg5 hX4.size hY4 | exact Below.grown (hX4.alloc hX4.size _) hg5 (hX4.alloc hX4.size _).size hY4 | exact Below.grown (hX4.alloc hX4.size _).drew hg5 (hX4.alloc hX4.size _).size hY4); have hY5 : ∀ g, v5.ownBlock = some g → w1.heap.size ≤ g := (by intro g hg; rcases hn5 with h | h <;> rw [h] at hg <;> first | exact hY4 g hg | (simp [Value.ownBlock] at hg; have hz4 := hX4.size; omega)))
            | (refine step_append_rows (by rfl) _ _ _ (by rfl) 9 (.string ⟨#[]⟩) 1 16 Try.underlying78 info_string rfl v4 _ _ (by rfl) (by first | exact hr4 | exact hr4.alloc _ | exact (hr4.alloc _).drewed) (.slice (some ⟨w1.heap.size, 0, none⟩) 1 1) 1 [.string s.name] (by rfl) (g3 hg4 (g2 w1 (.cells #[] 9) s.name).2 (by simp [Value.ownBlock])) (by simp [Value.oneCell']) (by unfold maxLen; omega) (by omega) ?_; intro v5 w5 hr5 hg5 hn5; have hX5 : Below w1.heap.size w1 w5 := (by first | exact Below.grown hX4 hg5 hX4.size hY4 | exact Below.grown (hX4.alloc hX4.size _) hg5 (hX4.alloc hX4.size _).size hY4 | exact Below.grown (hX4.alloc hX4.size _).drew hg5 (hX4.alloc hX4.size _).size hY4); have hY5 : ∀ g, v5.ownBlock = some g → w1.heap.size ≤ g := (by intro g hg; rcases hn5 with h | h <;> rw [h] at hg <;> first | exact hY4 g hg | (simp [Value.ownBlock] at hg; have hz4 := hX4.size; omega)))
            | (refine step_append_rows (by rfl) _ _ _ (by rfl) 9 (.string ⟨#[]⟩) 1 16 Try.underlying78 info_string rfl (.slice (some ⟨w1.heap.size, 0, none⟩) 0 0) 0 [] (by rfl) (by first | exact (Row.laid (cs := #[]) (by simp) rfl (by decide)).drewed | exact ((Row.laid (cs := #[]) (by simp) rfl (by decide)).alloc _).drewed) (.slice AV th.length cV) _ _ (by rfl) (by first | exact (HT1.out.alloc _).drewed | exact ((HT1.out.alloc _).alloc _).drewed) (row_oneS _) (by unfold maxLen; omega) (by omega) ?_; intro v4 w4 hr4 hg4 hn4; have hX4 : Below w1.heap.size w1 w4 := (by first | exact Below.grown (Below.alloc (Below.refl _ _) (Nat.le_refl _) _).drew hg4 (by simp) (by intro k hk; simp [Value.ownBlock] at hk; omega) | exact Below.grown (Below.alloc (Below.alloc (Below.refl _ _) (Nat.le_refl _) _) (by simp) _).drew hg4 (by simp; omega) (by intro k hk; simp [Value.ownBlock] at hk; omega)); have hY4 : ∀ g, v4.ownBlock = some g → w1.heap.size ≤ g := (by intro g hg; rcases hn4 with h | h <;> rw [h] at hg <;> simp [Value.ownBlock] at hg <;> omega))
            | (refine step_append_rows (by rfl) _ _ _ (by rfl) 9 (.string ⟨#[]⟩) 1 16 Try.underlying78 info_string rfl (.slice (some ⟨w1.heap.size + 1, 0, none⟩) 0 0) 0 [] (by rfl) (by first | exact (Row.laid (cs := #[]) (by simp) rfl (by decide)).drewed | exact ((Row.laid (cs := #[]) (by simp) rfl (by decide)).alloc _).drewed) (.slice AV th.length cV) _ _ (by rfl) (by first | exact (HT1.out.alloc _).drewed | exact ((HT1.out.alloc _).alloc _).drewed) (row_oneS _) (by unfold maxLen; omega) (by omega) ?_; intro v4 w4 hr4 hg4 hn4; have hX4 : Below w1.heap.size w1 w4 := (by first | exact Below.grown (Below.alloc (Below.refl _ _) (Nat.le_refl _) _).drew hg4 (by simp) (by intro k hk; simp [Value.ownBlock] at hk; omega) | exact Below.grown (Below.alloc (Below.alloc (Below.refl _ _) (Nat.le_refl _) _) (by simp) _).drew hg4 (by simp; omega) (by intro k hk; simp [Value.ownBlock] at hk; omega)); have hY4 : ∀ g, v4.ownBlock = some g → w1.heap.size ≤ g := (by intro g hg; rcases hn4 with h | h <;> rw [h] at hg <;> simp [Value.ownBlock] at hg <;> omega)))
        all_goals
          clear hr4 hg4 hn4 hX4 hY4
          have hr5 : Row w5 9 1 v5 (th.length + 1) (th.map .string ++ [.string s.name]) := by simpa using hr5
          obtain ⟨A5, c5, hv5, hl5⟩ := hr5.slice
          subst hv5
          go_wp2_with fail
          go_meet
          rw [HTH.out]
          exact ⟨A5, c5, by simp, Lib.hid (by simpa using hr5), Lib.hid hX5⟩
      · have hkb : (s.kind == 1) = false := by simp [h1]
        have HTH := Lib.hid (show thN th s.kind s.name = th by unfold thN; rw [if_neg (by omega)])
        clear h1
        go_wp2_with fail
        go_meet
        rw [HTH.out]
        exact ⟨AV, cV, rfl, HT1, Lib.hid (Below.refl _ _)⟩
    case rest =>
      obtain ⟨A5, c5, rfl, HR5, HB15⟩ := hcut
      have HX5 := Lib.hid (below_blk HB15.out HX1.out (blk_lt HX1.out))
      have HY5 := Lib.hid (below_blk HB15.out HY1.out (blk_lt HY1.out))
      have HB5 := Lib.hid (HB1.out.trans (HB15.out.mono HB1.out.size))
      clear x0
      have x1 := blk_cell HX5.out 1
      have y0 := blk_cell HY5.out 0
      have y1 := blk_cell HY5.out 1
      have y2 := blk_cell HY5.out 2
      have yf := blk_free HY5.out
      have hrg := dreg_calls (thN th s.kind s.name) s.name _ wc (by have := thN_len th s.kind s.name; omega) HR5.out
      have HRG := Lib.hid hrg
      clear hrg
      go_wp2_with fail
      refine HRG.out.mono ?_
      rintro y w6 ⟨rfl, rfl⟩
      have hle1 : w.heap.size ≤ w.heap.size + 1 := by omega
      go_wp2
      refine bodyPost_ret (results_cell rfl _ _ (w.heap.size + 1) [.slice none 0 0, .slice none 0 0, .bool true] (by rfl) (range_at (blk_set (blk_set (blk_set HY5.out 0 _) 1 _) 2 _) 0 [.slice none 0 0, .slice none 0 0, .bool true] rfl) rfl rfl (by kernel_rfl)) rfl ?_
      rw [HQ.out]
      exact ⟨(((HB5.out).setCell hle1 _).setCell hle1 _).setCell hle1 _, _, _, rfl, Row.nil _ _ _, Row.nil _ _ _, fun g hg => by simp [Value.ownBlock] at hg⟩
  | some r =>
    obtain ⟨a, t, X⟩ := r
    have HQ := Lib.hid (show namedM th s.kind s.name e0 = ⟨laidD X (regD (thN th s.kind s.name) s.name) a, thN th s.kind s.name, false⟩ by unfold namedM; rw [hx])
    have HXL := Lib.hid (show X.length ≤ 1000000 by have h := (HL.out _ hx).1; have := HN.out; simp only at h; omega)
    go_enter Try.func72, Try.ntmps72
    go_wp2_with (have tk := HW; clear tk; rw [HW.out]; clear HW)
    refine HI.out.mono ?_
    rintro E w1 hd1
    obtain ⟨A6, c6, rfl, hb1, hr1, ho1⟩ := hd1.some hx
    have HR6 := Lib.hid hr1
    have HO6 := Lib.hid ho1
    clear x0 x1 x3 m00 m01 m02 m03 m04
    have HX1 := Lib.hid (below_blk hb1 HX.out (blk_lt HX.out))
    have HY1 := Lib.hid (below_blk hb1 HY.out (blk_lt HY.out))
    have HB1 := Lib.hid (HB0.out.trans (hb1.mono HB0.out.size))
    have HT1 := Lib.hid (HT0.out.below hb1)
    have HHX := Lib.hid hx
    clear hd1 hb1 hx hr1 ho1
    have x0 := blk_cell HX1.out 0
    go_upto_if 23 with fail
    go_cut [1] (fun v wx => ∃ A c, v = .slice A (thN th s.kind s.name).length c ∧ Hid (Row wx 9 1 v (thN th s.kind s.name).length ((thN th s.kind s.name).map .string)) ∧ Hid (Below w1.heap.size w1 wx))
    case first =>
      rcases HK.out with h1 | h1
      · have hkb : (s.kind == 1) = true := by simp [h1]
        have HTH := Lib.hid (show thN th s.kind s.name = th ++ [s.name] by unfold thN; rw [if_pos h1])
        clear h1
        have x1 := blk_cell HX1.out 1
        go_wp2_with fail
        go_region_held3 (fun w' => w'.cell? ⟨w.heap.size, 1, none⟩ = some (.string s.name) ∧ Below w1.heap.size w1 w')
          (first
            | exact s23 HX1.out (Below.refl _ _).drew
            | exact s23 HX1.out (Below.alloc (Below.refl _ _) (Nat.le_refl _) _).drew
            | exact s23 HX1.out (Below.alloc (Below.alloc (Below.refl _ _) (Nat.le_refl _) _) (by simp) _).drew
            | exact s23 HX1.out hX5
            | exact s23 HX1.out hX4
            | exact s23 HX1.out (hX4.alloc hX4.size _)
            | exact s23 HX1.out (hX4.alloc hX4.size _).drew)
          (first
            | (refine step_append_rows (by rfl) _ _ _ (by rfl) 9 (.string ⟨#[]⟩) 1 16 Try.underlying78 info_string rfl v4 _ _ (by rfl) (by first | exact hr4 | exact hr4.alloc _ | exact (hr4.alloc _).drewed) (.slice (some ⟨w4.heap.size, 0, none⟩) 1 1) 1 [.string s.name] (by rfl) (by first | exact Row.laid (w := w4) (cs := #[.string s.name]) (by simp) rfl (by decide) | exact (Row.laid (w := w4) (cs := #[.string s.name]) (by simp) rfl (by decide)).drewed) (by simp [Value.oneCell']) (by unfold maxLen; omega) (by omega) ?_; intro v5 w5 hr5 hg5 hn5; have hX5 : Below w1.heap.size w1 w5 := (by first | exact Below.grown hX4 hg5 hX4.size hY4 | exact Below.grown (hX4.alloc hX4.size _) hg5 (hX4.alloc hX4.size _).size hY4 | exact Below.grown (hX4.alloc hX4.size _).drew hg5 (hX4.alloc hX4.size _).size hY4); have hY5 : ∀ g, v5.ownBlock = some g → w1.heap.size ≤ g := (by intro g hg; rcases hn5 with h | h <;> rw [h] at hg <;> first | exact hY4 g hg | (simp [Value.ownBlock] at hg; have hz4 := hX4.size; omega)))
            | (refine step_append_rows (by rfl) _ _ _ (by rfl) 9 (.string ⟨#[]⟩) 1 16 Try.underlying78 info_string rfl v4 _ _ (by rfl) (by first | exact hr4 | exact hr4.alloc _ | exact (hr4.alloc _).drewed) (.slice (some ⟨w1.heap.size + 1, 0, none⟩) 1 1) 1 [.string s.name] (by rfl) (g3 hg4 (g2 w1 (.cells #[] 9) s.name).1 (by simp [Value.ownBlock])) (by simp [Value.oneCell']) (by unfold maxLen; omega) (by omega) ?_; intro v5 w5 hr5 hg5 hn5; have hX5 : Below w1.heap.size w1 w5 := (by first | exact Below.grown hX4 hg5 hX4.size hY4 | exact Below.grown (hX4.alloc hX4.size _) hg5 (hX4.alloc hX4.size _).size hY4 | exact Below.grown (hX4.alloc hX4.size _).drew hg5 (hX4.alloc hX4.size _).size hY4); have hY5 : ∀ g, v5.ownBlock = some g → w1.heap.size ≤ g := (by intro g hg; rcases hn5 with h | h <;> rw [h] at hg <;> first | exact hY4 g hg | (simp [Value.ownBlock] at hg; have hz4 := hX4.size; omega)))
            | (refine step_append_rows (by rfl) _ _ _ (by rfl) 9 (.string ⟨#[]⟩) 1 16 Try.underlying78 info_string rfl v4 _ _ (by rfl) (by first | exact hr4 | exact hr4.alloc _ | exact (hr4.alloc _).drewed) (.slice (some ⟨w1.heap.size, 0, none⟩) 1 1) 1 [.string s.name] (by rfl) (g3 hg4 (g2 w1 (.cells #[] 9) s.name).2 (by simp [Value.ownBlock])) (by simp [Value.oneCell']) (by unfold maxLen; omega) (by omega) ?_; intro v5 w5 hr5 hg5 hn5; have hX5 : Below w1.heap.size w1 w5 := (by first | exact Below.grown hX4 hg5 hX4.size hY4 | exact Below.grown (hX4.alloc hX4.size _) hg5 (hX4.alloc hX4.size _).size hY4 | exact Below.grown (hX4.alloc hX4.size _).drew hg5 (hX4.alloc hX4.size _).size hY4); have hY5 : ∀ g, v5.ownBlock = some g → w1.heap.size ≤ g := (by intro g hg; rcases hn5 with h | h <;> rw [h] at hg <;> first | exact hY4 g hg | (simp [Value.ownBlock] at hg; have hz4 := hX4.size; omega)))
            | (refine step_append_rows (by rfl) _ _ _ (by rfl) 9 (.string ⟨#[]⟩) 1 16 Try.underlying78 info_string rfl (.slice (some ⟨w1.heap.size, 0, none⟩) 0 0) 0 [] (by rfl) (by first | exact (Row.laid (cs := #[]) (by simp) rfl (by decide)).drewed | exact ((Row.laid (cs := #[]) (by simp) rfl (by decide)).alloc _).drewed) (.slice AV th.length cV) _ _ (by rfl) (by first | exact (HT1.out.alloc _).drewed | exact ((HT1.out.alloc _).alloc _).drewed) (row_oneS _) (by unfold maxLen; omega) (by omega) ?_; intro v4 w4 hr4 hg4 hn4; have hX4 : Below w1.heap.size w1 w4 := (by first | exact Below.grown (Below.alloc (Below.refl _ _) (Nat.le_refl _) _).drew hg4 (by simp) (by intro k hk; simp [Value.ownBlock] at hk; omega) | exact Below.grown (Below.alloc (Below.alloc (Below.refl _ _) (Nat.le_refl _) _) (by simp) _).drew hg4 (by simp; omega) (by intro k hk; simp [Value.ownBlock] at hk; omega)); have hY4 : ∀ g, v4.ownBlock = some g → w1.heap.size ≤ g := (by intro g hg; rcases hn4 with h | h <;> rw [h] at hg <;> simp [Value.ownBlock] at hg <;> omega))
            | (refine step_append_rows (by rfl) _ _ _ (by rfl) 9 (.string ⟨#[]⟩) 1 16 Try.underlying78 info_string rfl (.slice (some ⟨w1.heap.size + 1, 0, none⟩) 0 0) 0 [] (by rfl) (by first | exact (Row.laid (cs := #[]) (by simp) rfl (by decide)).drewed | exact ((Row.laid (cs := #[]) (by simp) rfl (by decide)).alloc _).drewed) (.slice AV th.length cV) _ _ (by rfl) (by first | exact (HT1.out.alloc _).drewed | exact ((HT1.out.alloc _).alloc _).drewed) (row_oneS _) (by unfold maxLen; omega) (by omega) ?_; intro v4 w4 hr4 hg4 hn4; have hX4 : Below w1.heap.size w1 w4 := (by first | exact Below.grown (Below.alloc (Below.refl _ _) (Nat.le_refl _) _).drew hg4 (by simp) (by intro k hk; simp [Value.ownBlock] at hk; omega) | exact Below.grown (Below.alloc (Below.alloc (Below.refl _ _) (Nat.le_refl _) _) (by simp) _).drew hg4 (by simp; omega) (by intro k hk; simp [Value.ownBlock] at hk; omega)); have hY4 : ∀ g, v4.ownBlock = some g → w1.heap.size ≤ g := (by intro g hg; rcases hn4 with h | h <;> rw [h] at hg <;> simp [Value.ownBlock] at hg <;> omega)))
        all_goals
          clear hr4 hg4 hn4 hX4 hY4
          have hr5 : Row w5 9 1 v5 (th.length + 1) (th.map .string ++ [.string s.name]) := by simpa using hr5
          obtain ⟨A5, c5, hv5, hl5⟩ := hr5.slice
          subst hv5
          go_wp2_with fail
          go_meet
          rw [HTH.out]
          exact ⟨A5, c5, by simp, Lib.hid (by simpa using hr5), Lib.hid hX5⟩
      · have hkb : (s.kind == 1) = false := by simp [h1]
        have HTH := Lib.hid (show thN th s.kind s.name = th by unfold thN; rw [if_neg (by omega)])
        clear h1
        go_wp2_with fail
        go_meet
        rw [HTH.out]
        exact ⟨AV, cV, rfl, HT1, Lib.hid (Below.refl _ _)⟩
    case rest =>
      obtain ⟨A5, c5, rfl, HR5, HB15⟩ := hcut
      have HX5 := Lib.hid (below_blk HB15.out HX1.out (blk_lt HX1.out))
      have HY5 := Lib.hid (below_blk HB15.out HY1.out (blk_lt HY1.out))
      have HB5 := Lib.hid (HB1.out.trans (HB15.out.mono HB1.out.size))
      clear x0
      have x1 := blk_cell HX5.out 1
      have y0 := blk_cell HY5.out 0
      have y1 := blk_cell HY5.out 1
      have y2 := blk_cell HY5.out 2
      have yf := blk_free HY5.out
      have hrg := dreg_calls (thN th s.kind s.name) s.name _ wc (by have := thN_len th s.kind s.name; omega) HR5.out
      have HRG := Lib.hid hrg
      clear hrg
      go_wp2_with fail
      refine HRG.out.mono ?_
      rintro y w6 ⟨rfl, rfl⟩
      have hle1 : w.heap.size ≤ w.heap.size + 1 := by omega
      have HR7 := Lib.hid (HR6.out.below HB15.out)
      have HO7 := Lib.hid (show ∀ q, (Value.slice A6 X.length c6).ownBlock = some q → w.heap.size ≤ q from fun q hq => by have := HO6.out q hq; have := HB0.out.size; omega)
      by_cases h0 : X.length = 0
      · have hX := List.eq_nil_of_length_eq_zero h0
        subst hX
        have HLD := Lib.hid (show laidD [] (regD (thN th s.kind s.name) s.name) a = [⟨3, 0, regD (thN th s.kind s.name) s.name, a, 0, 0⟩] from rfl)
        clear h0
        rw [List.length_nil]
        have z0 := fun o => blk_cell (blk_alloc HY5.out o) 0
        have z1 := fun o => blk_cell (blk_alloc HY5.out o) 1
        have z2 := fun o => blk_cell (blk_alloc HY5.out o) 2
        have zf := fun o => blk_free (blk_alloc HY5.out o)
        clear y0 y1 y2 yf
        go_wp2
        refine bodyPost_ret (results_cell rfl _ _ (w.heap.size + 1) [.slice (some ⟨w6.heap.size, 0, none⟩) 1 1, .slice A5 (thN th s.kind s.name).length c5, .bool false] (by rfl) (range_at (blk_set (blk_set (blk_set (blk_alloc HY5.out _) 0 _) 1 _) 2 _) 0 [.slice (some ⟨w6.heap.size, 0, none⟩) 1 1, .slice A5 (thN th s.kind s.name).length c5, .bool false] rfl) rfl rfl (by kernel_rfl)) rfl ?_
        rw [HQ.out, HLD.out]
        have hl1 := Row.laid (w := w6) (g := w6.heap.size) (n := 1) (cs := #[.int .i64 3, .int .i64 0, .int .i64 (regD (thN th s.kind s.name) s.name), .int .i64 a, .int .i64 0, .int .i64 0]) (e := 42) (size := 6) rfl rfl (by decide)
        exact ⟨((((HB5.out).al).setCell hle1 _).setCell hle1 _).setCell hle1 _, _, _, rfl, row_sets hl1 (blk_alloc HY5.out _) (by decide) _ _ _, row_sets (HR5.out.alloc _) (blk_alloc HY5.out _) (by decide) _ _ _, fun g hg => by simp [Value.ownBlock] at hg; have := HB5.out.size; omega⟩
      · obtain ⟨j, hj⟩ : ∃ j, X.length = j + 1 := ⟨X.length - 1, by omega⟩
        have hjX : j < X.length := by omega
        obtain ⟨g, e, _, _, p2, _, _, _⟩ := ins_at (l := X) HR7.out (k := j) hjX
        subst e
        have pf := HR7.out.freeA (j * 6 + 2)
        have hz : ((X.length : Int) == 0) = false := beq_eq_false_iff_ne.2 (by omega)
        have hsub : (X.length : Int) - 1 = (j : Int) := by omega
        have hj0 : (0 : Int) ≤ (j : Int) := by omega
        have hj1 : (j : Int) < (X.length : Int) := by omega
        have hset := HR7.out.putZ (j * 6 + 2) (.int .i64 (regD (thN th s.kind s.name) s.name))
        rw [insCells_set X j 2 hjX { X[j] with a := regD (thN th s.kind s.name) s.name } _ (by omega) rfl] at hset
        have HST := Lib.hid hset
        have HLD := Lib.hid (laidD_at hjX hj (regD (thN th s.kind s.name) s.name) a)
        have hLL : (X.length : Int) ≤ 1000000 := by have := HXL.out; omega
        have hgY : g ≠ w.heap.size + 1 := fun e => HR7.out.ne HY5.out (by decide) (by rw [e]; rfl)
        have HYS := Lib.hid (blk_far HY5.out (show w.heap.size + 1 ≠ (⟨g, j * 6 + 2, none⟩ : Addr).block from fun e => hgY e.symm) (.int .i64 (regD (thN th s.kind s.name) s.name)))
        have HR5S := Lib.hid (rowSet (b := g) (i := j * 6 + 2) (u := .int .i64 (regD (thN th s.kind s.name) s.name)) HR5.out (fun e => (rows_apart HR5.out HR7.out (by decide) _ e) rfl))
        have hleg : w.heap.size ≤ g := HO7.out g rfl
        clear hset h0 hj
        obtain ⟨rg, hrg⟩ : ∃ rg, regD (thN th s.kind s.name) s.name = rg := ⟨_, rfl⟩
        rw [hrg] at HST HLD HYS HR5S HQ ⊢
        clear hrg y0 y1 y2 yf
        have z0 := blk_cell HYS.out 0
        have z1 := blk_cell HYS.out 1
        have z2 := blk_cell HYS.out 2
        have zf := blk_free HYS.out
        go_wp2
        refine bodyPost_ret (results_cell rfl _ _ (w.heap.size + 1) [.slice (some ⟨g, 0, none⟩) X.length c6, .slice A5 (thN th s.kind s.name).length c5, .bool false] (by rfl) (range_at (blk_set (blk_set (blk_set HYS.out 0 _) 1 _) 2 _) 0 [.slice (some ⟨g, 0, none⟩) X.length c6, .slice A5 (thN th s.kind s.name).length c5, .bool false] rfl) rfl rfl (by kernel_rfl)) rfl ?_
        rw [HQ.out, HLD.out]
        refine ⟨((((HB5.out).setCell hleg _).setCell hle1 _).setCell hle1 _).setCell hle1 _, _, _, rfl, ?_, row_sets HR5S.out HYS.out (by decide) _ _ _, fun q hq => HO7.out q hq⟩
        have := row_sets HST.out HYS.out (by decide) (.slice (some ⟨g, 0, none⟩) X.length c6) (.slice A5 (thN th s.kind s.name).length c5) (.bool false)
        rw [List.length_set]
        exact this
end Go.Proofs.Ytjlnpppjkdcpkaa.My
