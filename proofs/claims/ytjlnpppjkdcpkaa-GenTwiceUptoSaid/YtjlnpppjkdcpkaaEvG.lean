/- The guard of the laws of runs; two rows, two effects that are alike are told the same. Conditions: the tree was there in the world W, which is kept. -/
import Derived.Test.YtjlnpppjkdcpkaaEvR
import Derived.Test.YtjlnpppjkdcpkaaNameL
namespace Go.Proofs.Ytjlnpppjkdcpkaa.My
open Go.RowKit Go.Proofs.Ytjlnpppjkdcpkaa.NumA
set_option linter.unusedVariables false
set_option linter.unusedSimpArgs false
def caseV (A : Option Addr) (l c : Nat) (L : Int) (AM : Option Addr) (ml cM : Nat) (n i k B : Int) : Array Value := #[.slice A l c, .int .i64 L, .slice AM ml cM, .int .i64 n, .int .i64 i, .int .i64 k, .int .i64 B]
set_option maxRecDepth 100000 in
theorem great7_calls (W : World) (ss : List Stmt) (A : Option Addr) (c : Nat) (hrd : Stmt.rds W ss A 0) (hnl : Stmt.nodesL ss ≤ 1000000000) (L : Int) (AM : Option Addr) (ml cM : Nat) (n i k B : Int) (w : World) (hB : Below W.heap.size W w) :
    Calls Try.prog 21 #[.agg #[.slice A ss.length c, .int .i64 L, .slice AM ml cM, .int .i64 n, .int .i64 i, .int .i64 k, .int .i64 B]] w (AnyB w) := by
  have hb0 : Below w.heap.size w (w.alloc (.cells #[.slice A ss.length c, .int .i64 L, .slice AM ml cM, .int .i64 n, .int .i64 i, .int .i64 k, .int .i64 B] 50)) := (Below.refl _ _).al
  have hx0 := blk_new w (.cells #[.slice A ss.length c, .int .i64 L, .slice AM ml cM, .int .i64 n, .int .i64 i, .int .i64 k, .int .i64 B] 50)
  have HW := Lib.hid (show ∃ w0, w0 = w.alloc (.cells #[.slice A ss.length c, .int .i64 L, .slice AM ml cM, .int .i64 n, .int .i64 i, .int .i64 k, .int .i64 B] 50) from ⟨_, rfl⟩)
  obtain ⟨w0, hw0⟩ := HW.out
  rw [← hw0] at hb0 hx0
  have HW := Lib.hid hw0
  clear hw0
  have f0 := blk_cell hx0 0
  have hI := great_calls W ss A c hrd hnl w0 (hB.trans (hb0.mono hB.size))
  have HI := Lib.hid hI
  have HB := Lib.hid hb0
  have HX := Lib.hid hx0
  clear hI hb0 hx0 hrd
  go_enter Try.func21, Try.ntmps21
  go_wp2_with fail
  rw [← HW.out]
  refine HI.out.mono ?_
  rintro y w1 ⟨b, rfl, hb1⟩
  have hx1 := below_blk hb1 HX.out (blk_lt HX.out)
  have f2 := blk_cell hx1 2
  have f6 := blk_cell hx1 6
  have HB1 := Lib.hid (HB.out.trans (hb1.mono HB.out.size))
  clear hb1 hx1 f0
  go_wp2
  all_goals
    go_ret
    exact ⟨_, rfl, HB1.out⟩
theorem into_get : ∀ {l : List (Int × Int)} {j : Nat} (hj : j < l.length), (intoCells l)[j * 2]? = some (.int .i64 l[j].1) ∧ (intoCells l)[j * 2 + 1]? = some (.int .i64 l[j].2)
  | x :: l, 0, _ => ⟨rfl, rfl⟩
  | x :: l, j + 1, h => by
    have := into_get (l := l) (j := j) (by simpa using h)
    rw [show (j + 1) * 2 = j * 2 + 1 + 1 by omega]
    simpa [intoCells] using this
set_option maxRecDepth 100000 in
set_option maxHeartbeats 1000000 in
theorem rowN_same (w : World) (l : List Int) (A1 A2 : Option Addr) (c1 c2 : Nat) (h1 : numRow w l A1) (h2 : numRow w l A2) (hml : l.length ≤ maxLen) :
    Calls Try.prog 26 #[.slice A1 l.length c1, .slice A2 l.length c2] w fun e w' => e = .returned (.bool true) ∧ Below w.heap.size w w' := by
  unfold maxLen at hml
  have H1 := Lib.hid h1
  have H2 := Lib.hid h2
  clear h1 h2
  have hnn : ((l.length : Int) != (l.length : Int)) = false := by simp
  go_enter Try.func26, Try.ntmps26
  go_wp2
  go_loopw [5] (fun i wr => ∃ k : Nat, i = .int .i64 (k : Int) ∧ k ≤ l.length ∧ Hid (Below w.heap.size w wr)) (fun i _ => l.length - (intOf i).toNat)
  case atStart => exact ⟨0, rfl, Nat.zero_le _, Lib.hid (Below.refl _ _)⟩
  case round =>
    obtain ⟨k, rfl, hk, HB⟩ := hrel
    by_cases hlt : k < l.length
    · have hlt' : (k : Int) < (l.length : Int) := by omega
      have hk0 : (0 : Int) ≤ (k : Int) := by omega
      obtain ⟨g1, o1, e1, x1⟩ := (H1.out.below HB.out) k hlt
      obtain ⟨g2, o2, e2, x2⟩ := (H2.out.below HB.out) k hlt
      subst e1; subst e2
      generalize hv : l[k] = v at x1 x2
      go_wp2
      go_quiet ((fail))
      go_wp2
      go_roundw
      case rel => exact ⟨k + 1, by go_num, by omega, Lib.hid (below_drewN HB.out _)⟩
      case measure => simp [intOf]; omega
    · have hk' : k = l.length := by omega
      subst hk'
      go_wp2
      go_ret
      exact ⟨rfl, HB.out⟩
theorem row_same2 (w : World) (l : List Int) (M1 M2 : Value) (h1 : Row w 2 1 M1 l.length (nums l)) (h2 : Row w 2 1 M2 l.length (nums l)) :
    Calls Try.prog 26 #[M1, M2] w fun e w' => e = .returned (.bool true) ∧ Below w.heap.size w w' := by
  have hml := h1.bound
  obtain ⟨A1, c1, rfl, _⟩ := h1.slice
  obtain ⟨A2, c2, rfl, _⟩ := h2.slice
  exact rowN_same w l A1 A2 c1 c2 h1.numRow h2.numRow hml
set_option maxRecDepth 100000 in
set_option maxHeartbeats 1000000 in
theorem intos_same (w : World) (l : List (Int × Int)) (M1 M2 : Value) (h1 : Row w 98 2 M1 l.length (intoCells l)) (h2 : Row w 98 2 M2 l.length (intoCells l)) :
    Calls Try.prog 27 #[M1, M2] w fun e w' => e = .returned (.bool true) ∧ Below w.heap.size w w' := by
  have hml := h1.bound
  unfold maxLen at hml
  obtain ⟨A1, c1, rfl, _⟩ := h1.slice
  obtain ⟨A2, c2, rfl, _⟩ := h2.slice
  have H1 := Lib.hid h1
  have H2 := Lib.hid h2
  clear h1 h2
  have hnn : ((l.length : Int) != (l.length : Int)) = false := by simp
  go_enter Try.func27, Try.ntmps27
  go_wp2
  go_loopw [5] (fun i wr => ∃ k : Nat, i = .int .i64 (k : Int) ∧ k ≤ l.length ∧ Hid (Below w.heap.size w wr)) (fun i _ => l.length - (intOf i).toNat)
  case atStart => exact ⟨0, rfl, Nat.zero_le _, Lib.hid (Below.refl _ _)⟩
  case round =>
    obtain ⟨k, rfl, hk, HB⟩ := hrel
    by_cases hlt : k < l.length
    · have hlt' : (k : Int) < (l.length : Int) := by omega
      have hk0 : (0 : Int) ≤ (k : Int) := by omega
      obtain ⟨g1, e1, x1⟩ := (H1.out.below HB.out).cellA (into_get hlt).1
      obtain ⟨g2, e2, x2⟩ := (H2.out.below HB.out).cellA (into_get hlt).1
      obtain ⟨g3, e3, x3⟩ := (H1.out.below HB.out).cellA (into_get hlt).2
      obtain ⟨g4, e4, x4⟩ := (H2.out.below HB.out).cellA (into_get hlt).2
      subst e1; subst e2
      obtain rfl : g1 = g3 := congrArg Addr.block (Option.some.inj e3)
      obtain rfl : g2 = g4 := congrArg Addr.block (Option.some.inj e4)
      clear e3 e4
      generalize l[k].1 = va at x1 x2
      generalize l[k].2 = vb at x3 x4
      go_wp2
      go_quiet ((fail))
      go_wp2
      go_roundw
      case rel => exact ⟨k + 1, by go_num, by omega, Lib.hid (below_drewN HB.out _)⟩
      case measure => simp [intOf]; omega
    · have hk' : k = l.length := by omega
      subst hk'
      go_wp2
      go_ret
      exact ⟨rfl, HB.out⟩
/-- an effect's rows in memory -/
structure Rows3 (w : World) (e : Ev) (M O I : Value) : Prop where
  mem : Row w 2 1 M e.mem.length (nums e.mem)
  outs : Row w 2 1 O e.outs.length (nums e.outs)
  intos : Row w 98 2 I e.intos.length (intoCells e.intos)
theorem Rows3.below {w w' : World} {e : Ev} {M O I : Value} (h : Rows3 w e M O I) (hB : Below w.heap.size w w') : Rows3 w' e M O I := ⟨h.mem.below hB, h.outs.below hB, h.intos.below hB⟩
set_option maxRecDepth 100000 in
set_option maxHeartbeats 1000000 in
theorem same_calls (w : World) (e : Ev) (M1 O1 I1 M2 O2 I2 : Value) (ov va st : Int) (h1 : Rows3 w e M1 O1 I1) (h2 : Rows3 w e M2 O2 I2) :
    Calls Try.prog 24 #[.agg #[M1, O1, I1, .int .i64 ov, .int .i64 va, .int .i64 st], .agg #[M2, O2, I2, .int .i64 ov, .int .i64 va, .int .i64 st], .bool true] w fun E w' => E = .returned (.bool true) ∧ Below w.heap.size w w' := by
  have hz1 : (w.alloc (.cells #[M1, O1, I1, .int .i64 ov, .int .i64 va, .int .i64 st] 55)).heap.size = w.heap.size + 1 := size_al _ _
  have hx0 := blk_alloc (blk_new w (.cells #[M1, O1, I1, .int .i64 ov, .int .i64 va, .int .i64 st] 55)) (.cells #[M2, O2, I2, .int .i64 ov, .int .i64 va, .int .i64 st] 55)
  have hx1 := blk_new (w.alloc (.cells #[M1, O1, I1, .int .i64 ov, .int .i64 va, .int .i64 st] 55)) (.cells #[M2, O2, I2, .int .i64 ov, .int .i64 va, .int .i64 st] 55)
  have hb : Below w.heap.size w ((w.alloc (.cells #[M1, O1, I1, .int .i64 ov, .int .i64 va, .int .i64 st] 55)).alloc (.cells #[M2, O2, I2, .int .i64 ov, .int .i64 va, .int .i64 st] 55)) := ((Below.refl w.heap.size w).al).al
  rw [hz1] at hx1
  have H1 := Lib.hid (h1.below hb)
  have H2 := Lib.hid (h2.below hb)
  have HX0 := Lib.hid hx0
  have HX1 := Lib.hid hx1
  have HB := Lib.hid hb
  clear h1 h2 hx0 hx1 hb
  obtain ⟨w0, hw0⟩ : ∃ w0, (w.alloc (.cells #[M1, O1, I1, .int .i64 ov, .int .i64 va, .int .i64 st] 55)).alloc (.cells #[M2, O2, I2, .int .i64 ov, .int .i64 va, .int .i64 st] 55) = w0 := ⟨_, rfl⟩
  rw [hw0] at H1 H2 HX0 HX1 HB
  have HW := Lib.hid hw0
  clear hw0
  go_enter Try.func24, Try.ntmps24
  have CA : ∀ b, Below w0.heap.size w0 b → Calls Try.prog 26 #[M1, M2] b fun E w' => E = .returned (.bool true) ∧ Below b.heap.size b w' := fun b hb => row_same2 b e.mem M1 M2 (H1.out.below hb).mem (H2.out.below hb).mem
  have CB : ∀ b, Below w0.heap.size w0 b → Calls Try.prog 26 #[O1, O2] b fun E w' => E = .returned (.bool true) ∧ Below b.heap.size b w' := fun b hb => row_same2 b e.outs O1 O2 (H1.out.below hb).outs (H2.out.below hb).outs
  have CC : ∀ b, Below w0.heap.size w0 b → Calls Try.prog 27 #[I1, I2] b fun E w' => E = .returned (.bool true) ∧ Below b.heap.size b w' := fun b hb => intos_same b e.intos I1 I2 (H1.out.below hb).intos (H2.out.below hb).intos
  have HCA := Lib.hid CA
  have HCB := Lib.hid CB
  have HCC := Lib.hid CC
  clear CA CB CC
  go_wp2_with fail
  rw [HW.out]
  refine (HCA.out w0 (Below.refl _ _)).mono ?_
  rintro E w1 ⟨rfl, hb1⟩
  have HB1 := Lib.hid hb1
  have x0 := Lib.hid (below_blk hb1 HX0.out (blk_lt HX0.out))
  have x1 := Lib.hid (below_blk hb1 HX1.out (blk_lt HX1.out))
  clear hb1
  have f1 := blk_cell x0.out 1
  have g1 := blk_cell x1.out 1
  go_wp2_with fail
  refine (HCB.out w1 HB1.out).mono ?_
  rintro E w2 ⟨rfl, hb2⟩
  have HB2 := Lib.hid (HB1.out.trans (hb2.mono HB1.out.size))
  have y0 := Lib.hid (below_blk hb2 x0.out (blk_lt x0.out))
  have y1 := Lib.hid (below_blk hb2 x1.out (blk_lt x1.out))
  clear hb2 f1 g1
  have f1 := blk_cell y0.out 2
  have g1 := blk_cell y1.out 2
  go_wp2_with fail
  refine (HCC.out w2 HB2.out).mono ?_
  rintro E w3 ⟨rfl, hb3⟩
  have HB3 := Lib.hid (HB2.out.trans (hb3.mono HB2.out.size))
  have z0 := below_blk hb3 y0.out (blk_lt y0.out)
  have z1 := below_blk hb3 y1.out (blk_lt y1.out)
  clear hb3 f1 g1
  have f1 := blk_cell z0 3
  have g1 := blk_cell z1 3
  have f2 := blk_cell z0 4
  have g2 := blk_cell z1 4
  have f3 := blk_cell z0 5
  have g3 := blk_cell z1 5
  clear z0 z1
  go_wp2
  go_ret
  exact ⟨by simp, HB.out.trans (HB3.out.mono HB.out.size)⟩
theorem OutAt.rows {w : World} {base : Nat} {S : Ev} {M O I : Value} (h : OutAt w base S M O I) : Rows3 w S M O I := ⟨h.mem, h.outs, h.intos⟩
theorem OutAt.below {w w' : World} {base : Nat} {S : Ev} {M O I : Value} (h : OutAt w base S M O I) (hB : Below w.heap.size w w') : OutAt w' base S M O I := ⟨h.mem.below hB, h.outs.below hB, h.intos.below hB, h.fm, h.fo, h.fi, h.mo⟩
end Go.Proofs.Ytjlnpppjkdcpkaa.My
