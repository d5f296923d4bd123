/- The guard of the laws of runs; two rows, two effects that are alike are told the same. Conditions: the tree was there in the world W, which is kept. -/
import Derived.Test.YtjlnpppjkdcpkaaERNameR2
import Derived.Test.YtjlnpppjkdcpkaaEREvR
namespace Go.Proofs.Ytjlnpppjkdcpkaa.My
open Go.RowKit Go.Maps
/-- a truth value, and what was there is kept -/
def AnyB (w : World) (e : Ending) (w' : World) : Prop := ∃ b, e = .returned (.bool b) ∧ Below w.heap.size w w'
def words : List ByteArray := [⟨#[109]⟩, ⟨#[105, 102]⟩, ⟨#[118, 97, 114]⟩, ⟨#[109, 105, 110]⟩, ⟨#[109, 97, 120]⟩, ⟨#[101, 108, 115, 101]⟩, ⟨#[101, 109, 105, 116]⟩, ⟨#[105, 110, 116, 111]⟩, ⟨#[102, 97, 105, 108]⟩, ⟨#[115, 116, 111, 112]⟩, ⟨#[119, 104, 105, 108, 101]⟩]
end Go.Proofs.Ytjlnpppjkdcpkaa.My
namespace Go.Proofs.Ytjlnpppjkdcpkaa.My
open Go.RowKit Go.Maps
set_option maxRecDepth 100000 in
theorem count_calls (W : World) (N : Nat) : ∀ (e : Expr) (A : Option Addr) (c : Nat), e.nodes ≤ N → Expr.rds W e.args A 0 → e.nodes ≤ 1000000000 → ∀ (w : World), Below W.heap.size W w →
  Calls Try.prog 45 #[e.val A c] w fun r w' => ∃ x, r = .returned (.int .i64 x) ∧ Below w.heap.size w w' := by
 induction N with
 | zero => intro e A c hN; have := e.nodes_eq; omega
 | succ N ih =>
  intro e A c hN hrd hl w hB; have hal := Expr.nodesL_len e.args; have hne := e.nodes_eq; unfold Expr.val
  go_enter Try.func45, Try.ntmps45
  go_wp2; have HBX := Lib.hid (blk_new w (.cells #[.int .i64 e.kind, .int .i64 e.num, .string e.name, .int .i64 e.op, .slice A e.args.length c] 66)); go_loopw [3, 4] (fun v at_ wr => ∃ (k : Nat) (x : Int), at_ = .int .i64 (k : Int) ∧ v = .int .i64 x ∧ k ≤ e.args.length ∧ Below w.heap.size w wr ∧ Hid (wr.heap[w.heap.size]? = some (.cells #[.int .i64 e.kind, .int .i64 e.num, .string e.name, .int .i64 e.op, .slice A e.args.length c] 66 (0, 0)))) (fun _ a _ => e.args.length - (intOf a).toNat)
  case atStart => exact ⟨0, 1, rfl, rfl, Nat.zero_le _, (Below.refl _ _).alloc (Nat.le_refl _) _, HBX⟩
  case round =>
   obtain ⟨k, x, rfl, rfl, hk, HB, HX⟩ := hrel; clear HBX; have b4 := blk_cell HX.out 4; by_cases hlt : k < e.args.length
   ·have hsz := Expr.nodesL_take e.args k hlt
    obtain ⟨b, o, A', c', rfl, hbW, g0, g1, g2, g3, g4, hc', hs', hrd'⟩ := Expr.at hrd (hB.trans (HB.mono hB.size)) hlt; have hlt' : ((k : Int) < (e.args.length : Int)) := by omega
    have hI := ih e.args[k] A' c' (by omega) hrd' (by omega) wr (hB.trans (HB.mono hB.size))
    unfold Expr.val at hI
    go_wp2_with (go_at_call 45; go_must (refine hI.mono ?_); rintro y w1 ⟨z, rfl, hb⟩)
    go_roundw
    case rel => exact ⟨k + 1, _, by go_num, rfl, by omega, HB.trans (hb.mono HB.size), Lib.hid (below_blk hb HX.out (blk_lt HX.out))⟩
    case measure => simp [intOf]; omega
   ·go_wp2
    go_ret; exact ⟨_, rfl, HB⟩
end Go.Proofs.Ytjlnpppjkdcpkaa.My
namespace Go.Proofs.Ytjlnpppjkdcpkaa.My
open Go.RowKit Go.Maps
theorem keep45 {w w' : World} {b o m : Nat} {u v : Value} (h4 : w.cell? ⟨b, o + m + 4, none⟩ = some u) (h5 : w.cell? ⟨b, o + m + 5, none⟩ = some v) (h : Below w.heap.size w w') (hb : b < w.heap.size) : w'.cell? ⟨b, o + m + 4, none⟩ = some u ∧ w'.cell? ⟨b, o + m + 5, none⟩ = some v ∧ Below w.heap.size w w' :=
 ⟨(h.cell (p := ⟨b, _, none⟩) hb).trans h4, (h.cell (p := ⟨b, _, none⟩) hb).trans h5, h⟩
set_option maxRecDepth 100000 in
theorem nodes_calls (W : World) (N : Nat) : ∀ (l : List Stmt) (A : Option Addr) (c : Nat), Stmt.nodesL l ≤ N → Stmt.rds W l A 0 → Stmt.nodesL l ≤ 1000000000 → ∀ (w : World), Below W.heap.size W w →
  Calls Try.prog 28 #[.slice A l.length c] w fun r w' => ∃ x, r = .returned (.int .i64 x) ∧ Below w.heap.size w w' := by
 induction N with
 | zero =>
  intro l A c hN hrd hl w hB; have hal := Stmt.nodesL_len l; have hl0 : l.length = 0 := by omega
  rw [hl0]; go_enter Try.func28, Try.ntmps28
  go_wp2; go_loopw [3, 4] (fun v at_ wr => at_ = .int .i64 0 ∧ (∃ x : Int, v = .int .i64 x) ∧ Below w.heap.size w wr) (fun _ _ _ => 0)
  case atStart => exact ⟨rfl, ⟨_, rfl⟩, Below.refl _ _⟩
  case round =>
   obtain ⟨rfl, ⟨x, rfl⟩, HB⟩ := hrel; go_wp2; go_ret; exact ⟨_, rfl, HB⟩
 | succ N ih =>
  intro l A c hN hrd hl w hB; have hal := Stmt.nodesL_len l; go_enter Try.func28, Try.ntmps28
  go_wp2; go_loopw [3, 4] (fun v at_ wr => ∃ (k : Nat) (x : Int), at_ = .int .i64 (k : Int) ∧ v = .int .i64 x ∧ k ≤ l.length ∧ Below w.heap.size w wr) (fun _ a _ => l.length - (intOf a).toNat)
  case atStart => exact ⟨0, _, rfl, rfl, Nat.zero_le _, Below.refl _ _⟩
  case round =>
   obtain ⟨k, x, rfl, rfl, hk, HB⟩ := hrel; by_cases hlt : k < l.length
   ·have hsz := Stmt.nodesL_take l k hlt
    have hne := l[k].nodes_eq; obtain ⟨b, o, A0, c0, A2, c2, A3, c3, rfl, hbW, g0, g1, g2, g3, g4, g5, e0, e1, e2, hs', r0, r1, r2⟩ := Stmt.at hrd (hB.trans (HB.mono hB.size)) hlt; have hlt' : ((k : Int) < (l.length : Int)) := by omega
    have hea := Expr.nodesL_len l[k].args; go_wp2; go_loopw [3, 5] (fun v at_ wr => ∃ (j : Nat) (y : Int), at_ = .int .i64 (j : Int) ∧ v = .int .i64 y ∧ j ≤ l[k].args.length ∧ Below w.heap.size w wr) (fun _ a _ => l[k].args.length - (intOf a).toNat)
    case atStart => exact ⟨0, _, rfl, rfl, Nat.zero_le _, HB⟩
    case round =>
     obtain ⟨j, y, rfl, rfl, hj, HQ⟩ := hrel; clear g0 g1 g2 g3 g4 g5; obtain ⟨b', o', A0', c0', A2', c2', A3', c3', hA, hbW', g0, g1, g2, g3, g4, g5, e0', e1', e2', hs2, r0, r1, r2⟩ := Stmt.at hrd (hB.trans (HQ.mono hB.size)) hlt; simp only [Option.some.injEq, Addr.mk.injEq] at hA
     obtain ⟨rfl, rfl, _⟩ := hA; by_cases hjt : j < l[k].args.length
     ·have hsz2 := Expr.nodesL_take l[k].args j hjt
      have hne2 := (l[k].args[j]).nodes_eq; obtain ⟨b3, o3, A4, c4, rfl, hbW3, q0, q1, q2, q3, q4, hc4, hs4, rd4⟩ := Expr.at r0 (hB.trans (HQ.mono hB.size)) hjt; have hjt' : ((j : Int) < (l[k].args.length : Int)) := by omega
      have hI := count_calls W _ l[k].args[j] A4 c4 (Nat.le_refl _) rd4 (by omega) wr (hB.trans (HQ.mono hB.size))
      unfold Expr.val at hI
      go_wp2_with (go_at_call 45; go_must (refine hI.mono ?_); rintro y w1 ⟨z, rfl, hb⟩)
      go_roundw
      case rel => exact ⟨j + 1, _, by go_num, rfl, by omega, HQ.trans (hb.mono HQ.size)⟩
      case measure => simp [intOf]; omega
     ·have hI := Lib.hid (fun w1 (h1 : Below wr.heap.size wr w1) => ih l[k].body A2' c2' (by omega) r1 (by omega) w1 ((hB.trans (HQ.mono hB.size)).trans (h1.mono (Nat.le_trans hB.size HQ.size))))
      have hJ := Lib.hid (fun w1 (h1 : Below wr.heap.size wr w1) => ih l[k].els A3' c3' (by omega) r2 (by omega) w1 ((hB.trans (HQ.mono hB.size)).trans (h1.mono (Nat.le_trans hB.size HQ.size))))
      go_wp2; go_region_held3 (fun w' => w'.cell? ⟨b, o + k * 6 + 4, none⟩ = some (.slice A2' l[k].body.length c2') ∧ w'.cell? ⟨b, o + k * 6 + 5, none⟩ = some (.slice A3' l[k].els.length c3') ∧ Below wr.heap.size wr w')
       (first
        | exact keep45 g4 g5 hW6 (Nat.lt_of_lt_of_le hbW' (Nat.le_trans hB.size HQ.size))
        | exact keep45 g4 g5 hW5 (Nat.lt_of_lt_of_le hbW' (Nat.le_trans hB.size HQ.size))
        | exact keep45 g4 g5 (Below.refl _ _) (Nat.lt_of_lt_of_le hbW' (Nat.le_trans hB.size HQ.size))
        | exact keep45 g4 g5 (Below.refl _ _).drew (Nat.lt_of_lt_of_le hbW' (Nat.le_trans hB.size HQ.size)))
       (first
        | (go_at_call 28; have hW5 := hW5; go_must (refine (hJ.out _ (by first | exact hW5 | exact hW5.drew)).mono ?_); rintro y w6 ⟨z6, rfl, hb6⟩; have hW6 := hW5.trans (hb6.mono hW5.size))
        | (go_at_call 28; go_must (refine (hI.out _ (by first | exact Below.refl _ _ | exact (Below.refl _ _).drew)).mono ?_); rintro y w5 ⟨z5, rfl, hb5⟩; have hW5 : Below wr.heap.size wr w5 := (by first | exact hb5 | exact (Below.refl _ _).drew.trans hb5)))
      go_wp2; go_roundw
      case rel => exact ⟨k + 1, _, by go_num, rfl, by omega, HQ.trans (hW6.mono HQ.size)⟩
      case measure => simp [intOf]; omega
   ·go_wp2
    go_ret; exact ⟨_, rfl, HB⟩
end Go.Proofs.Ytjlnpppjkdcpkaa.My
namespace Go.Proofs.Ytjlnpppjkdcpkaa.My
open Go.RowKit Go.Maps
theorem great_calls (W : World) (l : List Stmt) (A : Option Addr) (c : Nat) (hrd : Stmt.rds W l A 0) (hl : Stmt.nodesL l ≤ 1000000000) (w : World) (hB : Below W.heap.size W w) :
  Calls Try.prog 12 #[.slice A l.length c] w (AnyB w) := by
 have hI := nodes_calls W _ l A c (Nat.le_refl _) hrd hl w hB; go_enter Try.func12, Try.ntmps12
 go_wp2_with (go_at_call 28; go_must (refine hI.mono ?_); rintro y w1 ⟨z, rfl, hb1⟩)
 all_goals
  go_ret; exact ⟨_, rfl, hb1⟩
end Go.Proofs.Ytjlnpppjkdcpkaa.My
namespace Go.Proofs.Ytjlnpppjkdcpkaa.My
open Go.RowKit Go.Proofs.Ytjlnpppjkdcpkaa.NumA
set_option linter.unusedVariables false
set_option linter.unusedSimpArgs false
set_option maxRecDepth 100000 in
theorem great7_calls (W : World) (ss : List Stmt) (A : Option Addr) (c : Nat) (hrd : Stmt.rds W ss A 0) (hnl : Stmt.nodesL ss ≤ 1000000000) (L : Int) (AM : Option Addr) (ml cM : Nat) (n i k B : Int) (w : World) (hB : Below W.heap.size W w) :
  Calls Try.prog 21 #[.agg #[.slice A ss.length c, .int .i64 L, .slice AM ml cM, .int .i64 n, .int .i64 i, .int .i64 k, .int .i64 B]] w (AnyB w) := by
 have hb0 : Below w.heap.size w (w.alloc (.cells #[.slice A ss.length c, .int .i64 L, .slice AM ml cM, .int .i64 n, .int .i64 i, .int .i64 k, .int .i64 B] 50)) := (Below.refl _ _).al
 have hx0 := blk_new w (.cells #[.slice A ss.length c, .int .i64 L, .slice AM ml cM, .int .i64 n, .int .i64 i, .int .i64 k, .int .i64 B] 50); have HW := Lib.hid (show ∃ w0, w0 = w.alloc (.cells #[.slice A ss.length c, .int .i64 L, .slice AM ml cM, .int .i64 n, .int .i64 i, .int .i64 k, .int .i64 B] 50) from ⟨_, rfl⟩)
 obtain ⟨w0, hw0⟩ := HW.out; rw [← hw0] at hb0 hx0; have HW := Lib.hid hw0; clear hw0; have f0 := blk_cell hx0 0; have hI := great_calls W ss A c hrd hnl w0 (hB.trans (hb0.mono hB.size)); have HI := Lib.hid hI; have HB := Lib.hid hb0; have HX := Lib.hid hx0; clear hI hb0 hx0 hrd; go_enter Try.func21, Try.ntmps21
 go_wp2_with fail; rw [← HW.out]; refine HI.out.mono ?_; rintro y w1 ⟨b, rfl, hb1⟩; have hx1 := below_blk hb1 HX.out (blk_lt HX.out); have f2 := blk_cell hx1 2; have f6 := blk_cell hx1 6; have HB1 := Lib.hid (HB.out.trans (hb1.mono HB.out.size)); clear hb1 hx1 f0; go_wp2; all_goals
  go_ret; exact ⟨_, rfl, HB1.out⟩
theorem into_get : ∀ {l : List (Int × Int)} {j : Nat} (hj : j < l.length), (intoCells l)[j * 2]? = some (.int .i64 l[j].1) ∧ (intoCells l)[j * 2 + 1]? = some (.int .i64 l[j].2)
 | x :: l, 0, _ => ⟨rfl, rfl⟩
 | x :: l, j + 1, h => by
  have := into_get (l := l) (j := j) (by simpa using h)
  rw [show (j + 1) * 2 = j * 2 + 1 + 1 by omega]
  simpa [intoCells] using this
set_option maxRecDepth 100000 in
set_option maxHeartbeats 1000000 in
theorem rowN_same (w : World) (l : List Int) (A1 A2 : Option Addr) (c1 c2 : Nat) (h1 : numRow w l A1) (h2 : numRow w l A2) (hml : l.length ≤ maxLen) :
  Calls Try.prog 26 #[.slice A1 l.length c1, .slice A2 l.length c2] w fun e w' => e = .returned (.bool true) ∧ Below w.heap.size w w' := by
 unfold maxLen at hml; have H1 := Lib.hid h1; have H2 := Lib.hid h2; clear h1 h2; have hnn : ((l.length : Int) != (l.length : Int)) = false := by simp
 go_enter Try.func26, Try.ntmps26
 go_wp2; go_loopw [5] (fun i wr => ∃ k : Nat, i = .int .i64 (k : Int) ∧ k ≤ l.length ∧ Hid (Below w.heap.size w wr)) (fun i _ => l.length - (intOf i).toNat)
 case atStart => exact ⟨0, rfl, Nat.zero_le _, Lib.hid (Below.refl _ _)⟩
 case round =>
  obtain ⟨k, rfl, hk, HB⟩ := hrel; by_cases hlt : k < l.length
  ·have hlt' : (k : Int) < (l.length : Int) := by omega
   have hk0 : (0 : Int) ≤ (k : Int) := by omega
   obtain ⟨g1, o1, e1, x1⟩ := (H1.out.below HB.out) k hlt; obtain ⟨g2, o2, e2, x2⟩ := (H2.out.below HB.out) k hlt; subst e1; subst e2
   generalize hv : l[k] = v at x1 x2
   go_wp2; go_quiet ((fail))
   go_wp2; go_roundw
   case rel => exact ⟨k + 1, by go_num, by omega, Lib.hid (below_drewN HB.out _)⟩
   case measure => simp [intOf]; omega
  ·have hk' : k = l.length := by omega
   subst hk'; go_wp2; go_ret; exact ⟨rfl, HB.out⟩
theorem row_same2 (w : World) (l : List Int) (M1 M2 : Value) (h1 : Row w 2 1 M1 l.length (nums l)) (h2 : Row w 2 1 M2 l.length (nums l)) :
  Calls Try.prog 26 #[M1, M2] w fun e w' => e = .returned (.bool true) ∧ Below w.heap.size w w' := by
 have hml := h1.bound; obtain ⟨A1, c1, rfl, _⟩ := h1.slice; obtain ⟨A2, c2, rfl, _⟩ := h2.slice; exact rowN_same w l A1 A2 c1 c2 h1.numRow h2.numRow hml
set_option maxRecDepth 100000 in
set_option maxHeartbeats 1000000 in
theorem intos_same (w : World) (l : List (Int × Int)) (M1 M2 : Value) (h1 : Row w 98 2 M1 l.length (intoCells l)) (h2 : Row w 98 2 M2 l.length (intoCells l)) :
  Calls Try.prog 27 #[M1, M2] w fun e w' => e = .returned (.bool true) ∧ Below w.heap.size w w' := by
 have hml := h1.bound; unfold maxLen at hml; obtain ⟨A1, c1, rfl, _⟩ := h1.slice; obtain ⟨A2, c2, rfl, _⟩ := h2.slice; have H1 := Lib.hid h1; have H2 := Lib.hid h2; clear h1 h2; have hnn : ((l.length : Int) != (l.length : Int)) = false := by simp
 go_enter Try.func27, Try.ntmps27
 go_wp2; go_loopw [5] (fun i wr => ∃ k : Nat, i = .int .i64 (k : Int) ∧ k ≤ l.length ∧ Hid (Below w.heap.size w wr)) (fun i _ => l.length - (intOf i).toNat)
 case atStart => exact ⟨0, rfl, Nat.zero_le _, Lib.hid (Below.refl _ _)⟩
 case round =>
  obtain ⟨k, rfl, hk, HB⟩ := hrel; by_cases hlt : k < l.length
  ·have hlt' : (k : Int) < (l.length : Int) := by omega
   have hk0 : (0 : Int) ≤ (k : Int) := by omega
   obtain ⟨g1, e1, x1⟩ := (H1.out.below HB.out).cellA (into_get hlt).1; obtain ⟨g2, e2, x2⟩ := (H2.out.below HB.out).cellA (into_get hlt).1; obtain ⟨g3, e3, x3⟩ := (H1.out.below HB.out).cellA (into_get hlt).2; obtain ⟨g4, e4, x4⟩ := (H2.out.below HB.out).cellA (into_get hlt).2; subst e1; subst e2
   obtain rfl : g1 = g3 := congrArg Addr.block (Option.some.inj e3)
   obtain rfl : g2 = g4 := congrArg Addr.block (Option.some.inj e4)
   clear e3 e4; generalize l[k].1 = va at x1 x2
   generalize l[k].2 = vb at x3 x4
   go_wp2; go_quiet ((fail))
   go_wp2; go_roundw
   case rel => exact ⟨k + 1, by go_num, by omega, Lib.hid (below_drewN HB.out _)⟩
   case measure => simp [intOf]; omega
  ·have hk' : k = l.length := by omega
   subst hk'; go_wp2; go_ret; exact ⟨rfl, HB.out⟩
/-- an effect's rows in memory -/
structure Rows3 (w : World) (e : Ev) (M O I : Value) : Prop where
 mem : Row w 2 1 M e.mem.length (nums e.mem)
 outs : Row w 2 1 O e.outs.length (nums e.outs)
 intos : Row w 98 2 I e.intos.length (intoCells e.intos)
theorem Rows3.below {w w' : World} {e : Ev} {M O I : Value} (h : Rows3 w e M O I) (hB : Below w.heap.size w w') : Rows3 w' e M O I := ⟨h.mem.below hB, h.outs.below hB, h.intos.below hB⟩
set_option maxRecDepth 100000 in
set_option maxHeartbeats 1000000 in
theorem same_calls (w : World) (e : Ev) (M1 O1 I1 M2 O2 I2 : Value) (ov va st : Int) (h1 : Rows3 w e M1 O1 I1) (h2 : Rows3 w e M2 O2 I2) :
  Calls Try.prog 24 #[.agg #[M1, O1, I1, .int .i64 ov, .int .i64 va, .int .i64 st], .agg #[M2, O2, I2, .int .i64 ov, .int .i64 va, .int .i64 st], .bool true] w fun E w' => E = .returned (.bool true) ∧ Below w.heap.size w w' := by
 have hz1 : (w.alloc (.cells #[M1, O1, I1, .int .i64 ov, .int .i64 va, .int .i64 st] 55)).heap.size = w.heap.size + 1 := size_al _ _
 have hx0 := blk_alloc (blk_new w (.cells #[M1, O1, I1, .int .i64 ov, .int .i64 va, .int .i64 st] 55)) (.cells #[M2, O2, I2, .int .i64 ov, .int .i64 va, .int .i64 st] 55); have hx1 := blk_new (w.alloc (.cells #[M1, O1, I1, .int .i64 ov, .int .i64 va, .int .i64 st] 55)) (.cells #[M2, O2, I2, .int .i64 ov, .int .i64 va, .int .i64 st] 55); have hb : Below w.heap.size w ((w.alloc (.cells #[M1, O1, I1, .int .i64 ov, .int .i64 va, .int .i64 st] 55)).alloc (.cells #[M2, O2, I2, .int .i64 ov, .int .i64 va, .int .i64 st] 55)) := ((Below.refl w.heap.size w).al).al
 rw [hz1] at hx1; have H1 := Lib.hid (h1.below hb); have H2 := Lib.hid (h2.below hb); have HX0 := Lib.hid hx0; have HX1 := Lib.hid hx1; have HB := Lib.hid hb; clear h1 h2 hx0 hx1 hb; obtain ⟨w0, hw0⟩ : ∃ w0, (w.alloc (.cells #[M1, O1, I1, .int .i64 ov, .int .i64 va, .int .i64 st] 55)).alloc (.cells #[M2, O2, I2, .int .i64 ov, .int .i64 va, .int .i64 st] 55) = w0 := ⟨_, rfl⟩
 rw [hw0] at H1 H2 HX0 HX1 HB; have HW := Lib.hid hw0; clear hw0; go_enter Try.func24, Try.ntmps24
 have CA : ∀ b, Below w0.heap.size w0 b → Calls Try.prog 26 #[M1, M2] b fun E w' => E = .returned (.bool true) ∧ Below b.heap.size b w' := fun b hb => row_same2 b e.mem M1 M2 (H1.out.below hb).mem (H2.out.below hb).mem
 have CB : ∀ b, Below w0.heap.size w0 b → Calls Try.prog 26 #[O1, O2] b fun E w' => E = .returned (.bool true) ∧ Below b.heap.size b w' := fun b hb => row_same2 b e.outs O1 O2 (H1.out.below hb).outs (H2.out.below hb).outs
 have CC : ∀ b, Below w0.heap.size w0 b → Calls Try.prog 27 #[I1, I2] b fun E w' => E = .returned (.bool true) ∧ Below b.heap.size b w' := fun b hb => intos_same b e.intos I1 I2 (H1.out.below hb).intos (H2.out.below hb).intos
 have HCA := Lib.hid CA; have HCB := Lib.hid CB; have HCC := Lib.hid CC; clear CA CB CC; go_wp2_with fail; rw [HW.out]; refine (HCA.out w0 (Below.refl _ _)).mono ?_; rintro E w1 ⟨rfl, hb1⟩; have HB1 := Lib.hid hb1; have x0 := Lib.hid (below_blk hb1 HX0.out (blk_lt HX0.out)); have x1 := Lib.hid (below_blk hb1 HX1.out (blk_lt HX1.out)); clear hb1; have f1 := blk_cell x0.out 1; have g1 := blk_cell x1.out 1; go_wp2_with fail; refine (HCB.out w1 HB1.out).mono ?_; rintro E w2 ⟨rfl, hb2⟩; have HB2 := Lib.hid (HB1.out.trans (hb2.mono HB1.out.size)); have y0 := Lib.hid (below_blk hb2 x0.out (blk_lt x0.out))
 have y1 := Lib.hid (below_blk hb2 x1.out (blk_lt x1.out)); clear hb2 f1 g1; have f1 := blk_cell y0.out 2; have g1 := blk_cell y1.out 2; go_wp2_with fail; refine (HCC.out w2 HB2.out).mono ?_; rintro E w3 ⟨rfl, hb3⟩; have HB3 := Lib.hid (HB2.out.trans (hb3.mono HB2.out.size)); have z0 := below_blk hb3 y0.out (blk_lt y0.out); have z1 := below_blk hb3 y1.out (blk_lt y1.out); clear hb3 f1 g1; have f1 := blk_cell z0 3; have g1 := blk_cell z1 3; have f2 := blk_cell z0 4; have g2 := blk_cell z1 4; have f3 := blk_cell z0 5; have g3 := blk_cell z1 5; clear z0 z1; go_wp2; go_ret; exact ⟨by simp, HB.out.trans (HB3.out.mono HB.out.size)⟩
theorem OutAt.rows {w : World} {base : Nat} {S : Ev} {M O I : Value} (h : OutAt w base S M O I) : Rows3 w S M O I := ⟨h.mem, h.outs, h.intos⟩
theorem OutAt.below {w w' : World} {base : Nat} {S : Ev} {M O I : Value} (h : OutAt w base S M O I) (hB : Below w.heap.size w w') : OutAt w' base S M O I := ⟨h.mem.below hB, h.outs.below hB, h.intos.below hB, h.fm, h.fo, h.fi, h.mo⟩
end Go.Proofs.Ytjlnpppjkdcpkaa.My
