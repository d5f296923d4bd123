/- The document's counts of a tree: how many, how deep. Conditions: the tree was there in the world W, which is kept; it has at most 10^9 nodes. -/
import Derived.Test.YtjlnpppjkdcpkaaERDr0
import Derived.Test.YtjlnpppjkdcpkaaEREvG
namespace Go.Proofs.Ytjlnpppjkdcpkaa.My
open Go.RowKit Go.Maps
set_option linter.unusedVariables false
set_option linter.unusedSimpArgs false
mutual
def Expr.deepN : Expr → Nat | .mk _ _ _ _ la => if 100 ≤ Expr.deepL la then 100 else Expr.deepL la + 1
def Expr.deepL : List Expr → Nat | [] => 0 | e :: l => max e.deepN (Expr.deepL l)
end
theorem Expr.deepN_eq (e : Expr) : e.deepN = if 100 ≤ Expr.deepL e.args then 100 else Expr.deepL e.args + 1 := by cases e; rw [Expr.deepN]; rfl
theorem Expr.deepN_le (e : Expr) : 1 ≤ e.deepN ∧ e.deepN ≤ 100 := by rw [e.deepN_eq]; split <;> omega
theorem Expr.deepL_le : ∀ l : List Expr, Expr.deepL l ≤ 100
 | [] => by simp [Expr.deepL]
 | e :: l => by have := Expr.deepL_le l; have := e.deepN_le; rw [Expr.deepL]; omega
theorem Expr.deepL_succ : ∀ (l : List Expr) (k : Nat) (h : k < l.length), Expr.deepL (l.take (k + 1)) = max (Expr.deepL (l.take k)) (l[k]).deepN
 | e :: l, 0, _ => by simp [Expr.deepL]
 | e :: l, k + 1, h => by
  have := Expr.deepL_succ l k (by simpa using h)
  rw [List.take_succ_cons, Expr.deepL, this, List.take_succ_cons, Expr.deepL]; simp only [List.getElem_cons_succ]
  omega
theorem Expr.nodesL_succ : ∀ (l : List Expr) (k : Nat) (h : k < l.length), Expr.nodesL (l.take (k + 1)) = Expr.nodesL (l.take k) + (l[k]).nodes
 | e :: l, 0, _ => by simp [Expr.nodesL]
 | e :: l, k + 1, h => by
  have := Expr.nodesL_succ l k (by simpa using h)
  rw [List.take_succ_cons, Expr.nodesL, this, List.take_succ_cons, Expr.nodesL]; simp only [List.getElem_cons_succ]
  omega
theorem Stmt.nodesL_succ : ∀ (l : List Stmt) (k : Nat) (h : k < l.length), Stmt.nodesL (l.take (k + 1)) = Stmt.nodesL (l.take k) + (l[k]).nodes
 | e :: l, 0, _ => by simp [Stmt.nodesL]
 | e :: l, k + 1, h => by
  have := Stmt.nodesL_succ l k (by simpa using h)
  rw [List.take_succ_cons, Stmt.nodesL, this, List.take_succ_cons, Stmt.nodesL]; simp only [List.getElem_cons_succ]
  omega
set_option maxRecDepth 100000 in
theorem docCount_calls (W : World) (N : Nat) : ∀ (e : Expr) (A : Option Addr) (c : Nat), e.nodes ≤ N → Expr.rds W e.args A 0 → e.nodes ≤ 1000000000 → ∀ (w : World), Below W.heap.size W w →
  Calls Try.prog 45 #[e.val A c] w fun r w' => r = .returned (.int .i64 (e.nodes : Int)) ∧ Below w.heap.size w w' := by
 induction N with
 | zero => intro e A c hN; have := e.nodes_eq; omega
 | succ N ih =>
  intro e A c hN hrd hl w hB; have hal := Expr.nodesL_len e.args; have hne := e.nodes_eq; unfold Expr.val
  go_enter Try.func45, Try.ntmps45
  go_wp2; have HBX := Lib.hid (blk_new w (.cells #[.int .i64 e.kind, .int .i64 e.num, .string e.name, .int .i64 e.op, .slice A e.args.length c] 66)); go_loopw [3, 4] (fun v at_ wr => ∃ (k : Nat) (x : Int), at_ = .int .i64 (k : Int) ∧ v = .int .i64 x ∧ k ≤ e.args.length ∧ x = 1 + (Expr.nodesL (e.args.take k) : Int) ∧ Below w.heap.size w wr ∧ Hid (wr.heap[w.heap.size]? = some (.cells #[.int .i64 e.kind, .int .i64 e.num, .string e.name, .int .i64 e.op, .slice A e.args.length c] 66 (0, 0)))) (fun _ a _ => e.args.length - (intOf a).toNat)
  case atStart => exact ⟨0, 1, rfl, rfl, Nat.zero_le _, by simp [Expr.nodesL], (Below.refl _ _).alloc (Nat.le_refl _) _, HBX⟩
  case round =>
   obtain ⟨k, x, rfl, rfl, hk, hx, HB, HX⟩ := hrel; clear HBX; have b4 := blk_cell HX.out 4; by_cases hlt : k < e.args.length
   ·have hsz := Expr.nodesL_take e.args k hlt
    obtain ⟨b, o, A', c', rfl, hbW, g0, g1, g2, g3, g4, hc', hs', hrd'⟩ := Expr.at hrd (hB.trans (HB.mono hB.size)) hlt; have hlt' : ((k : Int) < (e.args.length : Int)) := by omega
    have hs1 := Expr.nodesL_succ e.args k hlt; have hI := ih e.args[k] A' c' (by omega) hrd' (by omega) wr (hB.trans (HB.mono hB.size))
    unfold Expr.val at hI
    go_wp2_with (go_at_call 45; go_must (refine hI.mono ?_); rintro y w1 ⟨rfl, hb⟩)
    go_roundw
    case rel => exact ⟨k + 1, _, by go_num, rfl, by omega, by go_num, HB.trans (hb.mono HB.size), Lib.hid (below_blk hb HX.out (blk_lt HX.out))⟩
    case measure => simp [intOf]; omega
   ·go_wp2
    go_ret; exact ⟨by
     have : k = e.args.length := by omega
     rw [hx, this, List.take_length, hne]; simp, HB⟩
set_option maxRecDepth 100000 in
theorem docDeep_calls (W : World) (N : Nat) : ∀ (e : Expr) (A : Option Addr) (c : Nat), e.nodes ≤ N → Expr.rds W e.args A 0 → e.nodes ≤ 1000000000 → ∀ (w : World), Below W.heap.size W w →
  Calls Try.prog 53 #[e.val A c] w fun r w' => r = .returned (.int .i64 (e.deepN : Int)) ∧ Below w.heap.size w w' := by
 induction N with
 | zero => intro e A c hN; have := e.nodes_eq; omega
 | succ N ih =>
  intro e A c hN hrd hl w hB; have hal := Expr.nodesL_len e.args; have hne := e.nodes_eq; unfold Expr.val
  go_enter Try.func53, Try.ntmps53
  go_wp2; have HBX := Lib.hid (blk_new w (.cells #[.int .i64 e.kind, .int .i64 e.num, .string e.name, .int .i64 e.op, .slice A e.args.length c] 66)); go_loopw [3, 4] (fun v at_ wr => ∃ (k : Nat) (x : Int), at_ = .int .i64 (k : Int) ∧ v = .int .i64 x ∧ k ≤ e.args.length ∧ x = (Expr.deepL (e.args.take k) : Int) ∧ Below w.heap.size w wr ∧ Hid (wr.heap[w.heap.size]? = some (.cells #[.int .i64 e.kind, .int .i64 e.num, .string e.name, .int .i64 e.op, .slice A e.args.length c] 66 (0, 0)))) (fun _ a _ => e.args.length - (intOf a).toNat)
  case atStart => exact ⟨0, 0, rfl, rfl, Nat.zero_le _, by simp [Expr.deepL], (Below.refl _ _).alloc (Nat.le_refl _) _, HBX⟩
  case round =>
   obtain ⟨k, x, rfl, rfl, hk, hx, HB, HX⟩ := hrel; clear HBX; have b4 := blk_cell HX.out 4; by_cases hlt : k < e.args.length
   ·have hsz := Expr.nodesL_take e.args k hlt
    obtain ⟨b, o, A', c', rfl, hbW, g0, g1, g2, g3, g4, hc', hs', hrd'⟩ := Expr.at hrd (hB.trans (HB.mono hB.size)) hlt; have hlt' : ((k : Int) < (e.args.length : Int)) := by omega
    have hI := ih e.args[k] A' c' (by omega) hrd' (by omega) wr (hB.trans (HB.mono hB.size))
    unfold Expr.val at hI
    have hs1 := Expr.deepL_succ e.args k hlt; have hd0 := Expr.deepL_le (e.args.take k); have hd1 := (e.args[k]).deepN_le; by_cases hgt : x < ((e.args[k]).deepN : Int)
    ·have HS := Lib.hid (show (((e.args[k]).deepN : Nat) : Int) = (Expr.deepL (e.args.take (k + 1)) : Int) by rw [hs1]; omega)
     clear hs1 hx; go_wp2_with (go_at_call 53; go_must (refine hI.mono ?_); rintro y w1 ⟨rfl, hb⟩)
     go_roundw
     case rel => exact ⟨k + 1, _, by go_num, rfl, by omega, HS.out, HB.trans (hb.mono HB.size), Lib.hid (below_blk hb HX.out (blk_lt HX.out))⟩
     case measure => simp [intOf]; omega
    ·have HS := Lib.hid (show x = (Expr.deepL (e.args.take (k + 1)) : Int) by rw [hs1]; omega)
     clear hs1 hx; go_wp2_with (go_at_call 53; go_must (refine hI.mono ?_); rintro y w1 ⟨rfl, hb⟩)
     go_roundw
     case rel => exact ⟨k + 1, _, by go_num, rfl, by omega, HS.out, HB.trans (hb.mono HB.size), Lib.hid (below_blk hb HX.out (blk_lt HX.out))⟩
     case measure => simp [intOf]; omega
   ·have hk' : k = e.args.length := by omega
    subst hk'; rw [List.take_length] at hx; have he := e.deepN_eq; by_cases hh : 100 ≤ x
    ·have HS := Lib.hid (show (100 : Int) = (e.deepN : Int) by rw [he]; have : 100 ≤ Expr.deepL e.args := by omega
                                                               simp [this])
     clear he hx; go_wp2; go_ret; exact ⟨congrArg (fun z => Ending.returned (.int .i64 z)) HS.out, HB⟩
    ·have HS := Lib.hid (show x + 1 = (e.deepN : Int) by rw [he]; have : ¬ 100 ≤ Expr.deepL e.args := by omega
                                                         simp [this]; omega)
     clear he; have hx0 : 0 ≤ x := by omega
     have hx1 : x < 100 := by omega
     clear hx; go_wp2; go_ret; exact ⟨congrArg (fun z => Ending.returned (.int .i64 z)) HS.out, HB⟩
set_option maxRecDepth 100000 in
theorem docNodes_calls (W : World) (N : Nat) : ∀ (l : List Stmt) (A : Option Addr) (c : Nat), Stmt.nodesL l ≤ N → Stmt.rds W l A 0 → Stmt.nodesL l ≤ 1000000000 → ∀ (w : World), Below W.heap.size W w →
  Calls Try.prog 28 #[.slice A l.length c] w fun r w' => r = .returned (.int .i64 (Stmt.nodesL l : Int)) ∧ Below w.heap.size w w' := by
 induction N with
 | zero =>
  intro l A c hN hrd hl w hB; have hal := Stmt.nodesL_len l; have hl0 : l.length = 0 := by omega
  have hln : (Stmt.nodesL l : Int) = 0 := by omega
  rw [hl0, hln]; go_enter Try.func28, Try.ntmps28
  go_wp2; go_loopw [3, 4] (fun v at_ wr => at_ = .int .i64 0 ∧ v = .int .i64 0 ∧ Below w.heap.size w wr) (fun _ _ _ => 0)
  case atStart => exact ⟨rfl, rfl, Below.refl _ _⟩
  case round =>
   obtain ⟨rfl, rfl, HB⟩ := hrel; go_wp2; go_ret; exact ⟨rfl, HB⟩
 | succ N ih =>
  intro l A c hN hrd hl w hB; have hal := Stmt.nodesL_len l; go_enter Try.func28, Try.ntmps28
  go_wp2; go_loopw [3, 4] (fun v at_ wr => ∃ (k : Nat) (x : Int), at_ = .int .i64 (k : Int) ∧ v = .int .i64 x ∧ k ≤ l.length ∧ x = (l.length : Int) - k + (Stmt.nodesL (l.take k) : Int) ∧ Below w.heap.size w wr) (fun _ a _ => l.length - (intOf a).toNat)
  case atStart => exact ⟨0, _, rfl, rfl, Nat.zero_le _, by simp [Stmt.nodesL], Below.refl _ _⟩
  case round =>
   obtain ⟨k, x, rfl, rfl, hk, hx, HB⟩ := hrel; by_cases hlt : k < l.length
   ·have hsz := Stmt.nodesL_take l k hlt
    have hne := l[k].nodes_eq; obtain ⟨b, o, A0, c0, A2, c2, A3, c3, rfl, hbW, g0, g1, g2, g3, g4, g5, e0, e1, e2, hs', r0, r1, r2⟩ := Stmt.at hrd (hB.trans (HB.mono hB.size)) hlt; have hlt' : ((k : Int) < (l.length : Int)) := by omega
    have hea := Expr.nodesL_len l[k].args; go_wp2; go_loopw [3, 5] (fun v at_ wr => ∃ (j : Nat) (y : Int), at_ = .int .i64 (j : Int) ∧ v = .int .i64 y ∧ j ≤ l[k].args.length ∧ y = x + (Expr.nodesL (l[k].args.take j) : Int) ∧ Below w.heap.size w wr) (fun _ a _ => l[k].args.length - (intOf a).toNat)
    case atStart => exact ⟨0, _, rfl, rfl, Nat.zero_le _, by simp [Expr.nodesL], HB⟩
    case round =>
     obtain ⟨j, y, rfl, rfl, hj, hy, HQ⟩ := hrel; clear g0 g1 g2 g3 g4 g5; obtain ⟨b', o', A0', c0', A2', c2', A3', c3', hA, hbW', g0, g1, g2, g3, g4, g5, e0', e1', e2', hs2, r0, r1, r2⟩ := Stmt.at hrd (hB.trans (HQ.mono hB.size)) hlt; simp only [Option.some.injEq, Addr.mk.injEq] at hA
     obtain ⟨rfl, rfl, _⟩ := hA; by_cases hjt : j < l[k].args.length
     ·have hsz2 := Expr.nodesL_take l[k].args j hjt
      have hne2 := (l[k].args[j]).nodes_eq; obtain ⟨b3, o3, A4, c4, rfl, hbW3, q0, q1, q2, q3, q4, hc4, hs4, rd4⟩ := Expr.at r0 (hB.trans (HQ.mono hB.size)) hjt; have hjt' : ((j : Int) < (l[k].args.length : Int)) := by omega
      have hs2 := Expr.nodesL_succ l[k].args j hjt; have hkn := Stmt.nodesL_len (l.take k); rw [List.length_take, Nat.min_eq_left (Nat.le_of_lt hlt)] at hkn; have hI := docCount_calls W _ l[k].args[j] A4 c4 (Nat.le_refl _) rd4 (by omega) wr (hB.trans (HQ.mono hB.size))
      unfold Expr.val at hI
      go_wp2_with (go_at_call 45; go_must (refine hI.mono ?_); rintro y w1 ⟨rfl, hb⟩)
      go_roundw
      case rel => exact ⟨j + 1, _, by go_num, rfl, by omega, by go_num, HQ.trans (hb.mono HQ.size)⟩
      case measure => simp [intOf]; omega
     ·have hI := Lib.hid (fun w1 (h1 : Below wr.heap.size wr w1) => ih l[k].body A2' c2' (by omega) r1 (by omega) w1 ((hB.trans (HQ.mono hB.size)).trans (h1.mono (Nat.le_trans hB.size HQ.size))))
      have hJ := Lib.hid (fun w1 (h1 : Below wr.heap.size wr w1) => ih l[k].els A3' c3' (by omega) r2 (by omega) w1 ((hB.trans (HQ.mono hB.size)).trans (h1.mono (Nat.le_trans hB.size HQ.size))))
      have hjk : j = l[k].args.length := by omega
      rw [hjk, List.take_length] at hy; have hs3 := Stmt.nodesL_succ l k hlt; have hkn := Stmt.nodesL_len (l.take k); rw [List.length_take, Nat.min_eq_left (Nat.le_of_lt hlt)] at hkn; have a1 : IntKind.i64.wrap ((Stmt.nodesL l[k].body : Int) + (Stmt.nodesL l[k].els : Int)) = (Stmt.nodesL l[k].body : Int) + (Stmt.nodesL l[k].els : Int) := by simp [IntKind.wrap, IntKind.signed, IntKind.bits]; omega
      have a2 : IntKind.i64.wrap (y + ((Stmt.nodesL l[k].body : Int) + (Stmt.nodesL l[k].els : Int))) = y + ((Stmt.nodesL l[k].body : Int) + (Stmt.nodesL l[k].els : Int)) := by simp [IntKind.wrap, IntKind.signed, IntKind.bits]; omega
      have HY := Lib.hid hy; have HXX := Lib.hid hx; clear hy hx; go_wp2; go_region_held3 (fun w' => w'.cell? ⟨b, o + k * 6 + 4, none⟩ = some (.slice A2' l[k].body.length c2') ∧ w'.cell? ⟨b, o + k * 6 + 5, none⟩ = some (.slice A3' l[k].els.length c3') ∧ Below wr.heap.size wr w')
       (first
        | exact keep45 g4 g5 hW6 (Nat.lt_of_lt_of_le hbW' (Nat.le_trans hB.size HQ.size))
        | exact keep45 g4 g5 hW5 (Nat.lt_of_lt_of_le hbW' (Nat.le_trans hB.size HQ.size))
        | exact keep45 g4 g5 (Below.refl _ _) (Nat.lt_of_lt_of_le hbW' (Nat.le_trans hB.size HQ.size))
        | exact keep45 g4 g5 (Below.refl _ _).drew (Nat.lt_of_lt_of_le hbW' (Nat.le_trans hB.size HQ.size)))
       (first
        | (go_at_call 28; have hW5 := hW5; go_must (refine (hJ.out _ (by first | exact hW5 | exact hW5.drew)).mono ?_); rintro y w6 ⟨rfl, hb6⟩; have hW6 := hW5.trans (hb6.mono hW5.size))
        | (go_at_call 28; go_must (refine (hI.out _ (by first | exact Below.refl _ _ | exact (Below.refl _ _).drew)).mono ?_); rintro y w5 ⟨rfl, hb5⟩; have hW5 : Below wr.heap.size wr w5 := (by first | exact hb5 | exact (Below.refl _ _).drew.trans hb5)))
      go_wp2; go_roundw
      case rel => exact ⟨k + 1, _, by go_num, rfl, by omega, by have := HY.out; have := HXX.out; omega, HQ.trans (hW6.mono HQ.size)⟩
      case measure => simp [intOf]; omega
   ·have hk' : k = l.length := by omega
    rw [hk', List.take_length] at hx; go_wp2; go_ret; exact ⟨congrArg (fun z => Ending.returned (.int .i64 z)) (by omega), HB⟩
end Go.Proofs.Ytjlnpppjkdcpkaa.My
