/- Layer 7: the guards Nodes, may, Right, Great: they end and keep what was there. Conditions: the tree was there in the world W, which is kept; it has at most 10^9 nodes. -/
import Derived.Test.YtjlnpppjkdcpkaaGmNameR2
namespace Go.Proofs.Ytjlnpppjkdcpkaa.My
open Go.RowKit Go.Maps
/-- a truth value, and what was there is kept -/
def AnyB (w : World) (e : Ending) (w' : World) : Prop := ∃ b, e = .returned (.bool b) ∧ Below w.heap.size w w'
def words : List ByteArray := [⟨#[109]⟩, ⟨#[105, 102]⟩, ⟨#[118, 97, 114]⟩, ⟨#[109, 105, 110]⟩, ⟨#[109, 97, 120]⟩, ⟨#[101, 108, 115, 101]⟩, ⟨#[101, 109, 105, 116]⟩, ⟨#[105, 110, 116, 111]⟩, ⟨#[102, 97, 105, 108]⟩, ⟨#[115, 116, 111, 112]⟩, ⟨#[119, 104, 105, 108, 101]⟩]
end Go.Proofs.Ytjlnpppjkdcpkaa.My
namespace Go.Proofs.Ytjlnpppjkdcpkaa.My
open Go.RowKit Go.Maps
set_option maxRecDepth 100000 in
theorem count_calls (W : World) (N : Nat) : ∀ (e : Expr) (A : Option Addr) (c : Nat), e.nodes ≤ N → Expr.rds W e.args A 0 → e.nodes ≤ 1000000000 → ∀ (w : World), Below W.heap.size W w →
    Calls Try.prog 45 #[e.val A c] w fun r w' => ∃ x, r = .returned (.int .i64 x) ∧ Below w.heap.size w w' := by
  induction N with
  | zero => intro e A c hN; have := e.nodes_eq; omega
  | succ N ih =>
    intro e A c hN hrd hl w hB
    have hal := Expr.nodesL_len e.args
    have hne := e.nodes_eq
    unfold Expr.val
    go_enter Try.func45, Try.ntmps45
    go_wp2
    have HBX := Lib.hid (blk_new w (.cells #[.int .i64 e.kind, .int .i64 e.num, .string e.name, .int .i64 e.op, .slice A e.args.length c] 66))
    go_loopw [3, 4] (fun v at_ wr => ∃ (k : Nat) (x : Int), at_ = .int .i64 (k : Int) ∧ v = .int .i64 x ∧ k ≤ e.args.length ∧ Below w.heap.size w wr ∧ Hid (wr.heap[w.heap.size]? = some (.cells #[.int .i64 e.kind, .int .i64 e.num, .string e.name, .int .i64 e.op, .slice A e.args.length c] 66 (0, 0)))) (fun _ a _ => e.args.length - (intOf a).toNat)
    case atStart => exact ⟨0, 1, rfl, rfl, Nat.zero_le _, (Below.refl _ _).alloc (Nat.le_refl _) _, HBX⟩
    case round =>
      obtain ⟨k, x, rfl, rfl, hk, HB, HX⟩ := hrel
      clear HBX
      have b4 := blk_cell HX.out 4
      by_cases hlt : k < e.args.length
      · have hsz := Expr.nodesL_take e.args k hlt
        obtain ⟨b, o, A', c', rfl, hbW, g0, g1, g2, g3, g4, hc', hs', hrd'⟩ := Expr.at hrd (hB.trans (HB.mono hB.size)) hlt
        have hlt' : ((k : Int) < (e.args.length : Int)) := by omega
        have hI := ih e.args[k] A' c' (by omega) hrd' (by omega) wr (hB.trans (HB.mono hB.size))
        unfold Expr.val at hI
        go_wp2_with (go_at_call 45; go_must (refine hI.mono ?_); rintro y w1 ⟨z, rfl, hb⟩)
        go_roundw
        case rel => exact ⟨k + 1, _, by go_num, rfl, by omega, HB.trans (hb.mono HB.size), Lib.hid (below_blk hb HX.out (blk_lt HX.out))⟩
        case measure => simp [intOf]; omega
      · go_wp2
        go_ret
        exact ⟨_, rfl, HB⟩
end Go.Proofs.Ytjlnpppjkdcpkaa.My
namespace Go.Proofs.Ytjlnpppjkdcpkaa.My
open Go.RowKit Go.Maps
theorem keep45 {w w' : World} {b o m : Nat} {u v : Value} (h4 : w.cell? ⟨b, o + m + 4, none⟩ = some u) (h5 : w.cell? ⟨b, o + m + 5, none⟩ = some v) (h : Below w.heap.size w w') (hb : b < w.heap.size) : w'.cell? ⟨b, o + m + 4, none⟩ = some u ∧ w'.cell? ⟨b, o + m + 5, none⟩ = some v ∧ Below w.heap.size w w' :=
  ⟨(h.cell (p := ⟨b, _, none⟩) hb).trans h4, (h.cell (p := ⟨b, _, none⟩) hb).trans h5, h⟩
set_option maxRecDepth 100000 in
theorem nodes_calls (W : World) (N : Nat) : ∀ (l : List Stmt) (A : Option Addr) (c : Nat), Stmt.nodesL l ≤ N → Stmt.rds W l A 0 → Stmt.nodesL l ≤ 1000000000 → ∀ (w : World), Below W.heap.size W w →
    Calls Try.prog 28 #[.slice A l.length c] w fun r w' => ∃ x, r = .returned (.int .i64 x) ∧ Below w.heap.size w w' := by
  induction N with
  | zero =>
    intro l A c hN hrd hl w hB
    have hal := Stmt.nodesL_len l
    have hl0 : l.length = 0 := by omega
    rw [hl0]
    go_enter Try.func28, Try.ntmps28
    go_wp2
    go_loopw [3, 4] (fun v at_ wr => at_ = .int .i64 0 ∧ (∃ x : Int, v = .int .i64 x) ∧ Below w.heap.size w wr) (fun _ _ _ => 0)
    case atStart => exact ⟨rfl, ⟨_, rfl⟩, Below.refl _ _⟩
    case round =>
      obtain ⟨rfl, ⟨x, rfl⟩, HB⟩ := hrel
      go_wp2
      go_ret
      exact ⟨_, rfl, HB⟩
  | succ N ih =>
    intro l A c hN hrd hl w hB
    have hal := Stmt.nodesL_len l
    go_enter Try.func28, Try.ntmps28
    go_wp2
    go_loopw [3, 4] (fun v at_ wr => ∃ (k : Nat) (x : Int), at_ = .int .i64 (k : Int) ∧ v = .int .i64 x ∧ k ≤ l.length ∧ Below w.heap.size w wr) (fun _ a _ => l.length - (intOf a).toNat)
    case atStart => exact ⟨0, _, rfl, rfl, Nat.zero_le _, Below.refl _ _⟩
    case round =>
      obtain ⟨k, x, rfl, rfl, hk, HB⟩ := hrel
      by_cases hlt : k < l.length
      · have hsz := Stmt.nodesL_take l k hlt
        have hne := l[k].nodes_eq
        obtain ⟨b, o, A0, c0, A2, c2, A3, c3, rfl, hbW, g0, g1, g2, g3, g4, g5, e0, e1, e2, hs', r0, r1, r2⟩ := Stmt.at hrd (hB.trans (HB.mono hB.size)) hlt
        have hlt' : ((k : Int) < (l.length : Int)) := by omega
        have hea := Expr.nodesL_len l[k].args
        go_wp2
        go_loopw [3, 5] (fun v at_ wr => ∃ (j : Nat) (y : Int), at_ = .int .i64 (j : Int) ∧ v = .int .i64 y ∧ j ≤ l[k].args.length ∧ Below w.heap.size w wr) (fun _ a _ => l[k].args.length - (intOf a).toNat)
        case atStart => exact ⟨0, _, rfl, rfl, Nat.zero_le _, HB⟩
        case round =>
          obtain ⟨j, y, rfl, rfl, hj, HQ⟩ := hrel
          clear g0 g1 g2 g3 g4 g5
          obtain ⟨b', o', A0', c0', A2', c2', A3', c3', hA, hbW', g0, g1, g2, g3, g4, g5, e0', e1', e2', hs2, r0, r1, r2⟩ := Stmt.at hrd (hB.trans (HQ.mono hB.size)) hlt
          simp only [Option.some.injEq, Addr.mk.injEq] at hA
          obtain ⟨rfl, rfl, _⟩ := hA
          by_cases hjt : j < l[k].args.length
          · have hsz2 := Expr.nodesL_take l[k].args j hjt
            have hne2 := (l[k].args[j]).nodes_eq
            obtain ⟨b3, o3, A4, c4, rfl, hbW3, q0, q1, q2, q3, q4, hc4, hs4, rd4⟩ := Expr.at r0 (hB.trans (HQ.mono hB.size)) hjt
            have hjt' : ((j : Int) < (l[k].args.length : Int)) := by omega
            have hI := count_calls W _ l[k].args[j] A4 c4 (Nat.le_refl _) rd4 (by omega) wr (hB.trans (HQ.mono hB.size))
            unfold Expr.val at hI
            go_wp2_with (go_at_call 45; go_must (refine hI.mono ?_); rintro y w1 ⟨z, rfl, hb⟩)
            go_roundw
            case rel => exact ⟨j + 1, _, by go_num, rfl, by omega, HQ.trans (hb.mono HQ.size)⟩
            case measure => simp [intOf]; omega
          · have hI := Lib.hid (fun w1 (h1 : Below wr.heap.size wr w1) => ih l[k].body A2' c2' (by omega) r1 (by omega) w1 ((hB.trans (HQ.mono hB.size)).trans (h1.mono (Nat.le_trans hB.size HQ.size))))
            have hJ := Lib.hid (fun w1 (h1 : Below wr.heap.size wr w1) => ih l[k].els A3' c3' (by omega) r2 (by omega) w1 ((hB.trans (HQ.mono hB.size)).trans (h1.mono (Nat.le_trans hB.size HQ.size))))
            go_wp2
            go_region_held3 (fun w' => w'.cell? ⟨b, o + k * 6 + 4, none⟩ = some (.slice A2' l[k].body.length c2') ∧ w'.cell? ⟨b, o + k * 6 + 5, none⟩ = some (.slice A3' l[k].els.length c3') ∧ Below wr.heap.size wr w')
              (first
                | exact keep45 g4 g5 hW6 (Nat.lt_of_lt_of_le hbW' (Nat.le_trans hB.size HQ.size))
                | exact keep45 g4 g5 hW5 (Nat.lt_of_lt_of_le hbW' (Nat.le_trans hB.size HQ.size))
                | exact keep45 g4 g5 (Below.refl _ _) (Nat.lt_of_lt_of_le hbW' (Nat.le_trans hB.size HQ.size))
                | exact keep45 g4 g5 (Below.refl _ _).drew (Nat.lt_of_lt_of_le hbW' (Nat.le_trans hB.size HQ.size)))
              (first
                | (go_at_call 28; have hW5 := hW5; go_must (refine (hJ.out _ (by first | exact hW5 | exact hW5.drew)).mono ?_); rintro y w6 ⟨z6, rfl, hb6⟩; have hW6 := hW5.trans (hb6.mono hW5.size))
                | (go_at_call 28; go_must (refine (hI.out _ (by first | exact Below.refl _ _ | exact (Below.refl _ _).drew)).mono ?_); rintro y w5 ⟨z5, rfl, hb5⟩; have hW5 : Below wr.heap.size wr w5 := (by first | exact hb5 | exact (Below.refl _ _).drew.trans hb5)))
            go_wp2
            go_roundw
            case rel => exact ⟨k + 1, _, by go_num, rfl, by omega, HQ.trans (hW6.mono HQ.size)⟩
            case measure => simp [intOf]; omega
      · go_wp2
        go_ret
        exact ⟨_, rfl, HB⟩
end Go.Proofs.Ytjlnpppjkdcpkaa.My
