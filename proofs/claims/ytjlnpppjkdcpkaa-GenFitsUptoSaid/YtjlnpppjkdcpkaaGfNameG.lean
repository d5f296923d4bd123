/- Layer 7: the guards Great, Right: they end with a truth value and keep what was there. Conditions: the tree was there in the world W, which is kept. -/
import Derived.Test.YtjlnpppjkdcpkaaGfNameG0
namespace Go.Proofs.Ytjlnpppjkdcpkaa.My
open Go.RowKit Go.Maps
set_option maxRecDepth 100000 in
theorem count_calls (W : World) (N : Nat) : ∀ (e : Expr) (A : Option Addr) (c : Nat), e.nodes ≤ N → Expr.rds W e.args A 0 → e.nodes ≤ 1000000000 → ∀ (w : World), Below W.heap.size W w →
    Calls Try.prog 45 #[e.val A c] w fun r w' => ∃ x, r = .returned (.int .i64 x) ∧ Below w.heap.size w w' := by
  induction N with
  | zero => intro e A c hN; have := e.nodes_eq; omega
  | succ N ih =>
    intro e A c hN hrd hl w hB
    have hal := Expr.nodesL_len e.args
    have hne := e.nodes_eq
    unfold Expr.val
    go_enter Try.func45, Try.ntmps45
    go_wp2
    have HBX := Lib.hid (blk_new w (.cells #[.int .i64 e.kind, .int .i64 e.num, .string e.name, .int .i64 e.op, .slice A e.args.length c] 66))
    go_loopw [3, 4] (fun v at_ wr => ∃ (k : Nat) (x : Int), at_ = .int .i64 (k : Int) ∧ v = .int .i64 x ∧ k ≤ e.args.length ∧ Below w.heap.size w wr ∧ Hid (wr.heap[w.heap.size]? = some (.cells #[.int .i64 e.kind, .int .i64 e.num, .string e.name, .int .i64 e.op, .slice A e.args.length c] 66 (0, 0)))) (fun _ a _ => e.args.length - (intOf a).toNat)
    case atStart => exact ⟨0, 1, rfl, rfl, Nat.zero_le _, (Below.refl _ _).alloc (Nat.le_refl _) _, HBX⟩
    case round =>
      obtain ⟨k, x, rfl, rfl, hk, HB, HX⟩ := hrel
      clear HBX
      have b4 := blk_cell HX.out 4
      by_cases hlt : k < e.args.length
      · have hsz := Expr.nodesL_take e.args k hlt
        obtain ⟨b, o, A', c', rfl, hbW, g0, g1, g2, g3, g4, hc', hs', hrd'⟩ := Expr.at hrd (hB.trans (HB.mono hB.size)) hlt
        have hlt' : ((k : Int) < (e.args.length : Int)) := by omega
        have hI := ih e.args[k] A' c' (by omega) hrd' (by omega) wr (hB.trans (HB.mono hB.size))
        unfold Expr.val at hI
        go_wp2_with (go_at_call 45; go_must (refine hI.mono ?_); rintro y w1 ⟨z, rfl, hb⟩)
        go_roundw
        case rel => exact ⟨k + 1, _, by go_num, rfl, by omega, HB.trans (hb.mono HB.size), Lib.hid (below_blk hb HX.out (blk_lt HX.out))⟩
        case measure => simp [intOf]; omega
      · go_wp2
        go_ret
        exact ⟨_, rfl, HB⟩
end Go.Proofs.Ytjlnpppjkdcpkaa.My
