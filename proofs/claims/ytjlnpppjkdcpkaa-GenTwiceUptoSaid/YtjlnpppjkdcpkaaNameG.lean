/- Layer 7: the guards Great, Right: they end with a truth value and keep what was there. Conditions: the tree was there in the world W, which is kept. -/
import Derived.Test.YtjlnpppjkdcpkaaNameG0
namespace Go.Proofs.Ytjlnpppjkdcpkaa.My
open Go.RowKit Go.Maps
set_option maxRecDepth 100000 in
theorem count_calls (W : World) (N : Nat) : ∀ (e : Expr) (A : Option Addr) (c : Nat), e.nodes ≤ N → Expr.rds W e.args A 0 → e.nodes ≤ 1000000000 → ∀ (w : World), Below W.heap.size W w →
    Calls Try.prog 45 #[e.val A c] w fun r w' => ∃ x, r = .returned (.int .i64 x) ∧ Below w.heap.size w w' := by
  induction N with
  | zero => intro e A c hN; have := e.nodes_eq; omega
  | succ N ih =>
    intro e A c hN hrd hl w hB
    have hal := Expr.nodesL_len e.args
    have hne := e.nodes_eq
    unfold Expr.val
    go_enter Try.func45, Try.ntmps45
    go_wp2
    have HBX := Lib.hid (blk_new w (.cells #[.int .i64 e.kind, .int .i64 e.num, .string e.name, .int .i64 e.op, .slice A e.args.length c] 66))
    go_loopw [3, 4] (fun v at_ wr => ∃ (k : Nat) (x : Int), at_ = .int .i64 (k : Int) ∧ v = .int .i64 x ∧ k ≤ e.args.length ∧ Below w.heap.size w wr ∧ Hid (wr.heap[w.heap.size]? = some (.cells #[.int .i64 e.kind, .int .i64 e.num, .string e.name, .int .i64 e.op, .slice A e.args.length c] 66 (0, 0)))) (fun _ a _ => e.args.length - (intOf a).toNat)
    case atStart => exact ⟨0, 1, rfl, rfl, Nat.zero_le _, (Below.refl _ _).alloc (Nat.le_refl _) _, HBX⟩
    case round =>
      obtain ⟨k, x, rfl, rfl, hk, HB, HX⟩ := hrel
      clear HBX
      have b4 := blk_cell HX.out 4
      by_cases hlt : k < e.args.length
      · have hsz := Expr.nodesL_take e.args k hlt
        obtain ⟨b, o, A', c', rfl, hbW, g0, g1, g2, g3, g4, hc', hs', hrd'⟩ := Expr.at hrd (hB.trans (HB.mono hB.size)) hlt
        have hlt' : ((k : Int) < (e.args.length : Int)) := by omega
        have hI := ih e.args[k] A' c' (by omega) hrd' (by omega) wr (hB.trans (HB.mono hB.size))
        unfold Expr.val at hI
        go_wp2_with (go_at_call 45; go_must (refine hI.mono ?_); rintro y w1 ⟨z, rfl, hb⟩)
        go_roundw
        case rel => exact ⟨k + 1, _, by go_num, rfl, by omega, HB.trans (hb.mono HB.size), Lib.hid (below_blk hb HX.out (blk_lt HX.out))⟩
        case measure => simp [intOf]; omega
      · go_wp2
        go_ret
        exact ⟨_, rfl, HB⟩
set_option maxRecDepth 100000 in
theorem deep_calls (W : World) (N : Nat) : ∀ (e : Expr) (A : Option Addr) (c : Nat), e.nodes ≤ N → Expr.rds W e.args A 0 → e.nodes ≤ 1000000000 → ∀ (w : World), Below W.heap.size W w →
    Calls Try.prog 53 #[e.val A c] w fun r w' => ∃ x, r = .returned (.int .i64 x) ∧ Below w.heap.size w w' := by
  induction N with
  | zero => intro e A c hN; have := e.nodes_eq; omega
  | succ N ih =>
    intro e A c hN hrd hl w hB
    have hal := Expr.nodesL_len e.args
    have hne := e.nodes_eq
    unfold Expr.val
    go_enter Try.func53, Try.ntmps53
    go_wp2
    have HBX := Lib.hid (blk_new w (.cells #[.int .i64 e.kind, .int .i64 e.num, .string e.name, .int .i64 e.op, .slice A e.args.length c] 66))
    go_loopw [3, 4] (fun v at_ wr => ∃ (k : Nat) (x : Int), at_ = .int .i64 (k : Int) ∧ v = .int .i64 x ∧ k ≤ e.args.length ∧ Below w.heap.size w wr ∧ Hid (wr.heap[w.heap.size]? = some (.cells #[.int .i64 e.kind, .int .i64 e.num, .string e.name, .int .i64 e.op, .slice A e.args.length c] 66 (0, 0)))) (fun _ a _ => e.args.length - (intOf a).toNat)
    case atStart => exact ⟨0, 0, rfl, rfl, Nat.zero_le _, (Below.refl _ _).alloc (Nat.le_refl _) _, HBX⟩
    case round =>
      obtain ⟨k, x, rfl, rfl, hk, HB, HX⟩ := hrel
      clear HBX
      have b4 := blk_cell HX.out 4
      by_cases hlt : k < e.args.length
      · have hsz := Expr.nodesL_take e.args k hlt
        obtain ⟨b, o, A', c', rfl, hbW, g0, g1, g2, g3, g4, hc', hs', hrd'⟩ := Expr.at hrd (hB.trans (HB.mono hB.size)) hlt
        have hlt' : ((k : Int) < (e.args.length : Int)) := by omega
        have hI := ih e.args[k] A' c' (by omega) hrd' (by omega) wr (hB.trans (HB.mono hB.size))
        unfold Expr.val at hI
        go_wp2_with (go_at_call 53; go_must (refine hI.mono ?_); rintro y w1 ⟨z, rfl, hb⟩)
        all_goals
          go_roundw
          case rel => exact ⟨k + 1, _, by go_num, rfl, by omega, HB.trans (hb.mono HB.size), Lib.hid (below_blk hb HX.out (blk_lt HX.out))⟩
          case measure => simp [intOf]; omega
      · go_wp2
        all_goals
          go_ret
          exact ⟨_, rfl, HB⟩
set_option maxRecDepth 100000 in
set_option maxHeartbeats 4000000 in
theorem fits_calls (W : World) (N : Nat) : ∀ (kk nn : Int) (ss : ByteArray) (oo : Int) (l : List Expr) (A : Option Addr) (c : Nat), Expr.nodesL l < N → Expr.rds W l A 0 → Expr.nodesL l ≤ 1000000000 → ss.size ≤ maxLen → ∀ (w : World), Below W.heap.size W w →
    Calls Try.prog 54 #[.agg #[.int .i64 kk, .int .i64 nn, .string ss, .int .i64 oo, .slice A l.length c]] w (AnyB w) := by
  induction N with
  | zero => intro kk nn ss oo l A c hN; omega
  | succ N ih =>
    intro kk nn ss oo l A c hN hrd hl hs w hB
    have hal := Expr.nodesL_len l
    have HBX := Lib.hid (blk_new w (.cells #[.int .i64 kk, .int .i64 nn, .string ss, .int .i64 oo, .slice A l.length c] 66))
    by_cases k1 : kk = 1
    · subst k1
      by_cases hm : ss.toList = []
      · by_cases ho : oo = 0
        · subst ho
          by_cases hq : l.length = 0
          · rw [hq] at HBX ⊢
            by_cases hp : 0 ≤ nn
            · have hp' : ¬ (nn < 0) := by omega
              go_enter Try.func54, Try.ntmps54
              go_wp2
              go_loopw [5] (fun at_ wr => ∃ (k : Nat), at_ = .int .i64 (k : Int) ∧ k ≤ 0 ∧ Hid (Below w.heap.size w wr) ∧ Hid (wr.heap[w.heap.size]? = some (.cells #[.int .i64 1, .int .i64 nn, .string ss, .int .i64 0, .slice A 0 c] 66 (0, 0)))) (fun a _ => 0 - (intOf a).toNat)
              case atStart => exact ⟨0, rfl, Nat.zero_le _, Lib.hid (((Below.refl _ _).alloc (Nat.le_refl _) _).alloc (by simp) _), Lib.hid (blk_alloc HBX.out _)⟩
              case round =>
                obtain ⟨k, rfl, hk, HB, HX⟩ := hrel
                clear HBX
                have b4 := blk_cell HX.out 4
                by_cases hlt : k < 0
                · exact absurd hlt (by omega)
                · go_wp2
                  go_ret
                  exact ⟨_, rfl, HB.out⟩
            · have hp' : nn < 0 := by omega
              go_enter Try.func54, Try.ntmps54
              go_wp2
              go_ret
              exact ⟨_, rfl, ((Below.refl _ _).alloc (Nat.le_refl _) _).alloc (by simp) _⟩
          · have hq' : ¬ ((l.length : Int) = 0) := by omega
            go_enter Try.func54, Try.ntmps54
            go_wp2
            go_ret
            exact ⟨_, rfl, ((Below.refl _ _).alloc (Nat.le_refl _) _).alloc (by simp) _⟩
        · have ho' : ¬ (0 = oo) := by omega
          go_enter Try.func54, Try.ntmps54
          go_wp2
          go_ret
          exact ⟨_, rfl, ((Below.refl _ _).alloc (Nat.le_refl _) _).alloc (by simp) _⟩
      · have hm' : ¬ ([] = ss.toList) := fun h => hm h.symm
        go_enter Try.func54, Try.ntmps54
        go_wp2
        go_ret
        exact ⟨_, rfl, ((Below.refl _ _).alloc (Nat.le_refl _) _).alloc (by simp) _⟩
    · by_cases k2 : kk = 2
      · subst k2
        by_cases hn : nn = 0
        · subst hn
          by_cases ho : oo = 0
          · subst ho
            by_cases hq : l.length = 0
            · rw [hq] at HBX ⊢
              go_enter Try.func54, Try.ntmps54
              go_wp2_with (go_at_call 52; go_must (refine (name3_any _ _ hs).mono ?_); rintro y w1 ⟨z, rfl, hb1⟩; have hXq := below_blk hb1 (blk_alloc HBX.out _) (by simp; omega); have q0 := blk_cell hXq 0; have q3 := blk_cell hXq 3; have q4 := blk_cell hXq 4; clear hXq)
              all_goals first
                | (go_ret; exact ⟨_, rfl, (((Below.refl _ _).alloc (Nat.le_refl _) _).alloc (by simp) _).trans (hb1.mono (by simp; omega))⟩)
                | (go_loopw [5] (fun at_ wr => ∃ (k : Nat), at_ = .int .i64 (k : Int) ∧ k ≤ 0 ∧ Hid (Below w.heap.size w wr) ∧ Hid (wr.heap[w.heap.size]? = some (.cells #[.int .i64 2, .int .i64 0, .string ss, .int .i64 0, .slice A 0 c] 66 (0, 0)))) (fun a _ => 0 - (intOf a).toNat)
                   case atStart => exact ⟨0, rfl, Nat.zero_le _, Lib.hid (((((Below.refl _ _).alloc (Nat.le_refl _) _).alloc (by simp) _).trans (hb1.mono (by simp; omega)))), Lib.hid (below_blk hb1 ((blk_alloc HBX.out _)) (by simp; omega))⟩
                   case round =>
                     obtain ⟨k, rfl, hk, HB, HX⟩ := hrel
                     clear HBX
                     have b4 := blk_cell HX.out 4
                     by_cases hlt : k < 0
                     · exact absurd hlt (by omega)
                     · go_wp2
                       go_ret
                       exact ⟨_, rfl, HB.out⟩)
            · have hq' : ¬ ((l.length : Int) = 0) := by omega
              go_enter Try.func54, Try.ntmps54
              go_wp2
              go_ret
              exact ⟨_, rfl, ((Below.refl _ _).alloc (Nat.le_refl _) _).alloc (by simp) _⟩
          · have ho' : ¬ (0 = oo) := by omega
            go_enter Try.func54, Try.ntmps54
            go_wp2
            go_ret
            exact ⟨_, rfl, ((Below.refl _ _).alloc (Nat.le_refl _) _).alloc (by simp) _⟩
        · have hn' : ¬ (0 = nn) := by omega
          go_enter Try.func54, Try.ntmps54
          go_wp2
          go_ret
          exact ⟨_, rfl, ((Below.refl _ _).alloc (Nat.le_refl _) _).alloc (by simp) _⟩
      · by_cases k3 : kk = 3
        · subst k3
          by_cases hn : nn = 0
          · subst hn
            by_cases hm : ss.toList = []
            · by_cases ho : oo = 0
              · subst ho
                by_cases hq : l.length = 1
                · rw [hq] at HBX ⊢
                  go_enter Try.func54, Try.ntmps54
                  go_wp2
                  go_loopw [5] (fun at_ wr => ∃ (k : Nat), at_ = .int .i64 (k : Int) ∧ k ≤ 1 ∧ Hid (Below w.heap.size w wr) ∧ Hid (wr.heap[w.heap.size]? = some (.cells #[.int .i64 3, .int .i64 0, .string ss, .int .i64 0, .slice A 1 c] 66 (0, 0)))) (fun a _ => 1 - (intOf a).toNat)
                  case atStart => exact ⟨0, rfl, Nat.zero_le _, Lib.hid (((Below.refl _ _).alloc (Nat.le_refl _) _).alloc (by simp) _), Lib.hid (blk_alloc HBX.out _)⟩
                  case round =>
                    obtain ⟨k, rfl, hk, HB, HX⟩ := hrel
                    clear HBX
                    have b4 := blk_cell HX.out 4
                    by_cases hlt : k < 1
                    · have hsz := Expr.nodesL_take l k (by omega)
                      obtain ⟨b, o, A', c', rfl, hbW, g0, g1, g2, g3, g4, hc', hs', hrd'⟩ := Expr.at hrd (hB.trans (HB.out.mono hB.size)) (show k < l.length by omega)
                      have hlt' : ((k : Int) < 1) := by omega
                      have hne := l[k].nodes_eq
                      have hI := ih l[k].kind l[k].num l[k].name l[k].op l[k].args A' c' (by omega) hrd' (by omega) hs' wr (hB.trans (HB.out.mono hB.size))
                      go_wp2_with (go_at_call 54; go_must (refine hI.mono ?_); rintro y w1 ⟨z, rfl, hb⟩)
                      all_goals first
                        | (go_ret; exact ⟨_, rfl, HB.out.trans (hb.mono HB.out.size)⟩)
                        | (go_roundw
                           case rel => exact ⟨k + 1, by go_num, by omega, Lib.hid (HB.out.trans (hb.mono HB.out.size)), Lib.hid (below_blk hb HX.out (blk_lt HX.out))⟩
                           case measure => simp [intOf]; omega)
                    · go_wp2
                      go_ret
                      exact ⟨_, rfl, HB.out⟩
                · have hq' : ¬ ((l.length : Int) = 1) := by omega
                  go_enter Try.func54, Try.ntmps54
                  go_wp2
                  go_ret
                  exact ⟨_, rfl, ((Below.refl _ _).alloc (Nat.le_refl _) _).alloc (by simp) _⟩
              · have ho' : ¬ (0 = oo) := by omega
                go_enter Try.func54, Try.ntmps54
                go_wp2
                go_ret
                exact ⟨_, rfl, ((Below.refl _ _).alloc (Nat.le_refl _) _).alloc (by simp) _⟩
            · have hm' : ¬ ([] = ss.toList) := fun h => hm h.symm
              go_enter Try.func54, Try.ntmps54
              go_wp2
              go_ret
              exact ⟨_, rfl, ((Below.refl _ _).alloc (Nat.le_refl _) _).alloc (by simp) _⟩
          · have hn' : ¬ (0 = nn) := by omega
            go_enter Try.func54, Try.ntmps54
            go_wp2
            go_ret
            exact ⟨_, rfl, ((Below.refl _ _).alloc (Nat.le_refl _) _).alloc (by simp) _⟩
        · by_cases k4 : kk = 4
          · subst k4
            by_cases hn : nn = 0
            · subst hn
              by_cases hm : ss.toList = []
              · by_cases hq : l.length = 1
                · rw [hq] at HBX ⊢
                  by_cases hr : oo < 19
                  · go_enter Try.func54, Try.ntmps54
                    go_wp2
                    go_ret
                    exact ⟨_, rfl, ((Below.refl _ _).alloc (Nat.le_refl _) _).alloc (by simp) _⟩
                  · by_cases hr2 : 21 < oo
                    · go_enter Try.func54, Try.ntmps54
                      go_wp2
                      go_ret
                      exact ⟨_, rfl, ((Below.refl _ _).alloc (Nat.le_refl _) _).alloc (by simp) _⟩
                    · go_enter Try.func54, Try.ntmps54
                      go_wp2
                      go_loopw [5] (fun at_ wr => ∃ (k : Nat), at_ = .int .i64 (k : Int) ∧ k ≤ 1 ∧ Hid (Below w.heap.size w wr) ∧ Hid (wr.heap[w.heap.size]? = some (.cells #[.int .i64 4, .int .i64 0, .string ss, .int .i64 oo, .slice A 1 c] 66 (0, 0)))) (fun a _ => 1 - (intOf a).toNat)
                      case atStart => exact ⟨0, rfl, Nat.zero_le _, Lib.hid (((Below.refl _ _).alloc (Nat.le_refl _) _).alloc (by simp) _), Lib.hid (blk_alloc HBX.out _)⟩
                      case round =>
                        obtain ⟨k, rfl, hk, HB, HX⟩ := hrel
                        clear HBX
                        have b4 := blk_cell HX.out 4
                        by_cases hlt : k < 1
                        · have hsz := Expr.nodesL_take l k (by omega)
                          obtain ⟨b, o, A', c', rfl, hbW, g0, g1, g2, g3, g4, hc', hs', hrd'⟩ := Expr.at hrd (hB.trans (HB.out.mono hB.size)) (show k < l.length by omega)
                          have hlt' : ((k : Int) < 1) := by omega
                          have hne := l[k].nodes_eq
                          have hI := ih l[k].kind l[k].num l[k].name l[k].op l[k].args A' c' (by omega) hrd' (by omega) hs' wr (hB.trans (HB.out.mono hB.size))
                          go_wp2_with (go_at_call 54; go_must (refine hI.mono ?_); rintro y w1 ⟨z, rfl, hb⟩)
                          all_goals first
                            | (go_ret; exact ⟨_, rfl, HB.out.trans (hb.mono HB.out.size)⟩)
                            | (go_roundw
                               case rel => exact ⟨k + 1, by go_num, by omega, Lib.hid (HB.out.trans (hb.mono HB.out.size)), Lib.hid (below_blk hb HX.out (blk_lt HX.out))⟩
                               case measure => simp [intOf]; omega)
                        · go_wp2
                          go_ret
                          exact ⟨_, rfl, HB.out⟩
                · have hq' : ¬ ((l.length : Int) = 1) := by omega
                  go_enter Try.func54, Try.ntmps54
                  go_wp2
                  go_ret
                  exact ⟨_, rfl, ((Below.refl _ _).alloc (Nat.le_refl _) _).alloc (by simp) _⟩
              · have hm' : ¬ ([] = ss.toList) := fun h => hm h.symm
                go_enter Try.func54, Try.ntmps54
                go_wp2
                go_ret
                exact ⟨_, rfl, ((Below.refl _ _).alloc (Nat.le_refl _) _).alloc (by simp) _⟩
            · have hn' : ¬ (0 = nn) := by omega
              go_enter Try.func54, Try.ntmps54
              go_wp2
              go_ret
              exact ⟨_, rfl, ((Below.refl _ _).alloc (Nat.le_refl _) _).alloc (by simp) _⟩
          · by_cases k5 : kk = 5
            · subst k5
              by_cases hn : nn = 0
              · subst hn
                by_cases hm : ss.toList = []
                · by_cases hq : l.length = 2
                  · rw [hq] at HBX ⊢
                    by_cases hr : oo < 1
                    · go_enter Try.func54, Try.ntmps54
                      go_wp2
                      go_ret
                      exact ⟨_, rfl, ((Below.refl _ _).alloc (Nat.le_refl _) _).alloc (by simp) _⟩
                    · by_cases hr2 : 18 < oo
                      · go_enter Try.func54, Try.ntmps54
                        go_wp2
                        go_ret
                        exact ⟨_, rfl, ((Below.refl _ _).alloc (Nat.le_refl _) _).alloc (by simp) _⟩
                      · go_enter Try.func54, Try.ntmps54
                        go_wp2
                        go_loopw [5] (fun at_ wr => ∃ (k : Nat), at_ = .int .i64 (k : Int) ∧ k ≤ 2 ∧ Hid (Below w.heap.size w wr) ∧ Hid (wr.heap[w.heap.size]? = some (.cells #[.int .i64 5, .int .i64 0, .string ss, .int .i64 oo, .slice A 2 c] 66 (0, 0)))) (fun a _ => 2 - (intOf a).toNat)
                        case atStart => exact ⟨0, rfl, Nat.zero_le _, Lib.hid (((Below.refl _ _).alloc (Nat.le_refl _) _).alloc (by simp) _), Lib.hid (blk_alloc HBX.out _)⟩
                        case round =>
                          obtain ⟨k, rfl, hk, HB, HX⟩ := hrel
                          clear HBX
                          have b4 := blk_cell HX.out 4
                          by_cases hlt : k < 2
                          · have hsz := Expr.nodesL_take l k (by omega)
                            obtain ⟨b, o, A', c', rfl, hbW, g0, g1, g2, g3, g4, hc', hs', hrd'⟩ := Expr.at hrd (hB.trans (HB.out.mono hB.size)) (show k < l.length by omega)
                            have hlt' : ((k : Int) < 2) := by omega
                            have hne := l[k].nodes_eq
                            have hI := ih l[k].kind l[k].num l[k].name l[k].op l[k].args A' c' (by omega) hrd' (by omega) hs' wr (hB.trans (HB.out.mono hB.size))
                            go_wp2_with (go_at_call 54; go_must (refine hI.mono ?_); rintro y w1 ⟨z, rfl, hb⟩)
                            all_goals first
                              | (go_ret; exact ⟨_, rfl, HB.out.trans (hb.mono HB.out.size)⟩)
                              | (go_roundw
                                 case rel => exact ⟨k + 1, by go_num, by omega, Lib.hid (HB.out.trans (hb.mono HB.out.size)), Lib.hid (below_blk hb HX.out (blk_lt HX.out))⟩
                                 case measure => simp [intOf]; omega)
                          · go_wp2
                            go_ret
                            exact ⟨_, rfl, HB.out⟩
                  · have hq' : ¬ ((l.length : Int) = 2) := by omega
                    go_enter Try.func54, Try.ntmps54
                    go_wp2
                    go_ret
                    exact ⟨_, rfl, ((Below.refl _ _).alloc (Nat.le_refl _) _).alloc (by simp) _⟩
                · have hm' : ¬ ([] = ss.toList) := fun h => hm h.symm
                  go_enter Try.func54, Try.ntmps54
                  go_wp2
                  go_ret
                  exact ⟨_, rfl, ((Below.refl _ _).alloc (Nat.le_refl _) _).alloc (by simp) _⟩
              · have hn' : ¬ (0 = nn) := by omega
                go_enter Try.func54, Try.ntmps54
                go_wp2
                go_ret
                exact ⟨_, rfl, ((Below.refl _ _).alloc (Nat.le_refl _) _).alloc (by simp) _⟩
            · have k1' : (kk == 1) = false := by simp [k1]
              have k2' : (kk == 2) = false := by simp [k2]
              have k3' : (kk == 3) = false := by simp [k3]
              have k4' : (kk == 4) = false := by simp [k4]
              have k5' : (kk == 5) = false := by simp [k5]
              go_enter Try.func54, Try.ntmps54
              go_wp2
              go_ret
              exact ⟨_, rfl, ((Below.refl _ _).alloc (Nat.le_refl _) _).alloc (by simp) _⟩
end Go.Proofs.Ytjlnpppjkdcpkaa.My
