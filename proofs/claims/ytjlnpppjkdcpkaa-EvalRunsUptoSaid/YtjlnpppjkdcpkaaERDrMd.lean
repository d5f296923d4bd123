/- What the document's may says of statements of the kinds 6 (0: of none), exactly. Conditions: the tree was there in the world W, which is kept; it has at most 10^9 nodes. -/
import Derived.Test.YtjlnpppjkdcpkaaERDrMa
namespace Go.Proofs.Ytjlnpppjkdcpkaa.My
open Go.RowKit Go.Maps
set_option linter.unusedVariables false
set_option linter.unusedSimpArgs false
set_option maxRecDepth 100000 in
set_option maxHeartbeats 4000000 in
theorem docMay_6 (W : World) (N : Nat) (ih : MayIs W N) (ss : ByteArray) (cc : Int) (la : List Expr) (lb le : List Stmt) (A0 : Option Addr) (c0 : Nat) (A1 : Option Addr) (c1 : Nat) (A2 : Option Addr) (c2 : Nat) (n : Nat) (hN : Expr.nodesL la + Stmt.nodesL lb + Stmt.nodesL le < N + 1) (hrd0 : Expr.rds W la A0 0) (hrd1 : Stmt.rds W lb A1 0) (hrd2 : Stmt.rds W le A2 0) (hl : Expr.nodesL la + Stmt.nodesL lb + Stmt.nodesL le ≤ 1000000000) (hs : ss.size ≤ maxLen) (w : World) (hB : Below W.heap.size W w) :
  Calls Try.prog 36 #[.agg #[.int .i64 6, .string ss, .int .i64 cc, .slice A0 la.length c0, .slice A1 lb.length c1, .slice A2 le.length c2], .int .i64 (n : Int)] w (IsB (mayX 6 ss cc la lb le n) w) := by
 have hal := Expr.nodesL_len la; have hbl := Stmt.nodesL_len lb; have hel := Stmt.nodesL_len le; have HBX := Lib.hid (blk_new w (.cells #[.int .i64 6, .string ss, .int .i64 cc, .slice A0 la.length c0, .slice A1 lb.length c1, .slice A2 le.length c2] 36)); by_cases hm : ss.toList = []
 ·have hnf : nameB ss = false := nameB_none hm
  by_cases ho : cc = 0
  ·subst ho
   by_cases hq : la.length = 1
   ·have hq9 : (la.length : Int) = 1 := by omega
    rw [hq] at HBX ⊢; by_cases hl12 : n < 12
    ·have hl12' : ¬ ((n : Int) ≥ 12) := by omega
     have hcast : ((n + 1 : Nat) : Int) = (n : Int) + 1 := by omega
     rw [show mayX 6 ss 0 la lb le n = (Expr.rightsB nameB 1 la && Stmt.rightsB nameB (n + 1) lb && Stmt.rightsB nameB (n + 1) le) by rw [mayX, elsB_eq le (by omega), bodyB_eq 6 lb (Or.inl rfl) (by omega)]; simp [mayX, headB, wantA, ss_empty, hm, hnf, hq, hq9]]
     clear hq9; go_enter Try.func36, Try.ntmps36
     go_wp2; go_region
     all_goals go_wp2
     all_goals (
      go_loopw [9] (fun at_ wr => ∃ (k : Nat), at_ = .int .i64 (k : Int) ∧ k ≤ 1 ∧ Hid (Expr.rightsB nameB 1 (la.take k) = true) ∧ Hid (Below w.heap.size w wr) ∧ Hid (wr.heap[w.heap.size]? = some (.cells #[.int .i64 6, .string ss, .int .i64 0, .slice A0 1 c0, .slice A1 lb.length c1, .slice A2 le.length c2] 36 (0, 0)))) (fun a _ => 1 - (intOf a).toNat)
      case atStart => exact ⟨0, rfl, Nat.zero_le _, Lib.hid (by simp [Expr.rightsB]), Lib.hid ((((Below.refl _ _).alloc (Nat.le_refl _) _).alloc (by simp) _).drew), Lib.hid (blk_alloc HBX.out _)⟩
      case round =>
       obtain ⟨k, rfl, hk, HP, HB, HX⟩ := hrel; clear HBX; have b3 := blk_cell HX.out 3; by_cases hlt : k < 1
       ·have hsz := Expr.nodesL_take la k (by omega)
        have hne := la[k].nodes_eq; obtain ⟨b, o, A', c', rfl, hbW, g0, g1, g2, g3, g4, hc', hs', hrd'⟩ := Expr.at hrd0 (hB.trans (HB.out.mono hB.size)) (show k < la.length by omega)
        have hlt' : ((k : Int) < 1) := by omega
        have hI := docDeep_calls W _ la[k] A' c' (Nat.le_refl _) hrd' (by omega) wr (hB.trans (HB.out.mono hB.size))
        have hJ := Lib.hid (fun w5 (h5 : Below wr.heap.size wr w5) => (Expr.fitsB_eq la[k]) ▸ docFits_calls W _ la[k].kind la[k].num la[k].name la[k].op la[k].args A' c' (Nat.lt_succ_self _) hrd' (by omega) hs' w5 ((hB.trans (HB.out.mono hB.size)).trans (h5.mono (Nat.le_trans hB.size HB.out.size))))
        unfold Expr.val at hI
        have hbw : b < wr.heap.size := Nat.lt_of_lt_of_le hbW (Nat.le_trans hB.size HB.out.size)
        have hX3 := HX.out; by_cases hd : (la[k]).deepN ≤ 48
        ·by_cases hz : (la[k]).fitsB = true
         ·have HS := Lib.hid (show Expr.rightsB nameB 1 (la.take (k + 1)) = true by rw [Expr.rightsB_succ _ _ la k (by omega), HP.out, Expr.rightB_deep1, hz]; simp [hd])
          have HZ := Lib.hid hz; have hd' : ¬ ((48 : Int) < ((la[k]).deepN : Int)) := by omega
          clear hz; go_wp2_with (first
           | (go_at_call 54; go_must (refine (hJ.out _ hb5).mono ?_); rintro y w6 ⟨rfl, hb6⟩; rw [HZ.out]; have hb := hb5.trans (hb6.mono hb5.size))
           | (go_at_call 53; go_must (refine hI.mono ?_); rintro y w5 ⟨rfl, hb5⟩; have d3 := blk_cell (below_blk hb5 hX3 (blk_lt hX3)) 3; have e0 := (hb5.cell (p := ⟨b, _, none⟩) hbw).trans g0; have e1 := (hb5.cell (p := ⟨b, _, none⟩) hbw).trans g1; have e2 := (hb5.cell (p := ⟨b, _, none⟩) hbw).trans g2; have e3 := (hb5.cell (p := ⟨b, _, none⟩) hbw).trans g3; have e4 := (hb5.cell (p := ⟨b, _, none⟩) hbw).trans g4))
          go_roundw
          case rel => exact ⟨k + 1, by go_num, by omega, HS, Lib.hid (HB.out.trans (hb.mono HB.out.size)), Lib.hid (below_blk hb HX.out (blk_lt HX.out))⟩
          case measure => simp [intOf]; omega
         ·have HZ := Lib.hid (show (la[k]).fitsB = false by simpa using hz)
          have HS := Lib.hid (show (Expr.rightsB nameB 1 la && Stmt.rightsB nameB (n + 1) lb && Stmt.rightsB nameB (n + 1) le) = false by rw [Expr.rightsB_bad _ _ la k (by omega) (by rw [Expr.rightB_deep1, HZ.out]; simp)]; rfl)
          have hd' : ¬ ((48 : Int) < ((la[k]).deepN : Int)) := by omega
          clear hz; go_wp2_with (first
           | (go_at_call 54; go_must (refine (hJ.out _ hb5).mono ?_); rintro y w6 ⟨rfl, hb6⟩; rw [HZ.out]; have hb := hb5.trans (hb6.mono hb5.size))
           | (go_at_call 53; go_must (refine hI.mono ?_); rintro y w5 ⟨rfl, hb5⟩; have d3 := blk_cell (below_blk hb5 hX3 (blk_lt hX3)) 3; have e0 := (hb5.cell (p := ⟨b, _, none⟩) hbw).trans g0; have e1 := (hb5.cell (p := ⟨b, _, none⟩) hbw).trans g1; have e2 := (hb5.cell (p := ⟨b, _, none⟩) hbw).trans g2; have e3 := (hb5.cell (p := ⟨b, _, none⟩) hbw).trans g3; have e4 := (hb5.cell (p := ⟨b, _, none⟩) hbw).trans g4))
          go_ret; exact ⟨congrArg (fun b => Ending.returned (.bool b)) HS.out.symm, HB.out.trans (hb.mono HB.out.size)⟩
        ·have HS := Lib.hid (show (Expr.rightsB nameB 1 la && Stmt.rightsB nameB (n + 1) lb && Stmt.rightsB nameB (n + 1) le) = false by rw [Expr.rightsB_bad _ _ la k (by omega) (by rw [Expr.rightB_deep1]; simp [hd])]; rfl)
         have hd' : ((48 : Int) < ((la[k]).deepN : Int)) := by omega
         clear hd; go_wp2_with (go_at_call 53; go_must (refine hI.mono ?_); rintro y w5 ⟨rfl, hb5⟩; have d3 := blk_cell (below_blk hb5 hX3 (blk_lt hX3)) 3; have e0 := (hb5.cell (p := ⟨b, _, none⟩) hbw).trans g0; have e1 := (hb5.cell (p := ⟨b, _, none⟩) hbw).trans g1; have e2 := (hb5.cell (p := ⟨b, _, none⟩) hbw).trans g2; have e3 := (hb5.cell (p := ⟨b, _, none⟩) hbw).trans g3; have e4 := (hb5.cell (p := ⟨b, _, none⟩) hbw).trans g4)
         go_ret; exact ⟨congrArg (fun b => Ending.returned (.bool b)) HS.out.symm, HB.out.trans (hb5.mono HB.out.size)⟩
       ·have hkl : k = la.length := by omega
        have HPA := Lib.hid (show Expr.rightsB nameB 1 la = true by have h1 := HP.out; rwa [hkl, List.take_length] at h1)
        clear hkl; go_wp2; go_loopw [10] (fun at_ wr => ∃ (k : Nat), at_ = .int .i64 (k : Int) ∧ k ≤ lb.length ∧ Hid (Stmt.rightsB nameB (n + 1) (lb.take k) = true) ∧ Hid (Below w.heap.size w wr) ∧ Hid (wr.heap[w.heap.size]? = some (.cells #[.int .i64 6, .string ss, .int .i64 0, .slice A0 1 c0, .slice A1 lb.length c1, .slice A2 le.length c2] 36 (0, 0)))) (fun a _ => lb.length - (intOf a).toNat)
        case atStart => exact ⟨0, rfl, Nat.zero_le _, Lib.hid (by simp [Stmt.rightsB]), HB, HX⟩
        case round =>
         obtain ⟨k, rfl, hk, HP, HB, HX⟩ := hrel; have b3 := blk_cell HX.out 4; by_cases hlt : k < lb.length
         ·have hsz := Stmt.nodesL_take lb k (by omega)
          have hne := lb[k].nodes_eq; obtain ⟨b, o, B0, d0, B1, d1, B2, d2, rfl, hbW, g0, g1, g2, g3, g4, g5, e0, e1, e2, hs', r0, r1, r2⟩ := Stmt.at hrd1 (hB.trans (HB.out.mono hB.size)) (show k < lb.length by omega)
          have hlt' : ((k : Int) < (lb.length : Int)) := by omega
          have hI0 := ih lb[k].kind lb[k].name lb[k].cell lb[k].args lb[k].body lb[k].els B0 d0 B1 d1 B2 d2 (n + 1) (by omega) r0 r1 r2 (by omega) hs' wr (hB.trans (HB.out.mono hB.size))
          rw [mayX_eq, hcast] at hI0; have hI := Lib.hid hI0; clear hI0; by_cases hz : (lb[k]).rightB nameB (n + 1) = true
          ·have HS := Lib.hid (show Stmt.rightsB nameB (n + 1) (lb.take (k + 1)) = true by rw [Stmt.rightsB_succ _ _ lb k (by omega), HP.out, hz]; rfl)
           have HZ := Lib.hid hz; clear hz; go_wp2_with (go_at_call 36; go_must (refine hI.out.mono ?_); rintro y w6 ⟨rfl, hb⟩; rw [HZ.out])
           go_roundw
           case rel => exact ⟨k + 1, by go_num, by omega, HS, Lib.hid (HB.out.trans (hb.mono HB.out.size)), Lib.hid (below_blk hb HX.out (blk_lt HX.out))⟩
           case measure => simp [intOf]; omega
          ·have HZ := Lib.hid (show (lb[k]).rightB nameB (n + 1) = false by simpa using hz)
           have HS := Lib.hid (show (Expr.rightsB nameB 1 la && Stmt.rightsB nameB (n + 1) lb && Stmt.rightsB nameB (n + 1) le) = false by rw [Stmt.rightsB_bad _ _ lb k (by omega) HZ.out]; simp)
           clear hz; go_wp2_with (go_at_call 36; go_must (refine hI.out.mono ?_); rintro y w6 ⟨rfl, hb⟩; rw [HZ.out])
           go_ret; exact ⟨congrArg (fun b => Ending.returned (.bool b)) HS.out.symm, HB.out.trans (hb.mono HB.out.size)⟩
         ·have hkl : k = lb.length := by omega
          have HPB := Lib.hid (show Stmt.rightsB nameB (n + 1) lb = true by have h1 := HP.out; rwa [hkl, List.take_length] at h1)
          clear hkl; go_wp2; go_loopw [11] (fun at_ wr => ∃ (k : Nat), at_ = .int .i64 (k : Int) ∧ k ≤ le.length ∧ Hid (Stmt.rightsB nameB (n + 1) (le.take k) = true) ∧ Hid (Below w.heap.size w wr) ∧ Hid (wr.heap[w.heap.size]? = some (.cells #[.int .i64 6, .string ss, .int .i64 0, .slice A0 1 c0, .slice A1 lb.length c1, .slice A2 le.length c2] 36 (0, 0)))) (fun a _ => le.length - (intOf a).toNat)
          case atStart => exact ⟨0, rfl, Nat.zero_le _, Lib.hid (by simp [Stmt.rightsB]), HB, HX⟩
          case round =>
           obtain ⟨k, rfl, hk, HP, HB, HX⟩ := hrel; have b3 := blk_cell HX.out 5; by_cases hlt : k < le.length
           ·have hsz := Stmt.nodesL_take le k (by omega)
            have hne := le[k].nodes_eq; obtain ⟨b, o, B0, d0, B1, d1, B2, d2, rfl, hbW, g0, g1, g2, g3, g4, g5, e0, e1, e2, hs', r0, r1, r2⟩ := Stmt.at hrd2 (hB.trans (HB.out.mono hB.size)) (show k < le.length by omega)
            have hlt' : ((k : Int) < (le.length : Int)) := by omega
            have hI0 := ih le[k].kind le[k].name le[k].cell le[k].args le[k].body le[k].els B0 d0 B1 d1 B2 d2 (n + 1) (by omega) r0 r1 r2 (by omega) hs' wr (hB.trans (HB.out.mono hB.size))
            rw [mayX_eq, hcast] at hI0; have hI := Lib.hid hI0; clear hI0; by_cases hz : (le[k]).rightB nameB (n + 1) = true
            ·have HS := Lib.hid (show Stmt.rightsB nameB (n + 1) (le.take (k + 1)) = true by rw [Stmt.rightsB_succ _ _ le k (by omega), HP.out, hz]; rfl)
             have HZ := Lib.hid hz; clear hz; go_wp2_with (go_at_call 36; go_must (refine hI.out.mono ?_); rintro y w6 ⟨rfl, hb⟩; rw [HZ.out])
             go_roundw
             case rel => exact ⟨k + 1, by go_num, by omega, HS, Lib.hid (HB.out.trans (hb.mono HB.out.size)), Lib.hid (below_blk hb HX.out (blk_lt HX.out))⟩
             case measure => simp [intOf]; omega
            ·have HZ := Lib.hid (show (le[k]).rightB nameB (n + 1) = false by simpa using hz)
             have HS := Lib.hid (show (Expr.rightsB nameB 1 la && Stmt.rightsB nameB (n + 1) lb && Stmt.rightsB nameB (n + 1) le) = false by rw [Stmt.rightsB_bad _ _ le k (by omega) HZ.out]; simp)
             clear hz; go_wp2_with (go_at_call 36; go_must (refine hI.out.mono ?_); rintro y w6 ⟨rfl, hb⟩; rw [HZ.out])
             go_ret; exact ⟨congrArg (fun b => Ending.returned (.bool b)) HS.out.symm, HB.out.trans (hb.mono HB.out.size)⟩
           ·have hkl : k = le.length := by omega
            have HS := Lib.hid (show (Expr.rightsB nameB 1 la && Stmt.rightsB nameB (n + 1) lb && Stmt.rightsB nameB (n + 1) le) = true by have h1 := HP.out; rw [hkl, List.take_length] at h1; rw [HPA.out, HPB.out, h1]; rfl)
            go_wp2; go_ret; exact ⟨congrArg (fun b => Ending.returned (.bool b)) HS.out.symm, HB.out⟩)
    ·have hl12' : (n : Int) ≥ 12 := by omega
     rw [show mayX 6 ss 0 la lb le n = false by simp [mayX, headB, wantA, ss_empty, bodyB_bad 6 lb (Or.inl rfl) (show ¬ n + 1 ≤ 12 by omega)]]
     go_enter Try.func36, Try.ntmps36
     go_wp2; go_region
     all_goals go_wp2
     all_goals
      go_ret; exact ⟨rfl, (((Below.refl _ _).alloc (Nat.le_refl _) _).alloc (by simp) _).drew⟩
   ·have hq' : ¬ ((la.length : Int) = 1) := by omega
    rw [show mayX 6 ss 0 la lb le n = false by simp [mayX, headB, wantA, ss_empty, hm, hnf, hq, hq']]
    go_enter Try.func36, Try.ntmps36
    go_wp2; go_region
    all_goals go_wp2
    all_goals
     go_ret; exact ⟨rfl, (((Below.refl _ _).alloc (Nat.le_refl _) _).alloc (by simp) _).drew⟩
  ·have ho' : ¬ (0 = cc) := by omega
   rw [show mayX 6 ss cc la lb le n = false by simp [mayX, headB, wantA, ss_empty, hm, hnf, ho]]
   go_enter Try.func36, Try.ntmps36
   go_wp2; go_region
   all_goals go_wp2
   all_goals
    go_ret; exact ⟨rfl, (((Below.refl _ _).alloc (Nat.le_refl _) _).alloc (by simp) _).drew⟩
 ·have hm' : ¬ ([] = ss.toList) := fun h => hm h.symm
  rw [show mayX 6 ss cc la lb le n = false by simp [mayX, headB, wantA, ss_empty, hm]]
  go_enter Try.func36, Try.ntmps36
  go_wp2; go_region
  all_goals go_wp2
  all_goals
   go_ret; exact ⟨rfl, (((Below.refl _ _).alloc (Nat.le_refl _) _).alloc (by simp) _).drew⟩
end Go.Proofs.Ytjlnpppjkdcpkaa.My
