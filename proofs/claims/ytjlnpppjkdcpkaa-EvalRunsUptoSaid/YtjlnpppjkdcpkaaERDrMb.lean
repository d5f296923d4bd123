/- What the document's may says of statements of the kinds 2, 3 (0: of none), exactly. Conditions: the tree was there in the world W, which is kept; it has at most 10^9 nodes. -/
import Derived.Test.YtjlnpppjkdcpkaaERDrMa
namespace Go.Proofs.Ytjlnpppjkdcpkaa.My
open Go.RowKit Go.Maps
set_option linter.unusedVariables false
set_option linter.unusedSimpArgs false
set_option maxRecDepth 100000 in
set_option maxHeartbeats 4000000 in
theorem docMay_2 (W : World) (N : Nat) (ih : MayIs W N) (ss : ByteArray) (cc : Int) (la : List Expr) (lb le : List Stmt) (A0 : Option Addr) (c0 : Nat) (A1 : Option Addr) (c1 : Nat) (A2 : Option Addr) (c2 : Nat) (n : Nat) (hN : Expr.nodesL la + Stmt.nodesL lb + Stmt.nodesL le < N + 1) (hrd0 : Expr.rds W la A0 0) (hrd1 : Stmt.rds W lb A1 0) (hrd2 : Stmt.rds W le A2 0) (hl : Expr.nodesL la + Stmt.nodesL lb + Stmt.nodesL le ≤ 1000000000) (hs : ss.size ≤ maxLen) (w : World) (hB : Below W.heap.size W w) :
  Calls Try.prog 36 #[.agg #[.int .i64 2, .string ss, .int .i64 cc, .slice A0 la.length c0, .slice A1 lb.length c1, .slice A2 le.length c2], .int .i64 (n : Int)] w (IsB (mayX 2 ss cc la lb le n) w) := by
 have hal := Expr.nodesL_len la; have hbl := Stmt.nodesL_len lb; have hel := Stmt.nodesL_len le; have HBX := Lib.hid (blk_new w (.cells #[.int .i64 2, .string ss, .int .i64 cc, .slice A0 la.length c0, .slice A1 lb.length c1, .slice A2 le.length c2] 36)); by_cases hnm : nameB ss = true
 ·have HNM := Lib.hid hnm
  by_cases ho : cc = 0
  ·subst ho
   by_cases hq : la.length = 1
   ·have hq9 : (la.length : Int) = 1 := by omega
    rw [hq] at HBX ⊢; by_cases hqb : lb.length = 0
    ·rw [hqb] at HBX ⊢
     by_cases hqe : le.length = 0
     ·rw [hqe] at HBX ⊢
      have hcast : ((n + 1 : Nat) : Int) = (n : Int) + 1 := by omega
      have hlb : lb = [] := List.eq_nil_of_length_eq_zero hqb
      have hle : le = [] := List.eq_nil_of_length_eq_zero hqe
      rw [show mayX 2 ss 0 la lb le n = (Expr.rightsB nameB 1 la && Stmt.rightsB nameB (n + 1) lb && Stmt.rightsB nameB (n + 1) le) by simp [mayX, headB, wantA, ss_empty, hnm, hq, hq9, hle, hlb, elsB, bodyB, Stmt.rightsB]]
      clear hq9; clear hlb; clear hle; go_enter Try.func36, Try.ntmps36
      go_wp2_with (go_at_call 52; go_must (refine (docName_calls _ _ hs).mono ?_); rintro y w1 ⟨rfl, hb1⟩; rw [HNM.out]; have hXq := below_blk hb1 (blk_alloc HBX.out _) (by simp; omega); have q0 := blk_cell hXq 0; have q1 := blk_cell hXq 1; have q2 := blk_cell hXq 2; have q3 := blk_cell hXq 3; have q4 := blk_cell hXq 4; have q5 := blk_cell hXq 5; have y0 := (hb1.cell (p := ⟨w.heap.size + 1, 1, none⟩) (by simp)); have y2 := (hb1.cell (p := ⟨w.heap.size + 1, 2, none⟩) (by simp)); clear hXq)
      all_goals (
       go_loopw [9] (fun at_ wr => ∃ (k : Nat), at_ = .int .i64 (k : Int) ∧ k ≤ 1 ∧ Hid (Expr.rightsB nameB 1 (la.take k) = true) ∧ Hid (Below w.heap.size w wr) ∧ Hid (wr.heap[w.heap.size]? = some (.cells #[.int .i64 2, .string ss, .int .i64 0, .slice A0 1 c0, .slice A1 0 c1, .slice A2 0 c2] 36 (0, 0)))) (fun a _ => 1 - (intOf a).toNat)
       case atStart => exact ⟨0, rfl, Nat.zero_le _, Lib.hid (by simp [Expr.rightsB]), Lib.hid ((((Below.refl _ _).alloc (Nat.le_refl _) _).alloc (by simp) _).trans (hb1.mono (by simp; omega))), Lib.hid (below_blk hb1 (blk_alloc HBX.out _) (by simp; omega))⟩
       case round =>
        obtain ⟨k, rfl, hk, HP, HB, HX⟩ := hrel; clear HBX; have b3 := blk_cell HX.out 3; by_cases hlt : k < 1
        ·have hsz := Expr.nodesL_take la k (by omega)
         have hne := la[k].nodes_eq; obtain ⟨b, o, A', c', rfl, hbW, g0, g1, g2, g3, g4, hc', hs', hrd'⟩ := Expr.at hrd0 (hB.trans (HB.out.mono hB.size)) (show k < la.length by omega)
         have hlt' : ((k : Int) < 1) := by omega
         have hI := docDeep_calls W _ la[k] A' c' (Nat.le_refl _) hrd' (by omega) wr (hB.trans (HB.out.mono hB.size))
         have hJ := Lib.hid (fun w5 (h5 : Below wr.heap.size wr w5) => (Expr.fitsB_eq la[k]) ▸ docFits_calls W _ la[k].kind la[k].num la[k].name la[k].op la[k].args A' c' (Nat.lt_succ_self _) hrd' (by omega) hs' w5 ((hB.trans (HB.out.mono hB.size)).trans (h5.mono (Nat.le_trans hB.size HB.out.size))))
         unfold Expr.val at hI
         have hbw : b < wr.heap.size := Nat.lt_of_lt_of_le hbW (Nat.le_trans hB.size HB.out.size)
         have hX3 := HX.out; by_cases hd : (la[k]).deepN ≤ 48
         ·by_cases hz : (la[k]).fitsB = true
          ·have HS := Lib.hid (show Expr.rightsB nameB 1 (la.take (k + 1)) = true by rw [Expr.rightsB_succ _ _ la k (by omega), HP.out, Expr.rightB_deep1, hz]; simp [hd])
           have HZ := Lib.hid hz; have hd' : ¬ ((48 : Int) < ((la[k]).deepN : Int)) := by omega
           clear hz; go_wp2_with (first
            | (go_at_call 54; go_must (refine (hJ.out _ hb5).mono ?_); rintro y w6 ⟨rfl, hb6⟩; rw [HZ.out]; have hb := hb5.trans (hb6.mono hb5.size))
            | (go_at_call 53; go_must (refine hI.mono ?_); rintro y w5 ⟨rfl, hb5⟩; have d3 := blk_cell (below_blk hb5 hX3 (blk_lt hX3)) 3; have e0 := (hb5.cell (p := ⟨b, _, none⟩) hbw).trans g0; have e1 := (hb5.cell (p := ⟨b, _, none⟩) hbw).trans g1; have e2 := (hb5.cell (p := ⟨b, _, none⟩) hbw).trans g2; have e3 := (hb5.cell (p := ⟨b, _, none⟩) hbw).trans g3; have e4 := (hb5.cell (p := ⟨b, _, none⟩) hbw).trans g4))
           go_roundw
           case rel => exact ⟨k + 1, by go_num, by omega, HS, Lib.hid (HB.out.trans (hb.mono HB.out.size)), Lib.hid (below_blk hb HX.out (blk_lt HX.out))⟩
           case measure => simp [intOf]; omega
          ·have HZ := Lib.hid (show (la[k]).fitsB = false by simpa using hz)
           have HS := Lib.hid (show (Expr.rightsB nameB 1 la && Stmt.rightsB nameB (n + 1) lb && Stmt.rightsB nameB (n + 1) le) = false by rw [Expr.rightsB_bad _ _ la k (by omega) (by rw [Expr.rightB_deep1, HZ.out]; simp)]; rfl)
           have hd' : ¬ ((48 : Int) < ((la[k]).deepN : Int)) := by omega
           clear hz; go_wp2_with (first
            | (go_at_call 54; go_must (refine (hJ.out _ hb5).mono ?_); rintro y w6 ⟨rfl, hb6⟩; rw [HZ.out]; have hb := hb5.trans (hb6.mono hb5.size))
            | (go_at_call 53; go_must (refine hI.mono ?_); rintro y w5 ⟨rfl, hb5⟩; have d3 := blk_cell (below_blk hb5 hX3 (blk_lt hX3)) 3; have e0 := (hb5.cell (p := ⟨b, _, none⟩) hbw).trans g0; have e1 := (hb5.cell (p := ⟨b, _, none⟩) hbw).trans g1; have e2 := (hb5.cell (p := ⟨b, _, none⟩) hbw).trans g2; have e3 := (hb5.cell (p := ⟨b, _, none⟩) hbw).trans g3; have e4 := (hb5.cell (p := ⟨b, _, none⟩) hbw).trans g4))
           go_ret; exact ⟨congrArg (fun b => Ending.returned (.bool b)) HS.out.symm, HB.out.trans (hb.mono HB.out.size)⟩
         ·have HS := Lib.hid (show (Expr.rightsB nameB 1 la && Stmt.rightsB nameB (n + 1) lb && Stmt.rightsB nameB (n + 1) le) = false by rw [Expr.rightsB_bad _ _ la k (by omega) (by rw [Expr.rightB_deep1]; simp [hd])]; rfl)
          have hd' : ((48 : Int) < ((la[k]).deepN : Int)) := by omega
          clear hd; go_wp2_with (go_at_call 53; go_must (refine hI.mono ?_); rintro y w5 ⟨rfl, hb5⟩; have d3 := blk_cell (below_blk hb5 hX3 (blk_lt hX3)) 3; have e0 := (hb5.cell (p := ⟨b, _, none⟩) hbw).trans g0; have e1 := (hb5.cell (p := ⟨b, _, none⟩) hbw).trans g1; have e2 := (hb5.cell (p := ⟨b, _, none⟩) hbw).trans g2; have e3 := (hb5.cell (p := ⟨b, _, none⟩) hbw).trans g3; have e4 := (hb5.cell (p := ⟨b, _, none⟩) hbw).trans g4)
          go_ret; exact ⟨congrArg (fun b => Ending.returned (.bool b)) HS.out.symm, HB.out.trans (hb5.mono HB.out.size)⟩
        ·have hkl : k = la.length := by omega
         have HPA := Lib.hid (show Expr.rightsB nameB 1 la = true by have h1 := HP.out; rwa [hkl, List.take_length] at h1)
         clear hkl; go_wp2; go_loopw [10] (fun at_ wr => ∃ (k : Nat), at_ = .int .i64 (k : Int) ∧ k ≤ 0 ∧ Hid (Stmt.rightsB nameB (n + 1) (lb.take k) = true) ∧ Hid (Below w.heap.size w wr) ∧ Hid (wr.heap[w.heap.size]? = some (.cells #[.int .i64 2, .string ss, .int .i64 0, .slice A0 1 c0, .slice A1 0 c1, .slice A2 0 c2] 36 (0, 0)))) (fun a _ => 0 - (intOf a).toNat)
         case atStart => exact ⟨0, rfl, Nat.zero_le _, Lib.hid (by simp [Stmt.rightsB]), HB, HX⟩
         case round =>
          obtain ⟨k, rfl, hk, HP, HB, HX⟩ := hrel; have b3 := blk_cell HX.out 4; by_cases hlt : k < 0
          ·exact absurd hlt (by omega)
          ·have hkl : k = lb.length := by omega
           have HPB := Lib.hid (show Stmt.rightsB nameB (n + 1) lb = true by have h1 := HP.out; rwa [hkl, List.take_length] at h1)
           clear hkl; go_wp2; go_loopw [11] (fun at_ wr => ∃ (k : Nat), at_ = .int .i64 (k : Int) ∧ k ≤ 0 ∧ Hid (Stmt.rightsB nameB (n + 1) (le.take k) = true) ∧ Hid (Below w.heap.size w wr) ∧ Hid (wr.heap[w.heap.size]? = some (.cells #[.int .i64 2, .string ss, .int .i64 0, .slice A0 1 c0, .slice A1 0 c1, .slice A2 0 c2] 36 (0, 0)))) (fun a _ => 0 - (intOf a).toNat)
           case atStart => exact ⟨0, rfl, Nat.zero_le _, Lib.hid (by simp [Stmt.rightsB]), HB, HX⟩
           case round =>
            obtain ⟨k, rfl, hk, HP, HB, HX⟩ := hrel; have b3 := blk_cell HX.out 5; by_cases hlt : k < 0
            ·exact absurd hlt (by omega)
            ·have hkl : k = le.length := by omega
             have HS := Lib.hid (show (Expr.rightsB nameB 1 la && Stmt.rightsB nameB (n + 1) lb && Stmt.rightsB nameB (n + 1) le) = true by have h1 := HP.out; rw [hkl, List.take_length] at h1; rw [HPA.out, HPB.out, h1]; rfl)
             go_wp2; go_ret; exact ⟨congrArg (fun b => Ending.returned (.bool b)) HS.out.symm, HB.out⟩)
     ·have hqe' : ¬ ((le.length : Int) = 0) := by omega
      rw [show mayX 2 ss 0 la lb le n = false by simp [mayX, headB, wantA, ss_empty, hnm, hq, hq9, hqb, hqe]]
      go_enter Try.func36, Try.ntmps36
      go_wp2_with (go_at_call 52; go_must (refine (docName_calls _ _ hs).mono ?_); rintro y w1 ⟨rfl, hb1⟩; rw [HNM.out]; have hXq := below_blk hb1 (blk_alloc HBX.out _) (by simp; omega); have q0 := blk_cell hXq 0; have q1 := blk_cell hXq 1; have q2 := blk_cell hXq 2; have q3 := blk_cell hXq 3; have q4 := blk_cell hXq 4; have q5 := blk_cell hXq 5; have y0 := (hb1.cell (p := ⟨w.heap.size + 1, 1, none⟩) (by simp)); have y2 := (hb1.cell (p := ⟨w.heap.size + 1, 2, none⟩) (by simp)); clear hXq)
      all_goals
       go_ret; exact ⟨rfl, (((Below.refl _ _).alloc (Nat.le_refl _) _).alloc (by simp) _).trans (hb1.mono (by simp; omega))⟩
    ·have hqb' : ¬ ((lb.length : Int) = 0) := by omega
     rw [show mayX 2 ss 0 la lb le n = false by simp [mayX, headB, wantA, ss_empty, hnm, hq, hq9, hqb]]
     go_enter Try.func36, Try.ntmps36
     go_wp2_with (go_at_call 52; go_must (refine (docName_calls _ _ hs).mono ?_); rintro y w1 ⟨rfl, hb1⟩; rw [HNM.out]; have hXq := below_blk hb1 (blk_alloc HBX.out _) (by simp; omega); have q0 := blk_cell hXq 0; have q1 := blk_cell hXq 1; have q2 := blk_cell hXq 2; have q3 := blk_cell hXq 3; have q4 := blk_cell hXq 4; have q5 := blk_cell hXq 5; have y0 := (hb1.cell (p := ⟨w.heap.size + 1, 1, none⟩) (by simp)); have y2 := (hb1.cell (p := ⟨w.heap.size + 1, 2, none⟩) (by simp)); clear hXq)
     all_goals
      go_ret; exact ⟨rfl, (((Below.refl _ _).alloc (Nat.le_refl _) _).alloc (by simp) _).trans (hb1.mono (by simp; omega))⟩
   ·have hq' : ¬ ((la.length : Int) = 1) := by omega
    rw [show mayX 2 ss 0 la lb le n = false by simp [mayX, headB, wantA, ss_empty, hnm, hq, hq']]
    go_enter Try.func36, Try.ntmps36
    go_wp2_with (go_at_call 52; go_must (refine (docName_calls _ _ hs).mono ?_); rintro y w1 ⟨rfl, hb1⟩; rw [HNM.out]; have hXq := below_blk hb1 (blk_alloc HBX.out _) (by simp; omega); have q0 := blk_cell hXq 0; have q1 := blk_cell hXq 1; have q2 := blk_cell hXq 2; have q3 := blk_cell hXq 3; have q4 := blk_cell hXq 4; have q5 := blk_cell hXq 5; have y0 := (hb1.cell (p := ⟨w.heap.size + 1, 1, none⟩) (by simp)); have y2 := (hb1.cell (p := ⟨w.heap.size + 1, 2, none⟩) (by simp)); clear hXq)
    all_goals
     go_ret; exact ⟨rfl, (((Below.refl _ _).alloc (Nat.le_refl _) _).alloc (by simp) _).trans (hb1.mono (by simp; omega))⟩
  ·have ho' : ¬ (0 = cc) := by omega
   rw [show mayX 2 ss cc la lb le n = false by simp [mayX, headB, wantA, ss_empty, hnm, ho]]
   go_enter Try.func36, Try.ntmps36
   go_wp2_with (go_at_call 52; go_must (refine (docName_calls _ _ hs).mono ?_); rintro y w1 ⟨rfl, hb1⟩; rw [HNM.out]; have hXq := below_blk hb1 (blk_alloc HBX.out _) (by simp; omega); have q0 := blk_cell hXq 0; have q1 := blk_cell hXq 1; have q2 := blk_cell hXq 2; have q3 := blk_cell hXq 3; have q4 := blk_cell hXq 4; have q5 := blk_cell hXq 5; have y0 := (hb1.cell (p := ⟨w.heap.size + 1, 1, none⟩) (by simp)); have y2 := (hb1.cell (p := ⟨w.heap.size + 1, 2, none⟩) (by simp)); clear hXq)
   all_goals
    go_ret; exact ⟨rfl, (((Below.refl _ _).alloc (Nat.le_refl _) _).alloc (by simp) _).trans (hb1.mono (by simp; omega))⟩
 ·have HNM := Lib.hid (show nameB ss = false by simpa using hnm)
  rw [show mayX 2 ss cc la lb le n = false by simp [mayX, headB, wantA, ss_empty, HNM.out]]
  go_enter Try.func36, Try.ntmps36
  go_wp2_with (go_at_call 52; go_must (refine (docName_calls _ _ hs).mono ?_); rintro y w1 ⟨rfl, hb1⟩; rw [HNM.out]; have hXq := below_blk hb1 (blk_alloc HBX.out _) (by simp; omega); have q0 := blk_cell hXq 0; have q1 := blk_cell hXq 1; have q2 := blk_cell hXq 2; have q3 := blk_cell hXq 3; have q4 := blk_cell hXq 4; have q5 := blk_cell hXq 5; have y0 := (hb1.cell (p := ⟨w.heap.size + 1, 1, none⟩) (by simp)); have y2 := (hb1.cell (p := ⟨w.heap.size + 1, 2, none⟩) (by simp)); clear hXq)
  all_goals
   go_ret; exact ⟨rfl, (((Below.refl _ _).alloc (Nat.le_refl _) _).alloc (by simp) _).trans (hb1.mono (by simp; omega))⟩
set_option maxRecDepth 100000 in
set_option maxHeartbeats 4000000 in
theorem docMay_3 (W : World) (N : Nat) (ih : MayIs W N) (ss : ByteArray) (cc : Int) (la : List Expr) (lb le : List Stmt) (A0 : Option Addr) (c0 : Nat) (A1 : Option Addr) (c1 : Nat) (A2 : Option Addr) (c2 : Nat) (n : Nat) (hN : Expr.nodesL la + Stmt.nodesL lb + Stmt.nodesL le < N + 1) (hrd0 : Expr.rds W la A0 0) (hrd1 : Stmt.rds W lb A1 0) (hrd2 : Stmt.rds W le A2 0) (hl : Expr.nodesL la + Stmt.nodesL lb + Stmt.nodesL le ≤ 1000000000) (hs : ss.size ≤ maxLen) (w : World) (hB : Below W.heap.size W w) :
  Calls Try.prog 36 #[.agg #[.int .i64 3, .string ss, .int .i64 cc, .slice A0 la.length c0, .slice A1 lb.length c1, .slice A2 le.length c2], .int .i64 (n : Int)] w (IsB (mayX 3 ss cc la lb le n) w) := by
 have hal := Expr.nodesL_len la; have hbl := Stmt.nodesL_len lb; have hel := Stmt.nodesL_len le; have HBX := Lib.hid (blk_new w (.cells #[.int .i64 3, .string ss, .int .i64 cc, .slice A0 la.length c0, .slice A1 lb.length c1, .slice A2 le.length c2] 36)); by_cases hm : ss.toList = []
 ·have hnf : nameB ss = false := nameB_none hm
  by_cases ho : cc = 0
  ·subst ho
   by_cases hq : la.length = 2
   ·have hq9 : (la.length : Int) = 2 := by omega
    rw [hq] at HBX ⊢; by_cases hqb : lb.length = 0
    ·rw [hqb] at HBX ⊢
     by_cases hqe : le.length = 0
     ·rw [hqe] at HBX ⊢
      have hcast : ((n + 1 : Nat) : Int) = (n : Int) + 1 := by omega
      have hlb : lb = [] := List.eq_nil_of_length_eq_zero hqb
      have hle : le = [] := List.eq_nil_of_length_eq_zero hqe
      rw [show mayX 3 ss 0 la lb le n = (Expr.rightsB nameB 1 la && Stmt.rightsB nameB (n + 1) lb && Stmt.rightsB nameB (n + 1) le) by simp [mayX, headB, wantA, ss_empty, hm, hnf, hq, hq9, hle, hlb, elsB, bodyB, Stmt.rightsB]]
      clear hq9; clear hlb; clear hle; go_enter Try.func36, Try.ntmps36
      go_wp2; all_goals (
       go_loopw [9] (fun at_ wr => ∃ (k : Nat), at_ = .int .i64 (k : Int) ∧ k ≤ 2 ∧ Hid (Expr.rightsB nameB 1 (la.take k) = true) ∧ Hid (Below w.heap.size w wr) ∧ Hid (wr.heap[w.heap.size]? = some (.cells #[.int .i64 3, .string ss, .int .i64 0, .slice A0 2 c0, .slice A1 0 c1, .slice A2 0 c2] 36 (0, 0)))) (fun a _ => 2 - (intOf a).toNat)
       case atStart => exact ⟨0, rfl, Nat.zero_le _, Lib.hid (by simp [Expr.rightsB]), Lib.hid (((Below.refl _ _).alloc (Nat.le_refl _) _).alloc (by simp) _), Lib.hid (blk_alloc HBX.out _)⟩
       case round =>
        obtain ⟨k, rfl, hk, HP, HB, HX⟩ := hrel; clear HBX; have b3 := blk_cell HX.out 3; by_cases hlt : k < 2
        ·have hsz := Expr.nodesL_take la k (by omega)
         have hne := la[k].nodes_eq; obtain ⟨b, o, A', c', rfl, hbW, g0, g1, g2, g3, g4, hc', hs', hrd'⟩ := Expr.at hrd0 (hB.trans (HB.out.mono hB.size)) (show k < la.length by omega)
         have hlt' : ((k : Int) < 2) := by omega
         have hI := docDeep_calls W _ la[k] A' c' (Nat.le_refl _) hrd' (by omega) wr (hB.trans (HB.out.mono hB.size))
         have hJ := Lib.hid (fun w5 (h5 : Below wr.heap.size wr w5) => (Expr.fitsB_eq la[k]) ▸ docFits_calls W _ la[k].kind la[k].num la[k].name la[k].op la[k].args A' c' (Nat.lt_succ_self _) hrd' (by omega) hs' w5 ((hB.trans (HB.out.mono hB.size)).trans (h5.mono (Nat.le_trans hB.size HB.out.size))))
         unfold Expr.val at hI
         have hbw : b < wr.heap.size := Nat.lt_of_lt_of_le hbW (Nat.le_trans hB.size HB.out.size)
         have hX3 := HX.out; by_cases hd : (la[k]).deepN ≤ 48
         ·by_cases hz : (la[k]).fitsB = true
          ·have HS := Lib.hid (show Expr.rightsB nameB 1 (la.take (k + 1)) = true by rw [Expr.rightsB_succ _ _ la k (by omega), HP.out, Expr.rightB_deep1, hz]; simp [hd])
           have HZ := Lib.hid hz; have hd' : ¬ ((48 : Int) < ((la[k]).deepN : Int)) := by omega
           clear hz; go_wp2_with (first
            | (go_at_call 54; go_must (refine (hJ.out _ hb5).mono ?_); rintro y w6 ⟨rfl, hb6⟩; rw [HZ.out]; have hb := hb5.trans (hb6.mono hb5.size))
            | (go_at_call 53; go_must (refine hI.mono ?_); rintro y w5 ⟨rfl, hb5⟩; have d3 := blk_cell (below_blk hb5 hX3 (blk_lt hX3)) 3; have e0 := (hb5.cell (p := ⟨b, _, none⟩) hbw).trans g0; have e1 := (hb5.cell (p := ⟨b, _, none⟩) hbw).trans g1; have e2 := (hb5.cell (p := ⟨b, _, none⟩) hbw).trans g2; have e3 := (hb5.cell (p := ⟨b, _, none⟩) hbw).trans g3; have e4 := (hb5.cell (p := ⟨b, _, none⟩) hbw).trans g4))
           go_roundw
           case rel => exact ⟨k + 1, by go_num, by omega, HS, Lib.hid (HB.out.trans (hb.mono HB.out.size)), Lib.hid (below_blk hb HX.out (blk_lt HX.out))⟩
           case measure => simp [intOf]; omega
          ·have HZ := Lib.hid (show (la[k]).fitsB = false by simpa using hz)
           have HS := Lib.hid (show (Expr.rightsB nameB 1 la && Stmt.rightsB nameB (n + 1) lb && Stmt.rightsB nameB (n + 1) le) = false by rw [Expr.rightsB_bad _ _ la k (by omega) (by rw [Expr.rightB_deep1, HZ.out]; simp)]; rfl)
           have hd' : ¬ ((48 : Int) < ((la[k]).deepN : Int)) := by omega
           clear hz; go_wp2_with (first
            | (go_at_call 54; go_must (refine (hJ.out _ hb5).mono ?_); rintro y w6 ⟨rfl, hb6⟩; rw [HZ.out]; have hb := hb5.trans (hb6.mono hb5.size))
            | (go_at_call 53; go_must (refine hI.mono ?_); rintro y w5 ⟨rfl, hb5⟩; have d3 := blk_cell (below_blk hb5 hX3 (blk_lt hX3)) 3; have e0 := (hb5.cell (p := ⟨b, _, none⟩) hbw).trans g0; have e1 := (hb5.cell (p := ⟨b, _, none⟩) hbw).trans g1; have e2 := (hb5.cell (p := ⟨b, _, none⟩) hbw).trans g2; have e3 := (hb5.cell (p := ⟨b, _, none⟩) hbw).trans g3; have e4 := (hb5.cell (p := ⟨b, _, none⟩) hbw).trans g4))
           go_ret; exact ⟨congrArg (fun b => Ending.returned (.bool b)) HS.out.symm, HB.out.trans (hb.mono HB.out.size)⟩
         ·have HS := Lib.hid (show (Expr.rightsB nameB 1 la && Stmt.rightsB nameB (n + 1) lb && Stmt.rightsB nameB (n + 1) le) = false by rw [Expr.rightsB_bad _ _ la k (by omega) (by rw [Expr.rightB_deep1]; simp [hd])]; rfl)
          have hd' : ((48 : Int) < ((la[k]).deepN : Int)) := by omega
          clear hd; go_wp2_with (go_at_call 53; go_must (refine hI.mono ?_); rintro y w5 ⟨rfl, hb5⟩; have d3 := blk_cell (below_blk hb5 hX3 (blk_lt hX3)) 3; have e0 := (hb5.cell (p := ⟨b, _, none⟩) hbw).trans g0; have e1 := (hb5.cell (p := ⟨b, _, none⟩) hbw).trans g1; have e2 := (hb5.cell (p := ⟨b, _, none⟩) hbw).trans g2; have e3 := (hb5.cell (p := ⟨b, _, none⟩) hbw).trans g3; have e4 := (hb5.cell (p := ⟨b, _, none⟩) hbw).trans g4)
          go_ret; exact ⟨congrArg (fun b => Ending.returned (.bool b)) HS.out.symm, HB.out.trans (hb5.mono HB.out.size)⟩
        ·have hkl : k = la.length := by omega
         have HPA := Lib.hid (show Expr.rightsB nameB 1 la = true by have h1 := HP.out; rwa [hkl, List.take_length] at h1)
         clear hkl; go_wp2; go_loopw [10] (fun at_ wr => ∃ (k : Nat), at_ = .int .i64 (k : Int) ∧ k ≤ 0 ∧ Hid (Stmt.rightsB nameB (n + 1) (lb.take k) = true) ∧ Hid (Below w.heap.size w wr) ∧ Hid (wr.heap[w.heap.size]? = some (.cells #[.int .i64 3, .string ss, .int .i64 0, .slice A0 2 c0, .slice A1 0 c1, .slice A2 0 c2] 36 (0, 0)))) (fun a _ => 0 - (intOf a).toNat)
         case atStart => exact ⟨0, rfl, Nat.zero_le _, Lib.hid (by simp [Stmt.rightsB]), HB, HX⟩
         case round =>
          obtain ⟨k, rfl, hk, HP, HB, HX⟩ := hrel; have b3 := blk_cell HX.out 4; by_cases hlt : k < 0
          ·exact absurd hlt (by omega)
          ·have hkl : k = lb.length := by omega
           have HPB := Lib.hid (show Stmt.rightsB nameB (n + 1) lb = true by have h1 := HP.out; rwa [hkl, List.take_length] at h1)
           clear hkl; go_wp2; go_loopw [11] (fun at_ wr => ∃ (k : Nat), at_ = .int .i64 (k : Int) ∧ k ≤ 0 ∧ Hid (Stmt.rightsB nameB (n + 1) (le.take k) = true) ∧ Hid (Below w.heap.size w wr) ∧ Hid (wr.heap[w.heap.size]? = some (.cells #[.int .i64 3, .string ss, .int .i64 0, .slice A0 2 c0, .slice A1 0 c1, .slice A2 0 c2] 36 (0, 0)))) (fun a _ => 0 - (intOf a).toNat)
           case atStart => exact ⟨0, rfl, Nat.zero_le _, Lib.hid (by simp [Stmt.rightsB]), HB, HX⟩
           case round =>
            obtain ⟨k, rfl, hk, HP, HB, HX⟩ := hrel; have b3 := blk_cell HX.out 5; by_cases hlt : k < 0
            ·exact absurd hlt (by omega)
            ·have hkl : k = le.length := by omega
             have HS := Lib.hid (show (Expr.rightsB nameB 1 la && Stmt.rightsB nameB (n + 1) lb && Stmt.rightsB nameB (n + 1) le) = true by have h1 := HP.out; rw [hkl, List.take_length] at h1; rw [HPA.out, HPB.out, h1]; rfl)
             go_wp2; go_ret; exact ⟨congrArg (fun b => Ending.returned (.bool b)) HS.out.symm, HB.out⟩)
     ·have hqe' : ¬ ((le.length : Int) = 0) := by omega
      rw [show mayX 3 ss 0 la lb le n = false by simp [mayX, headB, wantA, ss_empty, hm, hnf, hq, hq9, hqb, hqe]]
      go_enter Try.func36, Try.ntmps36
      go_wp2; go_ret; exact ⟨rfl, ((Below.refl _ _).alloc (Nat.le_refl _) _).alloc (by simp) _⟩
    ·have hqb' : ¬ ((lb.length : Int) = 0) := by omega
     rw [show mayX 3 ss 0 la lb le n = false by simp [mayX, headB, wantA, ss_empty, hm, hnf, hq, hq9, hqb]]
     go_enter Try.func36, Try.ntmps36
     go_wp2; go_ret; exact ⟨rfl, ((Below.refl _ _).alloc (Nat.le_refl _) _).alloc (by simp) _⟩
   ·have hq' : ¬ ((la.length : Int) = 2) := by omega
    rw [show mayX 3 ss 0 la lb le n = false by simp [mayX, headB, wantA, ss_empty, hm, hnf, hq, hq']]
    go_enter Try.func36, Try.ntmps36
    go_wp2; go_ret; exact ⟨rfl, ((Below.refl _ _).alloc (Nat.le_refl _) _).alloc (by simp) _⟩
  ·have ho' : ¬ (0 = cc) := by omega
   rw [show mayX 3 ss cc la lb le n = false by simp [mayX, headB, wantA, ss_empty, hm, hnf, ho]]
   go_enter Try.func36, Try.ntmps36
   go_wp2; go_ret; exact ⟨rfl, ((Below.refl _ _).alloc (Nat.le_refl _) _).alloc (by simp) _⟩
 ·have hm' : ¬ ([] = ss.toList) := fun h => hm h.symm
  rw [show mayX 3 ss cc la lb le n = false by simp [mayX, headB, wantA, ss_empty, hm]]
  go_enter Try.func36, Try.ntmps36
  go_wp2; go_ret; exact ⟨rfl, ((Below.refl _ _).alloc (Nat.le_refl _) _).alloc (by simp) _⟩
end Go.Proofs.Ytjlnpppjkdcpkaa.My
