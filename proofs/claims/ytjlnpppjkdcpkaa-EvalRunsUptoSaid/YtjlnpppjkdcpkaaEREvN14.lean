/- The document's run of a source text. Conditions: the tree was there in the world W, which is kept; the numbers are of 64 bits. -/
import Derived.Test.YtjlnpppjkdcpkaaERDrMa
import Derived.Test.YtjlnpppjkdcpkaaERDrMb
import Derived.Test.YtjlnpppjkdcpkaaERDrMc
import Derived.Test.YtjlnpppjkdcpkaaERDrMd
import Derived.Test.YtjlnpppjkdcpkaaERDrMe
import Derived.Test.YtjlnpppjkdcpkaaERNameR2
import Derived.Test.YtjlnpppjkdcpkaaEREvNs
namespace Go.Proofs.Ytjlnpppjkdcpkaa.My
open Go.RowKit Go.Maps
set_option linter.unusedVariables false
set_option linter.unusedSimpArgs false
set_option maxRecDepth 100000 in
set_option maxHeartbeats 4000000 in
theorem docMay_9 (W : World) (N : Nat) (ih : MayIs W N) (ss : ByteArray) (cc : Int) (la : List Expr) (lb le : List Stmt) (A0 : Option Addr) (c0 : Nat) (A1 : Option Addr) (c1 : Nat) (A2 : Option Addr) (c2 : Nat) (n : Nat) (hN : Expr.nodesL la + Stmt.nodesL lb + Stmt.nodesL le < N + 1) (hrd0 : Expr.rds W la A0 0) (hrd1 : Stmt.rds W lb A1 0) (hrd2 : Stmt.rds W le A2 0) (hl : Expr.nodesL la + Stmt.nodesL lb + Stmt.nodesL le ≤ 1000000000) (hs : ss.size ≤ maxLen) (w : World) (hB : Below W.heap.size W w) :
  Calls Try.prog 36 #[.agg #[.int .i64 9, .string ss, .int .i64 cc, .slice A0 la.length c0, .slice A1 lb.length c1, .slice A2 le.length c2], .int .i64 (n : Int)] w (IsB (mayX 9 ss cc la lb le n) w) := by
 have hal := Expr.nodesL_len la; have hbl := Stmt.nodesL_len lb; have hel := Stmt.nodesL_len le; have HBX := Lib.hid (blk_new w (.cells #[.int .i64 9, .string ss, .int .i64 cc, .slice A0 la.length c0, .slice A1 lb.length c1, .slice A2 le.length c2] 36)); by_cases hm : ss.toList = []
 ·have hnf : nameB ss = false := nameB_none hm
  by_cases ho : cc = 0
  ·subst ho
   by_cases hq : la.length = 0
   ·have hq9 : (la.length : Int) = 0 := by omega
    rw [hq] at HBX ⊢; by_cases hqb : lb.length = 0
    ·rw [hqb] at HBX ⊢
     by_cases hqe : le.length = 0
     ·rw [hqe] at HBX ⊢
      have hcast : ((n + 1 : Nat) : Int) = (n : Int) + 1 := by omega
      have hlb : lb = [] := List.eq_nil_of_length_eq_zero hqb
      have hle : le = [] := List.eq_nil_of_length_eq_zero hqe
      rw [show mayX 9 ss 0 la lb le n = (Expr.rightsB nameB 1 la && Stmt.rightsB nameB (n + 1) lb && Stmt.rightsB nameB (n + 1) le) by simp [mayX, headB, wantA, ss_empty, hm, hnf, hq, hq9, hle, hlb, elsB, bodyB, Stmt.rightsB]]
      clear hq9; clear hlb; clear hle; go_enter Try.func36, Try.ntmps36
      go_wp2; all_goals (
       go_loopw [9] (fun at_ wr => ∃ (k : Nat), at_ = .int .i64 (k : Int) ∧ k ≤ 0 ∧ Hid (Expr.rightsB nameB 1 (la.take k) = true) ∧ Hid (Below w.heap.size w wr) ∧ Hid (wr.heap[w.heap.size]? = some (.cells #[.int .i64 9, .string ss, .int .i64 0, .slice A0 0 c0, .slice A1 0 c1, .slice A2 0 c2] 36 (0, 0)))) (fun a _ => 0 - (intOf a).toNat)
       case atStart => exact ⟨0, rfl, Nat.zero_le _, Lib.hid (by simp [Expr.rightsB]), Lib.hid (((Below.refl _ _).alloc (Nat.le_refl _) _).alloc (by simp) _), Lib.hid (blk_alloc HBX.out _)⟩
       case round =>
        obtain ⟨k, rfl, hk, HP, HB, HX⟩ := hrel; clear HBX; have b3 := blk_cell HX.out 3; by_cases hlt : k < 0
        ·exact absurd hlt (by omega)
        ·have hkl : k = la.length := by omega
         have HPA := Lib.hid (show Expr.rightsB nameB 1 la = true by have h1 := HP.out; rwa [hkl, List.take_length] at h1)
         clear hkl; go_wp2; go_loopw [10] (fun at_ wr => ∃ (k : Nat), at_ = .int .i64 (k : Int) ∧ k ≤ 0 ∧ Hid (Stmt.rightsB nameB (n + 1) (lb.take k) = true) ∧ Hid (Below w.heap.size w wr) ∧ Hid (wr.heap[w.heap.size]? = some (.cells #[.int .i64 9, .string ss, .int .i64 0, .slice A0 0 c0, .slice A1 0 c1, .slice A2 0 c2] 36 (0, 0)))) (fun a _ => 0 - (intOf a).toNat)
         case atStart => exact ⟨0, rfl, Nat.zero_le _, Lib.hid (by simp [Stmt.rightsB]), HB, HX⟩
         case round =>
          obtain ⟨k, rfl, hk, HP, HB, HX⟩ := hrel; have b3 := blk_cell HX.out 4; by_cases hlt : k < 0
          ·exact absurd hlt (by omega)
          ·have hkl : k = lb.length := by omega
           have HPB := Lib.hid (show Stmt.rightsB nameB (n + 1) lb = true by have h1 := HP.out; rwa [hkl, List.take_length] at h1)
           clear hkl; go_wp2; go_loopw [11] (fun at_ wr => ∃ (k : Nat), at_ = .int .i64 (k : Int) ∧ k ≤ 0 ∧ Hid (Stmt.rightsB nameB (n + 1) (le.take k) = true) ∧ Hid (Below w.heap.size w wr) ∧ Hid (wr.heap[w.heap.size]? = some (.cells #[.int .i64 9, .string ss, .int .i64 0, .slice A0 0 c0, .slice A1 0 c1, .slice A2 0 c2] 36 (0, 0)))) (fun a _ => 0 - (intOf a).toNat)
           case atStart => exact ⟨0, rfl, Nat.zero_le _, Lib.hid (by simp [Stmt.rightsB]), HB, HX⟩
           case round =>
            obtain ⟨k, rfl, hk, HP, HB, HX⟩ := hrel; have b3 := blk_cell HX.out 5; by_cases hlt : k < 0
            ·exact absurd hlt (by omega)
            ·have hkl : k = le.length := by omega
             have HS := Lib.hid (show (Expr.rightsB nameB 1 la && Stmt.rightsB nameB (n + 1) lb && Stmt.rightsB nameB (n + 1) le) = true by have h1 := HP.out; rw [hkl, List.take_length] at h1; rw [HPA.out, HPB.out, h1]; rfl)
             go_wp2; go_ret; exact ⟨congrArg (fun b => Ending.returned (.bool b)) HS.out.symm, HB.out⟩)
     ·have hqe' : ¬ ((le.length : Int) = 0) := by omega
      rw [show mayX 9 ss 0 la lb le n = false by simp [mayX, headB, wantA, ss_empty, hm, hnf, hq, hq9, hqb, hqe]]
      go_enter Try.func36, Try.ntmps36
      go_wp2; go_ret; exact ⟨rfl, ((Below.refl _ _).alloc (Nat.le_refl _) _).alloc (by simp) _⟩
    ·have hqb' : ¬ ((lb.length : Int) = 0) := by omega
     rw [show mayX 9 ss 0 la lb le n = false by simp [mayX, headB, wantA, ss_empty, hm, hnf, hq, hq9, hqb]]
     go_enter Try.func36, Try.ntmps36
     go_wp2; go_ret; exact ⟨rfl, ((Below.refl _ _).alloc (Nat.le_refl _) _).alloc (by simp) _⟩
   ·have hq' : ¬ ((la.length : Int) = 0) := by omega
    rw [show mayX 9 ss 0 la lb le n = false by simp [mayX, headB, wantA, ss_empty, hm, hnf, hq, hq']]
    go_enter Try.func36, Try.ntmps36
    go_wp2; go_ret; exact ⟨rfl, ((Below.refl _ _).alloc (Nat.le_refl _) _).alloc (by simp) _⟩
  ·have ho' : ¬ (0 = cc) := by omega
   rw [show mayX 9 ss cc la lb le n = false by simp [mayX, headB, wantA, ss_empty, hm, hnf, ho]]
   go_enter Try.func36, Try.ntmps36
   go_wp2; go_ret; exact ⟨rfl, ((Below.refl _ _).alloc (Nat.le_refl _) _).alloc (by simp) _⟩
 ·have hm' : ¬ ([] = ss.toList) := fun h => hm h.symm
  rw [show mayX 9 ss cc la lb le n = false by simp [mayX, headB, wantA, ss_empty, hm]]
  go_enter Try.func36, Try.ntmps36
  go_wp2; go_ret; exact ⟨rfl, ((Below.refl _ _).alloc (Nat.le_refl _) _).alloc (by simp) _⟩
set_option maxRecDepth 100000 in
set_option maxHeartbeats 4000000 in
theorem docMay_0 (W : World) (N : Nat) (ih : MayIs W N) (kk : Int) (ss : ByteArray) (cc : Int) (la : List Expr) (lb le : List Stmt) (A0 : Option Addr) (c0 : Nat) (A1 : Option Addr) (c1 : Nat) (A2 : Option Addr) (c2 : Nat) (n : Nat) (hk : ¬ (1 ≤ kk ∧ kk ≤ 9)) (hN : Expr.nodesL la + Stmt.nodesL lb + Stmt.nodesL le < N + 1) (hrd0 : Expr.rds W la A0 0) (hrd1 : Stmt.rds W lb A1 0) (hrd2 : Stmt.rds W le A2 0) (hl : Expr.nodesL la + Stmt.nodesL lb + Stmt.nodesL le ≤ 1000000000) (hs : ss.size ≤ maxLen) (w : World) (hB : Below W.heap.size W w) :
  Calls Try.prog 36 #[.agg #[.int .i64 kk, .string ss, .int .i64 cc, .slice A0 la.length c0, .slice A1 lb.length c1, .slice A2 le.length c2], .int .i64 (n : Int)] w (IsB (mayX kk ss cc la lb le n) w) := by
 have hal := Expr.nodesL_len la; have hbl := Stmt.nodesL_len lb; have hel := Stmt.nodesL_len le; have HBX := Lib.hid (blk_new w (.cells #[.int .i64 kk, .string ss, .int .i64 cc, .slice A0 la.length c0, .slice A1 lb.length c1, .slice A2 le.length c2] 36)); have k1 : (kk == 1) = false := by simp; omega
 have k2 : (kk == 2) = false := by simp; omega
 have k3 : (kk == 3) = false := by simp; omega
 have k4 : (kk == 4) = false := by simp; omega
 have k5 : (kk == 5) = false := by simp; omega
 have k6 : (kk == 6) = false := by simp; omega
 have k7 : (kk == 7) = false := by simp; omega
 have k8 : (kk == 8) = false := by simp; omega
 have k9 : (kk == 9) = false := by simp; omega
 rw [show mayX kk ss cc la lb le n = false by unfold mayX headB; rw [decide_eq_false hk]; rfl]
 go_enter Try.func36, Try.ntmps36
 go_wp2; go_ret; exact ⟨rfl, ((Below.refl _ _).alloc (Nat.le_refl _) _).alloc (by simp) _⟩
end Go.Proofs.Ytjlnpppjkdcpkaa.My
namespace Go.Proofs.Ytjlnpppjkdcpkaa.My
open Go.RowKit Go.Maps
set_option linter.unusedVariables false
set_option linter.unusedSimpArgs false
theorem docMay_calls (W : World) (N : Nat) : MayIs W N := by
 induction N with
 | zero => intro kk ss cc la lb le A0 c0 A1 c1 A2 c2 n hN; omega
 | succ N ih =>
  intro kk ss cc la lb le A0 c0 A1 c1 A2 c2 n hN hrd0 hrd1 hrd2 hl hs w hB; by_cases hk : 1 ≤ kk ∧ kk ≤ 9
  ·have hk' : kk = 1 ∨ kk = 2 ∨ kk = 3 ∨ kk = 4 ∨ kk = 5 ∨ kk = 6 ∨ kk = 7 ∨ kk = 8 ∨ kk = 9 := by omega
   rcases hk' with rfl | rfl | rfl | rfl | rfl | rfl | rfl | rfl | rfl
   ·exact docMay_1 W N ih ss cc la lb le A0 c0 A1 c1 A2 c2 n hN hrd0 hrd1 hrd2 hl hs w hB
   ·exact docMay_2 W N ih ss cc la lb le A0 c0 A1 c1 A2 c2 n hN hrd0 hrd1 hrd2 hl hs w hB
   ·exact docMay_3 W N ih ss cc la lb le A0 c0 A1 c1 A2 c2 n hN hrd0 hrd1 hrd2 hl hs w hB
   ·exact docMay_4 W N ih ss cc la lb le A0 c0 A1 c1 A2 c2 n hN hrd0 hrd1 hrd2 hl hs w hB
   ·exact docMay_5 W N ih ss cc la lb le A0 c0 A1 c1 A2 c2 n hN hrd0 hrd1 hrd2 hl hs w hB
   ·exact docMay_6 W N ih ss cc la lb le A0 c0 A1 c1 A2 c2 n hN hrd0 hrd1 hrd2 hl hs w hB
   ·exact docMay_7 W N ih ss cc la lb le A0 c0 A1 c1 A2 c2 n hN hrd0 hrd1 hrd2 hl hs w hB
   ·exact docMay_8 W N ih ss cc la lb le A0 c0 A1 c1 A2 c2 n hN hrd0 hrd1 hrd2 hl hs w hB
   ·exact docMay_9 W N ih ss cc la lb le A0 c0 A1 c1 A2 c2 n hN hrd0 hrd1 hrd2 hl hs w hB
  ·exact docMay_0 W N ih kk ss cc la lb le A0 c0 A1 c1 A2 c2 n hk hN hrd0 hrd1 hrd2 hl hs w hB
theorem docRight_calls (W : World) (l : List Stmt) (A : Option Addr) (c : Nat) (hrd : Stmt.rds W l A 0) (hl : Stmt.nodesL l ≤ 1000000000) (w : World) (hB : Below W.heap.size W w) :
  Calls Try.prog 17 #[.slice A l.length c] w (IsB (rightP nameB l) w) := by
 have hal := Stmt.nodesL_len l; have hI := docNodes_calls W _ l A c (Nat.le_refl _) hrd hl w hB; by_cases h6 : Stmt.nodesL l ≤ 600
 ·have h6' : ¬ ((600 : Int) < (Stmt.nodesL l : Int)) := by omega
  rw [show rightP nameB l = Stmt.rightsB nameB 0 l by simp [rightP, h6]]
  go_enter Try.func17, Try.ntmps17
  go_wp2_with (go_at_call 28; go_must (refine hI.mono ?_); rintro y w1 ⟨rfl, hb1⟩)
  go_loopw [3] (fun at_ wr => ∃ (k : Nat), at_ = .int .i64 (k : Int) ∧ k ≤ l.length ∧ Hid (Stmt.rightsB nameB 0 (l.take k) = true) ∧ Below w.heap.size w wr) (fun a _ => l.length - (intOf a).toNat)
  case atStart => exact ⟨0, rfl, Nat.zero_le _, Lib.hid (by simp [Stmt.rightsB]), hb1⟩
  case round =>
   obtain ⟨k, rfl, hk, HP, HB⟩ := hrel; by_cases hlt : k < l.length
   ·have hsz := Stmt.nodesL_take l k hlt
    have hne := l[k].nodes_eq; obtain ⟨b, o, B0, d0, B1, d1, B2, d2, rfl, hbW, g0, g1, g2, g3, g4, g5, e0, e1, e2, hs', r0, r1, r2⟩ := Stmt.at hrd (hB.trans (HB.mono hB.size)) hlt; have hlt' : ((k : Int) < (l.length : Int)) := by omega
    have hI0 := docMay_calls W _ l[k].kind l[k].name l[k].cell l[k].args l[k].body l[k].els B0 d0 B1 d1 B2 d2 0 (Nat.lt_succ_self _) r0 r1 r2 (by omega) hs' wr (hB.trans (HB.mono hB.size))
    rw [mayX_eq, show ((0 : Nat) : Int) = 0 from rfl] at hI0
    have hI := Lib.hid hI0; clear hI0; by_cases hz : (l[k]).rightB nameB 0 = true
    ·have HS := Lib.hid (show Stmt.rightsB nameB 0 (l.take (k + 1)) = true by rw [Stmt.rightsB_succ _ _ l k hlt, HP.out, hz]; rfl)
     have HZ := Lib.hid hz; clear hz; go_wp2_with (go_at_call 36; go_must (refine hI.out.mono ?_); rintro y w6 ⟨rfl, hb⟩; rw [HZ.out])
     go_roundw
     case rel => exact ⟨k + 1, by go_num, by omega, HS, HB.trans (hb.mono HB.size)⟩
     case measure => simp [intOf]; omega
    ·have HZ := Lib.hid (show (l[k]).rightB nameB 0 = false by simpa using hz)
     have HS := Lib.hid (Stmt.rightsB_bad nameB 0 l k hlt HZ.out); clear hz; go_wp2_with (go_at_call 36; go_must (refine hI.out.mono ?_); rintro y w6 ⟨rfl, hb⟩; rw [HZ.out])
     go_ret; exact ⟨congrArg (fun b => Ending.returned (.bool b)) HS.out.symm, HB.trans (hb.mono HB.size)⟩
   ·have hkl : k = l.length := by omega
    have HS := Lib.hid (show Stmt.rightsB nameB 0 l = true by have h1 := HP.out; rwa [hkl, List.take_length] at h1)
    go_wp2; go_ret; exact ⟨congrArg (fun b => Ending.returned (.bool b)) HS.out.symm, HB⟩
 ·have h6' : ((600 : Int) < (Stmt.nodesL l : Int)) := by omega
  rw [show rightP nameB l = false by simp [rightP]; intro; omega]
  go_enter Try.func17, Try.ntmps17
  go_wp2_with (go_at_call 28; go_must (refine hI.mono ?_); rintro y w1 ⟨rfl, hb1⟩)
  go_ret; exact ⟨rfl, hb1⟩
end Go.Proofs.Ytjlnpppjkdcpkaa.My
namespace Go.Proofs.Ytjlnpppjkdcpkaa.My
open Go.RowKit Go.Maps
/-- two results and the code, the rest kept -/
def TellsR (w : World) (r : List Int) (m e : Int) (x : Ending) (w' : World) : Prop := ∃ v, x = .returned (.tuple #[v, .int .i64 m, .int .i64 e]) ∧ Row w' 3 1 v r.length (r.map (.int .i64)) ∧ Below w.heap.size w w'
set_option maxRecDepth 100000 in
theorem rslots_calls (W : World) (l : List Stmt) (A : Option Addr) (c : Nat) (cells : Int) (hrd : Stmt.rds W l A 0) (hl : Stmt.nodesL l ≤ 1000000000) (w : World) (hB : Below W.heap.size W w) :
  Calls Try.prog 34 #[.slice A l.length c, .int .i64 cells] w (TellsR w (slotsP l cells).1 (mostP l cells).1 (slotsP l cells).2) := by
 have hI := nblock_of W _ (none_calls W _) l A c (Nat.le_refl _) hrd ⟨[], [], 0, cells⟩ (.slice none 0 0) (.slice none 0 0) w (by simpa using hl) hB ⟨Row.nil _ _ _, Row.nil _ _ _, by simp, fun g hg => by simp [Value.ownBlock] at hg⟩
 obtain ⟨q, hq⟩ : ∃ q, stmtsS ⟨[], [], 0, cells⟩ l = q := ⟨_, rfl⟩
 have H1 := Lib.hid (show slotsP l cells = if q.1 = 0 then (q.2.out, 0) else ([], q.1) by unfold slotsP; rw [hq])
 have H2 := Lib.hid (show mostP l cells = if q.1 = 0 then (q.2.most, 0) else (0, q.1) by unfold mostP; rw [hq])
 rw [hq] at hI; have HI := Lib.hid hI; clear hI hq; by_cases hz : q.1 = 0
 ·have hz' : (q.1 == 0) = true := by simp [hz]
  go_enter Try.func34, Try.ntmps34
  go_wp2_with (go_at_call 50; go_must (refine HI.out.mono ?_); rintro x w2 ⟨v2, vt2, m2, rfl, hw2, hb2⟩)
  obtain ⟨p1, p2, rfl, p4⟩ := hw2 hz; go_ret3
  rw [H1.out, H2.out, if_pos hz, if_pos hz]; exact ⟨_, rfl, p1, hb2.toBelow (Nat.le_refl _) (fun _ h => by simp [Value.ownBlock] at h)⟩
 ·have hz' : (q.1 == 0) = false := by simp [hz]
  go_enter Try.func34, Try.ntmps34
  go_wp2_with (go_at_call 50; go_must (refine HI.out.mono ?_); rintro x w2 ⟨v2, vt2, m2, rfl, hw2, hb2⟩)
  go_ret3
  rw [H1.out, H2.out, if_neg hz, if_neg hz]; exact ⟨_, rfl, Row.nil _ _ _, hb2.toBelow (Nat.le_refl _) (fun _ h => by simp [Value.ownBlock] at h)⟩
end Go.Proofs.Ytjlnpppjkdcpkaa.My
namespace Go.Proofs.Ytjlnpppjkdcpkaa.My
open Go.RowKit Go.Proofs.Ytjlnpppjkdcpkaa.NumA
set_option linter.unusedVariables false
set_option linter.unusedSimpArgs false
set_option maxRecDepth 100000 in
set_option maxHeartbeats 4000000 in
theorem docRun_err (W : World) (ss : List Stmt) (A : Option Addr) (c : Nat) (hrd : Stmt.rds W ss A 0) (hnl : Stmt.nodesL ss ≤ 1000000000) (L : Int) (mem : List Int) (AM : Option Addr) (cM : Nat) (n i k B : Int) (w : World) (hB : Below W.heap.size W w) (hm : numRow w mem AM) (hml : mem.length ≤ maxLen) (hq : runErr ss L mem.length B ≠ 0) :
  Calls Try.prog 23 #[.slice A ss.length c, .int .i64 L, .agg #[.slice AM mem.length cM, .int .i64 n, .int .i64 i, .int .i64 k], .int .i64 B] w fun E w' => Below w.heap.size w w' ∧ E = .returned (.tuple #[zeroV, .int .i64 (runErr ss L mem.length B)]) := by
 unfold maxLen at hml; have hz1 : (w.alloc (.cells #[.slice AM mem.length cM, .int .i64 n, .int .i64 i, .int .i64 k] 48)).heap.size = w.heap.size + 1 := size_al _ _
 have hx0 := blk_alloc (blk_new w (.cells #[.slice AM mem.length cM, .int .i64 n, .int .i64 i, .int .i64 k] 48)) (.cells #[.slice none 0 0, .slice none 0 0, .slice none 0 0, .int .i64 0, .int .i64 0, .int .i64 0] 55); have hx1 := blk_new (w.alloc (.cells #[.slice AM mem.length cM, .int .i64 n, .int .i64 i, .int .i64 k] 48)) (.cells #[.slice none 0 0, .slice none 0 0, .slice none 0 0, .int .i64 0, .int .i64 0, .int .i64 0] 55); have hb : Below w.heap.size w ((w.alloc (.cells #[.slice AM mem.length cM, .int .i64 n, .int .i64 i, .int .i64 k] 48)).alloc (.cells #[.slice none 0 0, .slice none 0 0, .slice none 0 0, .int .i64 0, .int .i64 0, .int .i64 0] 55)) := ((Below.refl w.heap.size w).al).al
 rw [hz1] at hx1; obtain ⟨w0, hw0⟩ : ∃ x, (w.alloc (.cells #[.slice AM mem.length cM, .int .i64 n, .int .i64 i, .int .i64 k] 48)).alloc (.cells #[.slice none 0 0, .slice none 0 0, .slice none 0 0, .int .i64 0, .int .i64 0, .int .i64 0] 55) = x := ⟨_, rfl⟩
 rw [hw0] at hx0 hx1 hb; have HRI := Lib.hid (docRight_calls W ss A c hrd hnl w0 (hB.trans (hb.mono hB.size))); have HSL := Lib.hid (fun w1 (h1 : Below w0.heap.size w0 w1) => rslots_calls W ss A c L hrd hnl w1 (hB.trans ((hb.trans (h1.mono hb.size)).mono hB.size)))
 have HX0 := Lib.hid hx0; have HX1 := Lib.hid hx1; have HB := Lib.hid hb; have HW := Lib.hid hw0; have HBW := Lib.hid hB; have HM := Lib.hid (hm.below hb); have HRD := Lib.hid hrd; have HNL := Lib.hid hnl; clear hx0 hx1 hb hw0 hB hm hrd hnl hz1; have HQ0 := Lib.hid hq; clear hq; by_cases hr : rightP nameB ss = false
 ·have HQ := Lib.hid (show runErr ss L mem.length B = 43 by simp [runErr, hr])
  have HR := Lib.hid hr; clear hr; go_enter Try.func23, Try.ntmps23
  go_wp2_with fail; rw [HW.out]; refine HRI.out.mono ?_; rintro y w1 ⟨rfl, hb1⟩; have HB01 := Lib.hid hb1; clear hb1; rw [HR.out]; have hx0 := blk_cell (below_blk HB01.out HX0.out (blk_lt HX0.out)) 0; have hx := below_blk HB01.out HX1.out (blk_lt HX1.out); have f0 := blk_cell hx 0; have f1 := blk_cell hx 1; have f2 := blk_cell hx 2; have f3 := blk_cell hx 3; have f4 := blk_cell hx 4; have f5 := blk_cell hx 5; have ff := blk_free hx; have HX := Lib.hid hx; clear hx; go_wp2; refine bodyPost_ret (results_cellTmp rfl _ _ (w.heap.size + 1) [.slice none 0 0, .slice none 0 0, .slice none 0 0, .int .i64 0, .int .i64 0, .int .i64 0] _ (by rfl) (by rfl) (range_at (blk_set (blk_set (blk_set (blk_set (blk_set (blk_set HX.out 0 _) 1 _) 2 _) 3 _) 4 _) 5 _) 0 [.slice none 0 0, .slice none 0 0, .slice none 0 0, .int .i64 0, .int .i64 0, .int .i64 0] rfl) rfl rfl (by kernel_rfl)) rfl ?_
  refine ⟨?_, ?_⟩
  ·repeat (refine Below.setCell ?_ (by simp) _)
   exact (HB.out.trans (HB01.out.mono HB.out.size))
  ·rw [HQ.out]
   rfl
 have hr : rightP nameB ss = true := by simpa using hr
 have HR := Lib.hid hr; by_cases hs : (slotsP ss L).2 = 0
 ·have HS := Lib.hid hs
  clear hs; by_cases h64 : 64 < mem.length
  ·have HQ := Lib.hid (show runErr ss L mem.length B = 130 by simp [runErr, hr, HS.out, h64])
   clear hr; have h64' : ((64 : Nat) : Int) < (mem.length : Int) := by omega
   go_enter Try.func23, Try.ntmps23
   go_wp2_with fail; rw [HW.out]; refine HRI.out.mono ?_; rintro y w1 ⟨rfl, hb1⟩; have HB01 := Lib.hid hb1; clear hb1; rw [HR.out]; go_wp2_with fail; refine (HSL.out w1 HB01.out).mono ?_; rintro y w2 ⟨v, rfl, _, hb2⟩; have HB12 := Lib.hid (HB01.out.trans (hb2.mono HB01.out.size)); have HB2 := Lib.hid (HB.out.trans (HB12.out.mono HB.out.size)); clear hb2; rw [HS.out]; have hx0 := blk_cell (below_blk HB12.out HX0.out (blk_lt HX0.out)) 0; have hx := below_blk HB12.out HX1.out (blk_lt HX1.out); have f0 := blk_cell hx 0; have f1 := blk_cell hx 1; have f2 := blk_cell hx 2; have f3 := blk_cell hx 3; have f4 := blk_cell hx 4
   have f5 := blk_cell hx 5; have ff := blk_free hx; have HX := Lib.hid hx; clear hx; go_wp2; refine bodyPost_ret (results_cellTmp rfl _ _ (w.heap.size + 1) [.slice none 0 0, .slice none 0 0, .slice none 0 0, .int .i64 0, .int .i64 0, .int .i64 0] _ (by rfl) (by rfl) (range_at (blk_set (blk_set (blk_set (blk_set (blk_set (blk_set HX.out 0 _) 1 _) 2 _) 3 _) 4 _) 5 _) 0 [.slice none 0 0, .slice none 0 0, .slice none 0 0, .int .i64 0, .int .i64 0, .int .i64 0] rfl) rfl rfl (by kernel_rfl)) rfl ?_
   refine ⟨?_, ?_⟩
   ·repeat (refine Below.setCell ?_ (by simp) _)
    exact HB2.out
   ·rw [HQ.out]
    rfl
  have h64' : ¬ (((64 : Nat) : Int) < (mem.length : Int)) := by omega
  by_cases hbd : B < 0 ∨ 1000000 < B
  ·have HQ := Lib.hid (show runErr ss L mem.length B = 110 by simp [runErr, hr, HS.out, h64, hbd])
   clear hr; go_enter Try.func23, Try.ntmps23
   go_wp2_with fail; rw [HW.out]; refine HRI.out.mono ?_; rintro y w1 ⟨rfl, hb1⟩; have HB01 := Lib.hid hb1; clear hb1; rw [HR.out]; go_wp2_with fail; refine (HSL.out w1 HB01.out).mono ?_; rintro y w2 ⟨v, rfl, _, hb2⟩; have HB12 := Lib.hid (HB01.out.trans (hb2.mono HB01.out.size)); have HB2 := Lib.hid (HB.out.trans (HB12.out.mono HB.out.size)); clear hb2; rw [HS.out]; rcases hbd with hbd | hbd
   ·have hx0 := blk_cell (below_blk HB12.out HX0.out (blk_lt HX0.out)) 0
    have hx := below_blk HB12.out HX1.out (blk_lt HX1.out); have f0 := blk_cell hx 0; have f1 := blk_cell hx 1; have f2 := blk_cell hx 2; have f3 := blk_cell hx 3; have f4 := blk_cell hx 4; have f5 := blk_cell hx 5; have ff := blk_free hx; have HX := Lib.hid hx; clear hx; go_wp2; refine bodyPost_ret (results_cellTmp rfl _ _ (w.heap.size + 1) [.slice none 0 0, .slice none 0 0, .slice none 0 0, .int .i64 0, .int .i64 0, .int .i64 0] _ (by rfl) (by rfl) (range_at (blk_set (blk_set (blk_set (blk_set (blk_set (blk_set HX.out 0 _) 1 _) 2 _) 3 _) 4 _) 5 _) 0 [.slice none 0 0, .slice none 0 0, .slice none 0 0, .int .i64 0, .int .i64 0, .int .i64 0] rfl) rfl rfl (by kernel_rfl)) rfl ?_
    refine ⟨?_, ?_⟩
    ·repeat (refine Below.setCell ?_ (by simp) _)
     exact HB2.out
    ·rw [HQ.out]
     rfl
   ·have hb0 : ¬ B < 0 := by omega
    have hx0 := blk_cell (below_blk HB12.out HX0.out (blk_lt HX0.out)) 0; have hx := below_blk HB12.out HX1.out (blk_lt HX1.out); have f0 := blk_cell hx 0; have f1 := blk_cell hx 1; have f2 := blk_cell hx 2; have f3 := blk_cell hx 3; have f4 := blk_cell hx 4; have f5 := blk_cell hx 5; have ff := blk_free hx; have HX := Lib.hid hx; clear hx; go_wp2; refine bodyPost_ret (results_cellTmp rfl _ _ (w.heap.size + 1) [.slice none 0 0, .slice none 0 0, .slice none 0 0, .int .i64 0, .int .i64 0, .int .i64 0] _ (by rfl) (by rfl) (range_at (blk_set (blk_set (blk_set (blk_set (blk_set (blk_set HX.out 0 _) 1 _) 2 _) 3 _) 4 _) 5 _) 0 [.slice none 0 0, .slice none 0 0, .slice none 0 0, .int .i64 0, .int .i64 0, .int .i64 0] rfl) rfl rfl (by kernel_rfl)) rfl ?_
    refine ⟨?_, ?_⟩
    ·repeat (refine Below.setCell ?_ (by simp) _)
     exact HB2.out
    ·rw [HQ.out]
     rfl
  exact absurd (by simp [runErr, hr, HS.out, h64, hbd]) HQ0.out
 ·have HQ := Lib.hid (show runErr ss L mem.length B = (slotsP ss L).2 by simp [runErr, hr, hs])
  have hs' : ((slotsP ss L).2 != 0) = true := by simpa using hs
  have HS := Lib.hid hs; clear hr hs; generalize hsl : (slotsP ss L).2 = sl at *
  go_enter Try.func23, Try.ntmps23
  go_wp2_with fail; rw [HW.out]; refine HRI.out.mono ?_; rintro y w1 ⟨rfl, hb1⟩; have HB01 := Lib.hid hb1; clear hb1; rw [HR.out]; go_wp2_with fail; refine (HSL.out w1 HB01.out).mono ?_; rintro y w2 ⟨v, rfl, _, hb2⟩; have HB12 := Lib.hid (HB01.out.trans (hb2.mono HB01.out.size)); have HB2 := Lib.hid (HB.out.trans (HB12.out.mono HB.out.size)); clear hb2; have hx0 := blk_cell (below_blk HB12.out HX0.out (blk_lt HX0.out)) 0; have hx := below_blk HB12.out HX1.out (blk_lt HX1.out); have f0 := blk_cell hx 0; have f1 := blk_cell hx 1; have f2 := blk_cell hx 2; have f3 := blk_cell hx 3; have f4 := blk_cell hx 4
  have f5 := blk_cell hx 5; have ff := blk_free hx; have HX := Lib.hid hx; clear hx; go_wp2; refine bodyPost_ret (results_cellTmp rfl _ _ (w.heap.size + 1) [.slice none 0 0, .slice none 0 0, .slice none 0 0, .int .i64 0, .int .i64 0, .int .i64 0] _ (by rfl) (by rfl) (range_at (blk_set (blk_set (blk_set (blk_set (blk_set (blk_set HX.out 0 _) 1 _) 2 _) 3 _) 4 _) 5 _) 0 [.slice none 0 0, .slice none 0 0, .slice none 0 0, .int .i64 0, .int .i64 0, .int .i64 0] rfl) rfl rfl (by kernel_rfl)) rfl ?_
  refine ⟨?_, ?_⟩
  ·repeat (refine Below.setCell ?_ (by simp) _)
   exact HB2.out
  ·rw [HQ.out]
   rfl
end Go.Proofs.Ytjlnpppjkdcpkaa.My
