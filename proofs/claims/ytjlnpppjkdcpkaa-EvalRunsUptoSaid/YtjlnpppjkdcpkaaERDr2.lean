/- What the document's fits says of an expression, exactly. Conditions: the tree was there in the world W, which is kept; it has at most 10^9 nodes. -/
import Derived.Test.YtjlnpppjkdcpkaaERDr1
import Derived.Test.YtjlnpppjkdcpkaaERNameS
namespace Go.Proofs.Ytjlnpppjkdcpkaa.My
open Go.RowKit Go.Maps
set_option linter.unusedVariables false
set_option linter.unusedSimpArgs false
theorem ss_empty (s : ByteArray) : s = ByteArray.empty ↔ s.toList = [] := by
 constructor
 ·rintro rfl
  have := (sbeqL ByteArray.empty []).2 rfl
  exact eq_of_beq this
 ·intro h
  have := (sbeqL s []).1 (by simp [h])
  exact this
mutual
def Expr.fitsB : Expr → Bool | .mk k n s o la => decide (1 ≤ k ∧ k ≤ 5) && decide ((la.length : Int) = wantE k) && fieldsB nameB k n s o && Expr.fitsL la
def Expr.fitsL : List Expr → Bool | [] => true | e :: l => e.fitsB && Expr.fitsL l
end
def fitsX (k n : Int) (s : ByteArray) (o : Int) (la : List Expr) : Bool := decide (1 ≤ k ∧ k ≤ 5) && decide ((la.length : Int) = wantE k) && fieldsB nameB k n s o && Expr.fitsL la
theorem Expr.fitsB_eq (e : Expr) : e.fitsB = fitsX e.kind e.num e.name e.op e.args := by cases e; rw [Expr.fitsB]; rfl
theorem Expr.fitsL_succ : ∀ (l : List Expr) (k : Nat) (h : k < l.length), Expr.fitsL (l.take (k + 1)) = (Expr.fitsL (l.take k) && (l[k]).fitsB)
 | e :: l, 0, _ => by simp [Expr.fitsL]
 | e :: l, k + 1, h => by
  have := Expr.fitsL_succ l k (by simpa using h)
  rw [List.take_succ_cons, Expr.fitsL, this, List.take_succ_cons, Expr.fitsL]; simp only [List.getElem_cons_succ, Bool.and_assoc]
theorem Expr.fitsL_bad : ∀ (l : List Expr) (k : Nat) (h : k < l.length), (l[k]).fitsB = false → Expr.fitsL l = false
 | e :: l, 0, _, hb => by simp only [List.getElem_cons_zero] at hb; simp [Expr.fitsL, hb]
 | e :: l, k + 1, h, hb => by
  have := Expr.fitsL_bad l k (by simpa using h) (by simpa using hb)
  simp [Expr.fitsL, this]
/-- this truth value, and what was there is kept -/
def IsB (b : Bool) (w : World) (e : Ending) (w' : World) : Prop := e = .returned (.bool b) ∧ Below w.heap.size w w'
set_option maxRecDepth 100000 in
set_option maxHeartbeats 4000000 in
theorem docFits_calls (W : World) (N : Nat) : ∀ (kk nn : Int) (ss : ByteArray) (oo : Int) (l : List Expr) (A : Option Addr) (c : Nat), Expr.nodesL l < N → Expr.rds W l A 0 → Expr.nodesL l ≤ 1000000000 → ss.size ≤ maxLen → ∀ (w : World), Below W.heap.size W w →
  Calls Try.prog 54 #[.agg #[.int .i64 kk, .int .i64 nn, .string ss, .int .i64 oo, .slice A l.length c]] w (IsB (fitsX kk nn ss oo l) w) := by
 induction N with
 | zero => intro kk nn ss oo l A c hN; omega
 | succ N ih =>
  intro kk nn ss oo l A c hN hrd hl hs w hB; have hal := Expr.nodesL_len l; have HBX := Lib.hid (blk_new w (.cells #[.int .i64 kk, .int .i64 nn, .string ss, .int .i64 oo, .slice A l.length c] 66)); by_cases k1 : kk = 1
  ·subst k1
   by_cases hm : ss.toList = []
   ·by_cases ho : oo = 0
    ·subst ho
     by_cases hq : l.length = 0
     ·have hq9 : (l.length : Int) = 0 := by omega
      rw [hq] at HBX ⊢; by_cases hp : 0 ≤ nn
      ·have hp' : ¬ (nn < 0) := by omega
       rw [show fitsX 1 nn ss 0 l = Expr.fitsL l by simp [fitsX, fieldsB, wantE, ss_empty, hm, hq, hq9, hp]]
       go_enter Try.func54, Try.ntmps54
       go_wp2; go_loopw [5] (fun at_ wr => ∃ (k : Nat), at_ = .int .i64 (k : Int) ∧ k ≤ 0 ∧ Hid (Expr.fitsL (l.take k) = true) ∧ Hid (Below w.heap.size w wr) ∧ Hid (wr.heap[w.heap.size]? = some (.cells #[.int .i64 1, .int .i64 nn, .string ss, .int .i64 0, .slice A 0 c] 66 (0, 0)))) (fun a _ => 0 - (intOf a).toNat)
       case atStart => exact ⟨0, rfl, Nat.zero_le _, Lib.hid (by simp [Expr.fitsL]), Lib.hid (((Below.refl _ _).alloc (Nat.le_refl _) _).alloc (by simp) _), Lib.hid (blk_alloc HBX.out _)⟩
       case round =>
        obtain ⟨k, rfl, hk, HP, HB, HX⟩ := hrel; clear HBX; have b4 := blk_cell HX.out 4; by_cases hlt : k < 0
        ·exact absurd hlt (by omega)
        ·have hkl : k = l.length := by omega
         have HS := Lib.hid (show Expr.fitsL l = true by have := HP.out; rwa [hkl, List.take_length] at this)
         go_wp2; go_ret; exact ⟨congrArg (fun b => Ending.returned (.bool b)) HS.out.symm, HB.out⟩
      ·have hp' : nn < 0 := by omega
       rw [show fitsX 1 nn ss 0 l = false by simp [fitsX, fieldsB, wantE, ss_empty, hp]]
       go_enter Try.func54, Try.ntmps54
       go_wp2; go_ret; exact ⟨rfl, ((Below.refl _ _).alloc (Nat.le_refl _) _).alloc (by simp) _⟩
     ·have hq' : ¬ ((l.length : Int) = 0) := by omega
      rw [show fitsX 1 nn ss 0 l = false by simp [fitsX, fieldsB, wantE, ss_empty, hq, hq']]
      go_enter Try.func54, Try.ntmps54
      go_wp2; go_ret; exact ⟨rfl, ((Below.refl _ _).alloc (Nat.le_refl _) _).alloc (by simp) _⟩
    ·have ho' : ¬ (0 = oo) := by omega
     rw [show fitsX 1 nn ss oo l = false by simp [fitsX, fieldsB, wantE, ss_empty, ho]]
     go_enter Try.func54, Try.ntmps54
     go_wp2; go_ret; exact ⟨rfl, ((Below.refl _ _).alloc (Nat.le_refl _) _).alloc (by simp) _⟩
   ·have hm' : ¬ ([] = ss.toList) := fun h => hm h.symm
    rw [show fitsX 1 nn ss oo l = false by simp [fitsX, fieldsB, wantE, ss_empty, hm]]
    go_enter Try.func54, Try.ntmps54
    go_wp2; go_ret; exact ⟨rfl, ((Below.refl _ _).alloc (Nat.le_refl _) _).alloc (by simp) _⟩
  ·by_cases k2 : kk = 2
   ·subst k2
    by_cases hn : nn = 0
    ·subst hn
     by_cases ho : oo = 0
     ·subst ho
      by_cases hq : l.length = 0
      ·have hq9 : (l.length : Int) = 0 := by omega
       rw [hq] at HBX ⊢; by_cases hnm : nameB ss = true
       ·have HNM := Lib.hid hnm
        rw [show fitsX 2 0 ss 0 l = Expr.fitsL l by simp [fitsX, fieldsB, wantE, ss_empty, hq, hq9, hnm]]
        go_enter Try.func54, Try.ntmps54
        go_wp2_with (go_at_call 52; go_must (refine (docName_calls _ _ hs).mono ?_); rintro y w1 ⟨rfl, hb1⟩; rw [HNM.out]; have hXq := below_blk hb1 (blk_alloc HBX.out _) (by simp; omega); have q0 := blk_cell hXq 0; have q3 := blk_cell hXq 3; have q4 := blk_cell hXq 4; clear hXq)
        go_loopw [5] (fun at_ wr => ∃ (k : Nat), at_ = .int .i64 (k : Int) ∧ k ≤ 0 ∧ Hid (Expr.fitsL (l.take k) = true) ∧ Hid (Below w.heap.size w wr) ∧ Hid (wr.heap[w.heap.size]? = some (.cells #[.int .i64 2, .int .i64 0, .string ss, .int .i64 0, .slice A 0 c] 66 (0, 0)))) (fun a _ => 0 - (intOf a).toNat)
        case atStart => exact ⟨0, rfl, Nat.zero_le _, Lib.hid (by simp [Expr.fitsL]), Lib.hid (((((Below.refl _ _).alloc (Nat.le_refl _) _).alloc (by simp) _).trans (hb1.mono (by simp; omega)))), Lib.hid (below_blk hb1 ((blk_alloc HBX.out _)) (by simp; omega))⟩
        case round =>
         obtain ⟨k, rfl, hk, HP, HB, HX⟩ := hrel; clear HBX; have b4 := blk_cell HX.out 4; by_cases hlt : k < 0
         ·exact absurd hlt (by omega)
         ·have hkl : k = l.length := by omega
          have HS := Lib.hid (show Expr.fitsL l = true by have := HP.out; rwa [hkl, List.take_length] at this)
          go_wp2; go_ret; exact ⟨congrArg (fun b => Ending.returned (.bool b)) HS.out.symm, HB.out⟩
       ·have HNM := Lib.hid (show nameB ss = false by simpa using hnm)
        rw [show fitsX 2 0 ss 0 l = false by simp [fitsX, fieldsB, wantE, ss_empty, hq, hq9, HNM.out]]
        go_enter Try.func54, Try.ntmps54
        go_wp2_with (go_at_call 52; go_must (refine (docName_calls _ _ hs).mono ?_); rintro y w1 ⟨rfl, hb1⟩; rw [HNM.out]; have hXq := below_blk hb1 (blk_alloc HBX.out _) (by simp; omega); have q0 := blk_cell hXq 0; have q3 := blk_cell hXq 3; have q4 := blk_cell hXq 4; clear hXq)
        go_ret; exact ⟨rfl, (((Below.refl _ _).alloc (Nat.le_refl _) _).alloc (by simp) _).trans (hb1.mono (by simp; omega))⟩
      ·have hq' : ¬ ((l.length : Int) = 0) := by omega
       rw [show fitsX 2 0 ss 0 l = false by simp [fitsX, fieldsB, wantE, ss_empty, hq, hq']]
       go_enter Try.func54, Try.ntmps54
       go_wp2; go_ret; exact ⟨rfl, ((Below.refl _ _).alloc (Nat.le_refl _) _).alloc (by simp) _⟩
     ·have ho' : ¬ (0 = oo) := by omega
      rw [show fitsX 2 0 ss oo l = false by simp [fitsX, fieldsB, wantE, ss_empty, ho]]
      go_enter Try.func54, Try.ntmps54
      go_wp2; go_ret; exact ⟨rfl, ((Below.refl _ _).alloc (Nat.le_refl _) _).alloc (by simp) _⟩
    ·have hn' : ¬ (0 = nn) := by omega
     rw [show fitsX 2 nn ss oo l = false by simp [fitsX, fieldsB, wantE, ss_empty, hn]]
     go_enter Try.func54, Try.ntmps54
     go_wp2; go_ret; exact ⟨rfl, ((Below.refl _ _).alloc (Nat.le_refl _) _).alloc (by simp) _⟩
   ·by_cases k3 : kk = 3
    ·subst k3
     by_cases hn : nn = 0
     ·subst hn
      by_cases hm : ss.toList = []
      ·by_cases ho : oo = 0
       ·subst ho
        by_cases hq : l.length = 1
        ·have hq9 : (l.length : Int) = 1 := by omega
         rw [hq] at HBX ⊢; rw [show fitsX 3 0 ss 0 l = Expr.fitsL l by simp [fitsX, fieldsB, wantE, ss_empty, hm, hq, hq9]]
         go_enter Try.func54, Try.ntmps54
         go_wp2; go_loopw [5] (fun at_ wr => ∃ (k : Nat), at_ = .int .i64 (k : Int) ∧ k ≤ 1 ∧ Hid (Expr.fitsL (l.take k) = true) ∧ Hid (Below w.heap.size w wr) ∧ Hid (wr.heap[w.heap.size]? = some (.cells #[.int .i64 3, .int .i64 0, .string ss, .int .i64 0, .slice A 1 c] 66 (0, 0)))) (fun a _ => 1 - (intOf a).toNat)
         case atStart => exact ⟨0, rfl, Nat.zero_le _, Lib.hid (by simp [Expr.fitsL]), Lib.hid (((Below.refl _ _).alloc (Nat.le_refl _) _).alloc (by simp) _), Lib.hid (blk_alloc HBX.out _)⟩
         case round =>
          obtain ⟨k, rfl, hk, HP, HB, HX⟩ := hrel; clear HBX; have b4 := blk_cell HX.out 4; by_cases hlt : k < 1
          ·have hsz := Expr.nodesL_take l k (by omega)
           obtain ⟨b, o, A', c', rfl, hbW, g0, g1, g2, g3, g4, hc', hs', hrd'⟩ := Expr.at hrd (hB.trans (HB.out.mono hB.size)) (show k < l.length by omega)
           have hlt' : ((k : Int) < 1) := by omega
           have hne := l[k].nodes_eq; have hI := ih l[k].kind l[k].num l[k].name l[k].op l[k].args A' c' (by omega) hrd' (by omega) hs' wr (hB.trans (HB.out.mono hB.size))
           rw [← Expr.fitsB_eq] at hI; by_cases hz : (l[k]).fitsB = true
           ·have HS := Lib.hid (show Expr.fitsL (l.take (k + 1)) = true by rw [Expr.fitsL_succ l k (by omega), HP.out, hz]; rfl)
            have HZ := Lib.hid hz; clear hz; go_wp2_with (go_at_call 54; go_must (refine hI.mono ?_); rintro y w1 ⟨rfl, hb⟩; rw [HZ.out])
            go_roundw
            case rel => exact ⟨k + 1, by go_num, by omega, HS, Lib.hid (HB.out.trans (hb.mono HB.out.size)), Lib.hid (below_blk hb HX.out (blk_lt HX.out))⟩
            case measure => simp [intOf]; omega
           ·have HZ := Lib.hid (show (l[k]).fitsB = false by simpa using hz)
            have HS := Lib.hid (Expr.fitsL_bad l k (by omega) HZ.out)
            clear hz; go_wp2_with (go_at_call 54; go_must (refine hI.mono ?_); rintro y w1 ⟨rfl, hb⟩; rw [HZ.out])
            go_ret; exact ⟨congrArg (fun b => Ending.returned (.bool b)) HS.out.symm, HB.out.trans (hb.mono HB.out.size)⟩
          ·have hkl : k = l.length := by omega
           have HS := Lib.hid (show Expr.fitsL l = true by have := HP.out; rwa [hkl, List.take_length] at this)
           go_wp2; go_ret; exact ⟨congrArg (fun b => Ending.returned (.bool b)) HS.out.symm, HB.out⟩
        ·have hq' : ¬ ((l.length : Int) = 1) := by omega
         rw [show fitsX 3 0 ss 0 l = false by simp [fitsX, fieldsB, wantE, ss_empty, hq, hq']]
         go_enter Try.func54, Try.ntmps54
         go_wp2; go_ret; exact ⟨rfl, ((Below.refl _ _).alloc (Nat.le_refl _) _).alloc (by simp) _⟩
       ·have ho' : ¬ (0 = oo) := by omega
        rw [show fitsX 3 0 ss oo l = false by simp [fitsX, fieldsB, wantE, ss_empty, ho]]
        go_enter Try.func54, Try.ntmps54
        go_wp2; go_ret; exact ⟨rfl, ((Below.refl _ _).alloc (Nat.le_refl _) _).alloc (by simp) _⟩
      ·have hm' : ¬ ([] = ss.toList) := fun h => hm h.symm
       rw [show fitsX 3 0 ss oo l = false by simp [fitsX, fieldsB, wantE, ss_empty, hm]]
       go_enter Try.func54, Try.ntmps54
       go_wp2; go_ret; exact ⟨rfl, ((Below.refl _ _).alloc (Nat.le_refl _) _).alloc (by simp) _⟩
     ·have hn' : ¬ (0 = nn) := by omega
      rw [show fitsX 3 nn ss oo l = false by simp [fitsX, fieldsB, wantE, ss_empty, hn]]
      go_enter Try.func54, Try.ntmps54
      go_wp2; go_ret; exact ⟨rfl, ((Below.refl _ _).alloc (Nat.le_refl _) _).alloc (by simp) _⟩
    ·by_cases k4 : kk = 4
     ·subst k4
      by_cases hn : nn = 0
      ·subst hn
       by_cases hm : ss.toList = []
       ·by_cases hq : l.length = 1
        ·have hq9 : (l.length : Int) = 1 := by omega
         rw [hq] at HBX ⊢; by_cases hr : oo < 19
         ·have hr9 : ¬ (19 ≤ oo) := by omega
          rw [show fitsX 4 0 ss oo l = false by simp [fitsX, fieldsB, wantE, ss_empty, hr9]]
          go_enter Try.func54, Try.ntmps54
          go_wp2; go_ret; exact ⟨rfl, ((Below.refl _ _).alloc (Nat.le_refl _) _).alloc (by simp) _⟩
         ·by_cases hr2 : 21 < oo
          ·have hr9 : ¬ (oo ≤ 21) := by omega
           rw [show fitsX 4 0 ss oo l = false by simp [fitsX, fieldsB, wantE, ss_empty, hr9]]
           go_enter Try.func54, Try.ntmps54
           go_wp2; go_ret; exact ⟨rfl, ((Below.refl _ _).alloc (Nat.le_refl _) _).alloc (by simp) _⟩
          ·have hr8 : 19 ≤ oo := by omega
           have hr9 : oo ≤ 21 := by omega
           rw [show fitsX 4 0 ss oo l = Expr.fitsL l by simp [fitsX, fieldsB, wantE, ss_empty, hm, hq, hq9, hr8, hr9]]
           go_enter Try.func54, Try.ntmps54
           go_wp2; go_loopw [5] (fun at_ wr => ∃ (k : Nat), at_ = .int .i64 (k : Int) ∧ k ≤ 1 ∧ Hid (Expr.fitsL (l.take k) = true) ∧ Hid (Below w.heap.size w wr) ∧ Hid (wr.heap[w.heap.size]? = some (.cells #[.int .i64 4, .int .i64 0, .string ss, .int .i64 oo, .slice A 1 c] 66 (0, 0)))) (fun a _ => 1 - (intOf a).toNat)
           case atStart => exact ⟨0, rfl, Nat.zero_le _, Lib.hid (by simp [Expr.fitsL]), Lib.hid (((Below.refl _ _).alloc (Nat.le_refl _) _).alloc (by simp) _), Lib.hid (blk_alloc HBX.out _)⟩
           case round =>
            obtain ⟨k, rfl, hk, HP, HB, HX⟩ := hrel; clear HBX; have b4 := blk_cell HX.out 4; by_cases hlt : k < 1
            ·have hsz := Expr.nodesL_take l k (by omega)
             obtain ⟨b, o, A', c', rfl, hbW, g0, g1, g2, g3, g4, hc', hs', hrd'⟩ := Expr.at hrd (hB.trans (HB.out.mono hB.size)) (show k < l.length by omega)
             have hlt' : ((k : Int) < 1) := by omega
             have hne := l[k].nodes_eq; have hI := ih l[k].kind l[k].num l[k].name l[k].op l[k].args A' c' (by omega) hrd' (by omega) hs' wr (hB.trans (HB.out.mono hB.size))
             rw [← Expr.fitsB_eq] at hI; by_cases hz : (l[k]).fitsB = true
             ·have HS := Lib.hid (show Expr.fitsL (l.take (k + 1)) = true by rw [Expr.fitsL_succ l k (by omega), HP.out, hz]; rfl)
              have HZ := Lib.hid hz; clear hz; go_wp2_with (go_at_call 54; go_must (refine hI.mono ?_); rintro y w1 ⟨rfl, hb⟩; rw [HZ.out])
              go_roundw
              case rel => exact ⟨k + 1, by go_num, by omega, HS, Lib.hid (HB.out.trans (hb.mono HB.out.size)), Lib.hid (below_blk hb HX.out (blk_lt HX.out))⟩
              case measure => simp [intOf]; omega
             ·have HZ := Lib.hid (show (l[k]).fitsB = false by simpa using hz)
              have HS := Lib.hid (Expr.fitsL_bad l k (by omega) HZ.out)
              clear hz; go_wp2_with (go_at_call 54; go_must (refine hI.mono ?_); rintro y w1 ⟨rfl, hb⟩; rw [HZ.out])
              go_ret; exact ⟨congrArg (fun b => Ending.returned (.bool b)) HS.out.symm, HB.out.trans (hb.mono HB.out.size)⟩
            ·have hkl : k = l.length := by omega
             have HS := Lib.hid (show Expr.fitsL l = true by have := HP.out; rwa [hkl, List.take_length] at this)
             go_wp2; go_ret; exact ⟨congrArg (fun b => Ending.returned (.bool b)) HS.out.symm, HB.out⟩
        ·have hq' : ¬ ((l.length : Int) = 1) := by omega
         rw [show fitsX 4 0 ss oo l = false by simp [fitsX, fieldsB, wantE, ss_empty, hq, hq']]
         go_enter Try.func54, Try.ntmps54
         go_wp2; go_ret; exact ⟨rfl, ((Below.refl _ _).alloc (Nat.le_refl _) _).alloc (by simp) _⟩
       ·have hm' : ¬ ([] = ss.toList) := fun h => hm h.symm
        rw [show fitsX 4 0 ss oo l = false by simp [fitsX, fieldsB, wantE, ss_empty, hm]]
        go_enter Try.func54, Try.ntmps54
        go_wp2; go_ret; exact ⟨rfl, ((Below.refl _ _).alloc (Nat.le_refl _) _).alloc (by simp) _⟩
      ·have hn' : ¬ (0 = nn) := by omega
       rw [show fitsX 4 nn ss oo l = false by simp [fitsX, fieldsB, wantE, ss_empty, hn]]
       go_enter Try.func54, Try.ntmps54
       go_wp2; go_ret; exact ⟨rfl, ((Below.refl _ _).alloc (Nat.le_refl _) _).alloc (by simp) _⟩
     ·by_cases k5 : kk = 5
      ·subst k5
       by_cases hn : nn = 0
       ·subst hn
        by_cases hm : ss.toList = []
        ·by_cases hq : l.length = 2
         ·have hq9 : (l.length : Int) = 2 := by omega
          rw [hq] at HBX ⊢; by_cases hr : oo < 1
          ·have hr9 : ¬ (1 ≤ oo) := by omega
           rw [show fitsX 5 0 ss oo l = false by simp [fitsX, fieldsB, wantE, ss_empty, hr9]]
           go_enter Try.func54, Try.ntmps54
           go_wp2; go_ret; exact ⟨rfl, ((Below.refl _ _).alloc (Nat.le_refl _) _).alloc (by simp) _⟩
          ·by_cases hr2 : 18 < oo
           ·have hr9 : ¬ (oo ≤ 18) := by omega
            rw [show fitsX 5 0 ss oo l = false by simp [fitsX, fieldsB, wantE, ss_empty, hr9]]
            go_enter Try.func54, Try.ntmps54
            go_wp2; go_ret; exact ⟨rfl, ((Below.refl _ _).alloc (Nat.le_refl _) _).alloc (by simp) _⟩
           ·have hr8 : 1 ≤ oo := by omega
            have hr9 : oo ≤ 18 := by omega
            rw [show fitsX 5 0 ss oo l = Expr.fitsL l by simp [fitsX, fieldsB, wantE, ss_empty, hm, hq, hq9, hr8, hr9]]
            go_enter Try.func54, Try.ntmps54
            go_wp2; go_loopw [5] (fun at_ wr => ∃ (k : Nat), at_ = .int .i64 (k : Int) ∧ k ≤ 2 ∧ Hid (Expr.fitsL (l.take k) = true) ∧ Hid (Below w.heap.size w wr) ∧ Hid (wr.heap[w.heap.size]? = some (.cells #[.int .i64 5, .int .i64 0, .string ss, .int .i64 oo, .slice A 2 c] 66 (0, 0)))) (fun a _ => 2 - (intOf a).toNat)
            case atStart => exact ⟨0, rfl, Nat.zero_le _, Lib.hid (by simp [Expr.fitsL]), Lib.hid (((Below.refl _ _).alloc (Nat.le_refl _) _).alloc (by simp) _), Lib.hid (blk_alloc HBX.out _)⟩
            case round =>
             obtain ⟨k, rfl, hk, HP, HB, HX⟩ := hrel; clear HBX; have b4 := blk_cell HX.out 4; by_cases hlt : k < 2
             ·have hsz := Expr.nodesL_take l k (by omega)
              obtain ⟨b, o, A', c', rfl, hbW, g0, g1, g2, g3, g4, hc', hs', hrd'⟩ := Expr.at hrd (hB.trans (HB.out.mono hB.size)) (show k < l.length by omega)
              have hlt' : ((k : Int) < 2) := by omega
              have hne := l[k].nodes_eq; have hI := ih l[k].kind l[k].num l[k].name l[k].op l[k].args A' c' (by omega) hrd' (by omega) hs' wr (hB.trans (HB.out.mono hB.size))
              rw [← Expr.fitsB_eq] at hI; by_cases hz : (l[k]).fitsB = true
              ·have HS := Lib.hid (show Expr.fitsL (l.take (k + 1)) = true by rw [Expr.fitsL_succ l k (by omega), HP.out, hz]; rfl)
               have HZ := Lib.hid hz; clear hz; go_wp2_with (go_at_call 54; go_must (refine hI.mono ?_); rintro y w1 ⟨rfl, hb⟩; rw [HZ.out])
               go_roundw
               case rel => exact ⟨k + 1, by go_num, by omega, HS, Lib.hid (HB.out.trans (hb.mono HB.out.size)), Lib.hid (below_blk hb HX.out (blk_lt HX.out))⟩
               case measure => simp [intOf]; omega
              ·have HZ := Lib.hid (show (l[k]).fitsB = false by simpa using hz)
               have HS := Lib.hid (Expr.fitsL_bad l k (by omega) HZ.out)
               clear hz; go_wp2_with (go_at_call 54; go_must (refine hI.mono ?_); rintro y w1 ⟨rfl, hb⟩; rw [HZ.out])
               go_ret; exact ⟨congrArg (fun b => Ending.returned (.bool b)) HS.out.symm, HB.out.trans (hb.mono HB.out.size)⟩
             ·have hkl : k = l.length := by omega
              have HS := Lib.hid (show Expr.fitsL l = true by have := HP.out; rwa [hkl, List.take_length] at this)
              go_wp2; go_ret; exact ⟨congrArg (fun b => Ending.returned (.bool b)) HS.out.symm, HB.out⟩
         ·have hq' : ¬ ((l.length : Int) = 2) := by omega
          rw [show fitsX 5 0 ss oo l = false by simp [fitsX, fieldsB, wantE, ss_empty, hq, hq']]
          go_enter Try.func54, Try.ntmps54
          go_wp2; go_ret; exact ⟨rfl, ((Below.refl _ _).alloc (Nat.le_refl _) _).alloc (by simp) _⟩
        ·have hm' : ¬ ([] = ss.toList) := fun h => hm h.symm
         rw [show fitsX 5 0 ss oo l = false by simp [fitsX, fieldsB, wantE, ss_empty, hm]]
         go_enter Try.func54, Try.ntmps54
         go_wp2; go_ret; exact ⟨rfl, ((Below.refl _ _).alloc (Nat.le_refl _) _).alloc (by simp) _⟩
       ·have hn' : ¬ (0 = nn) := by omega
        rw [show fitsX 5 nn ss oo l = false by simp [fitsX, fieldsB, wantE, ss_empty, hn]]
        go_enter Try.func54, Try.ntmps54
        go_wp2; go_ret; exact ⟨rfl, ((Below.refl _ _).alloc (Nat.le_refl _) _).alloc (by simp) _⟩
      ·have k9 : ¬ (1 ≤ kk ∧ kk ≤ 5) := by omega
       have k1' : (kk == 1) = false := by simp [k1]
       have k2' : (kk == 2) = false := by simp [k2]
       have k3' : (kk == 3) = false := by simp [k3]
       have k4' : (kk == 4) = false := by simp [k4]
       have k5' : (kk == 5) = false := by simp [k5]
       rw [show fitsX kk nn ss oo l = false by unfold fitsX; rw [decide_eq_false k9]; rfl]
       go_enter Try.func54, Try.ntmps54
       go_wp2; go_ret; exact ⟨rfl, ((Below.refl _ _).alloc (Nat.le_refl _) _).alloc (by simp) _⟩
end Go.Proofs.Ytjlnpppjkdcpkaa.My
