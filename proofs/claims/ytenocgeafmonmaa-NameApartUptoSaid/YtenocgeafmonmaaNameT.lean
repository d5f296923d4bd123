/- Layer 7: the document's Slots; the comparison of two rows of numbers. Conditions: the tree was there in the world W, which is kept; it has at most 10^9 nodes. -/
import Derived.Test.YtenocgeafmonmaaNameR2
namespace Go.Proofs.Ytenocgeafmonmaa.My
open Go.RowKit Go.Maps
/-- two results and the code, the rest kept -/
def TellsR (w : World) (r : List Int) (m e : Int) (x : Ending) (w' : World) : Prop := ∃ v, x = .returned (.tuple #[v, .int .i64 m, .int .i64 e]) ∧ Row w' 3 1 v r.length (r.map (.int .i64)) ∧ Below w.heap.size w w'
set_option maxRecDepth 100000 in
theorem rslots_calls (W : World) (l : List Stmt) (A : Option Addr) (c : Nat) (cells : Int) (hrd : Stmt.rds W l A 0) (hl : Stmt.nodesL l ≤ 1000000000) (w : World) (hB : Below W.heap.size W w) :
    Calls Try.prog 20 #[.slice A l.length c, .int .i64 cells] w (TellsR w (slotsP l cells).1 (mostP l cells).1 (slotsP l cells).2) := by
  have hI := rblock_of W _ (one_calls W _) l A c (Nat.le_refl _) hrd ⟨[], [], 0, cells⟩ (.slice none 0 0) (.slice none 0 0) w (by simpa using hl) hB ⟨Row.nil _ _ _, Row.nil _ _ _, by simp, fun g hg => by simp [Value.ownBlock] at hg⟩
  obtain ⟨q, hq⟩ : ∃ q, stmtsS ⟨[], [], 0, cells⟩ l = q := ⟨_, rfl⟩
  have H1 := Lib.hid (show slotsP l cells = if q.1 = 0 then (q.2.out, 0) else ([], q.1) by unfold slotsP; rw [hq])
  have H2 := Lib.hid (show mostP l cells = if q.1 = 0 then (q.2.most, 0) else (0, q.1) by unfold mostP; rw [hq])
  rw [hq] at hI
  have HI := Lib.hid hI
  clear hI hq
  by_cases hz : q.1 = 0
  · have hz' : (q.1 == 0) = true := by simp [hz]
    go_enter Try.func20, Try.ntmps20
    go_wp2_with (go_at_call 40; go_must (refine HI.out.mono ?_); rintro x w2 ⟨v2, vt2, m2, rfl, hw2, hb2⟩)
    obtain ⟨p1, p2, rfl, p4⟩ := hw2 hz
    go_ret3
    rw [H1.out, H2.out, if_pos hz, if_pos hz]
    exact ⟨_, rfl, p1, hb2.toBelow (Nat.le_refl _) (fun _ h => by simp [Value.ownBlock] at h)⟩
  · have hz' : (q.1 == 0) = false := by simp [hz]
    go_enter Try.func20, Try.ntmps20
    go_wp2_with (go_at_call 40; go_must (refine HI.out.mono ?_); rintro x w2 ⟨v2, vt2, m2, rfl, hw2, hb2⟩)
    go_ret3
    rw [H1.out, H2.out, if_neg hz, if_neg hz]
    exact ⟨_, rfl, Row.nil _ _ _, hb2.toBelow (Nat.le_refl _) (fun _ h => by simp [Value.ownBlock] at h)⟩
set_option maxRecDepth 100000 in
theorem row6_calls (xs ys : List Int) (va vb : Value) (w : World) (hl : xs.length ≤ 1000000000) (ha : Row w 3 1 va xs.length (xs.map (.int .i64))) (hb : Row w 3 1 vb ys.length (ys.map (.int .i64))) :
    Calls Try.prog 21 #[va, vb] w fun e w' => e = .returned (.bool (decide (xs = ys))) ∧ Below w.heap.size w w' := by
  obtain ⟨A, ca, rfl, _⟩ := ha.slice
  obtain ⟨B, cb, rfl, _⟩ := hb.slice
  by_cases hn : xs.length = ys.length
  · have HA := Lib.hid ha
    have HB := Lib.hid hb
    have HN := Lib.hid hn
    rw [hn] at HA ⊢
    clear ha hb hn
    go_enter Try.func21, Try.ntmps21
    go_wp2
    go_loopw [5] (fun at_ wr => ∃ (k : Nat), at_ = .int .i64 (k : Int) ∧ k ≤ ys.length ∧ Hid (xs.take k = ys.take k) ∧ Hid (Below w.heap.size w wr)) (fun a _ => ys.length - (intOf a).toNat)
    case atStart => exact ⟨0, rfl, Nat.zero_le _, Lib.hid rfl, Lib.hid (Below.refl _ _)⟩
    case round =>
      obtain ⟨k, rfl, hk, HZ, HBw⟩ := hrel
      by_cases hlt : k < ys.length
      · have hlx : k < xs.length := by have := HN.out; omega
        have hlt' : ((k : Int) < (ys.length : Int)) := by omega
        obtain ⟨ga, c1, hv, hca, _⟩ := (HA.out.keep fun g hg => HBw.out.block g (HA.out.lt hg)).cell (j := k) (u := .int .i64 xs[k]) (by simp [hlx])
        injection hv with hv _ hc
        subst hv
        subst hc
        obtain ⟨gb, c2, hv, hcb, _⟩ := (HB.out.keep fun g hg => HBw.out.block g (HB.out.lt hg)).cell (j := k) (u := .int .i64 ys[k]) (by simp [hlt])
        injection hv with hv _ hc
        subst hv
        subst hc
        have hca' : wr.drew.cell? ⟨ga, k, none⟩ = some (.int .i64 xs[k]) := hca
        have hcb' : wr.drew.cell? ⟨gb, k, none⟩ = some (.int .i64 ys[k]) := hcb
        by_cases he : xs[k] = ys[k]
        · have he' : (xs[k] == ys[k]) = true := by simp [he]
          have HE := Lib.hid (show xs.take (k + 1) = ys.take (k + 1) by rw [← List.take_append_getElem hlx, ← List.take_append_getElem hlt, HZ.out, he])
          clear he
          go_wp2
          go_region
          all_goals
            go_wp2
            go_roundw
            case rel => exact ⟨k + 1, by go_num, by omega, HE, Lib.hid HBw.out.drew⟩
            case measure => simp [intOf]; omega
        · have he' : (xs[k] == ys[k]) = false := by simp [he]
          have HE := Lib.hid (show decide (xs = ys) = false by simp; intro h; subst h; exact he rfl)
          go_wp2
          go_region
          all_goals
            go_wp2
            go_ret
            rw [HE.out]
            exact ⟨rfl, HBw.out.drew⟩
      · have hk' : k = ys.length := by omega
        subst hk'
        have HE := Lib.hid (show decide (xs = ys) = true by have h := HZ.out; rw [List.take_length, ← HN.out, List.take_length] at h; simp [h])
        go_wp2
        go_ret
        rw [HE.out]
        exact ⟨rfl, HBw.out⟩
  · have hn' : ¬ ((xs.length : Int) = (ys.length : Int)) := by omega
    have HE := Lib.hid (show decide (xs = ys) = false by simp; intro h; subst h; exact hn rfl)
    go_enter Try.func21, Try.ntmps21
    go_wp2
    go_ret
    rw [HE.out]
    exact ⟨rfl, Below.refl _ _⟩
end Go.Proofs.Ytenocgeafmonmaa.My
