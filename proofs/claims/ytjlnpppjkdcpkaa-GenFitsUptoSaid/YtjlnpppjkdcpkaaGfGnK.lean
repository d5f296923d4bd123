/- The law's own count: how many statements there are. Conditions: the tree was there in the world W, which is kept. -/
import Derived.Test.YtjlnpppjkdcpkaaGfGnF
import Derived.Test.YtjlnpppjkdcpkaaGfTrN
import Derived.Test.YtjlnpppjkdcpkaaGfNameG0
import Derived.Test.YtjlnpppjkdcpkaaGfNameH
namespace Go.Proofs.Ytjlnpppjkdcpkaa.My
open Go.RowKit Go.Proofs.Ytjlnpppjkdcpkaa.NumA
set_option linter.unusedVariables false
set_option linter.unusedSimpArgs false
theorem Stmt.cnt_eq (s : Stmt) : s.cnt = 1 + Stmt.cntL s.body + Stmt.cntL s.els := by cases s; rw [Stmt.cnt]; rfl
mutual
theorem Stmt.cnt_nodes : ∀ s : Stmt, s.cnt ≤ s.nodes
  | .mk k s c la lb le => by
    rw [Stmt.cnt, Stmt.nodes]
    have := Stmt.cntL_nodes lb
    have := Stmt.cntL_nodes le
    omega
theorem Stmt.cntL_nodes : ∀ l : List Stmt, Stmt.cntL l ≤ Stmt.nodesL l
  | [] => by simp [Stmt.cntL]
  | s :: l => by
    rw [Stmt.cntL, Stmt.nodesL]
    have := Stmt.cnt_nodes s
    have := Stmt.cntL_nodes l
    omega
end
theorem Stmt.cntL_app (m : List Stmt) : ∀ l : List Stmt, Stmt.cntL (l ++ m) = Stmt.cntL l + Stmt.cntL m
  | [] => by simp [Stmt.cntL]
  | x :: l => by simp only [List.cons_append, Stmt.cntL, Stmt.cntL_app m l]; omega
theorem Stmt.cntL_succ (l : List Stmt) (k : Nat) (h : k < l.length) : Stmt.cntL (l.take (k + 1)) = Stmt.cntL (l.take k) + l[k].cnt := by
  rw [← List.take_append_getElem h, Stmt.cntL_app]
  simp [Stmt.cntL]
set_option maxRecDepth 100000 in
set_option maxHeartbeats 2000000 in
theorem cnt_calls (W : World) (N : Nat) : ∀ (l : List Stmt) (A : Option Addr) (c : Nat), Stmt.nodesL l ≤ N → Stmt.rds W l A 0 → Stmt.nodesL l ≤ 1000000000 → ∀ (w : World), Below W.heap.size W w →
    Calls Try.prog 20 #[.slice A l.length c] w fun r w' => r = .returned (.int .i64 (Stmt.cntL l : Int)) ∧ Below w.heap.size w w' := by
  induction N with
  | zero =>
    intro l A c hN hrd hl w hB
    have hal := Stmt.nodesL_len l
    have hl0 : l.length = 0 := by omega
    have hln : (Stmt.cntL l : Int) = 0 := by have := Stmt.cntL_nodes l; omega
    rw [hl0, hln]
    go_enter Try.func20, Try.ntmps20
    go_wp2
    go_loopw [3, 4] (fun v at_ wr => at_ = .int .i64 0 ∧ v = .int .i64 0 ∧ Below w.heap.size w wr) (fun _ _ _ => 0)
    case atStart => exact ⟨rfl, rfl, Below.refl _ _⟩
    case round =>
      obtain ⟨rfl, rfl, HB⟩ := hrel
      go_wp2
      go_ret
      exact ⟨rfl, HB⟩
  | succ N ih =>
    intro l A c hN hrd hl w hB
    have hal := Stmt.nodesL_len l
    go_enter Try.func20, Try.ntmps20
    go_wp2
    go_loopw [3, 4] (fun v at_ wr => ∃ (k : Nat) (x : Int), at_ = .int .i64 (k : Int) ∧ v = .int .i64 x ∧ k ≤ l.length ∧ Hid (x = (l.length : Int) - k + (Stmt.cntL (l.take k) : Int)) ∧ 0 ≤ x ∧ x ≤ 1000000000 ∧ Hid (Below w.heap.size w wr)) (fun _ a _ => l.length - (intOf a).toNat)
    case atStart => exact ⟨0, _, rfl, rfl, Nat.zero_le _, Lib.hid (by simp [Stmt.cntL]), by omega, by omega, Lib.hid (Below.refl _ _)⟩
    case round =>
      obtain ⟨k, x, rfl, rfl, hk, HX, hx0, hx1, HB⟩ := hrel
      by_cases hlt : k < l.length
      · have hsz := Stmt.nodesL_take l k hlt
        have hne := l[k].nodes_eq
        obtain ⟨b, o, A0, c0, A2, c2, A3, c3, rfl, hbW, g0, g1, g2, g3, g4, g5, e0, e1, e2, hs', r0, r1, r2⟩ := Stmt.at hrd (hB.trans (HB.out.mono hB.size)) hlt
        have hlt' : ((k : Int) < (l.length : Int)) := by omega
        have hI := Lib.hid (fun w1 (h1 : Below wr.heap.size wr w1) => ih l[k].body A2 c2 (by omega) r1 (by omega) w1 ((hB.trans (HB.out.mono hB.size)).trans (h1.mono (Nat.le_trans hB.size HB.out.size))))
        have hJ := Lib.hid (fun w1 (h1 : Below wr.heap.size wr w1) => ih l[k].els A3 c3 (by omega) r2 (by omega) w1 ((hB.trans (HB.out.mono hB.size)).trans (h1.mono (Nat.le_trans hB.size HB.out.size))))
        have cs := Stmt.cntL_succ l k hlt
        rw [Stmt.cnt_eq] at cs
        have cb := Stmt.cntL_nodes l[k].body
        have ce := Stmt.cntL_nodes l[k].els
        have ct := Stmt.cntL_nodes (l.take (k + 1))
        have nt : Stmt.nodesL (l.take (k + 1)) + (l.length - (k + 1)) ≤ Stmt.nodesL l := by
          have h1 := Stmt.nodesL_app (l.drop (k + 1)) (l.take (k + 1))
          rw [List.take_append_drop] at h1
          have h2 := Stmt.nodesL_len (l.drop (k + 1))
          rw [List.length_drop] at h2
          omega
        obtain ⟨x1, hx1'⟩ : ∃ x1, (Stmt.cntL l[k].body : Int) = x1 := ⟨_, rfl⟩
        obtain ⟨x2, hx2'⟩ : ∃ x2, (Stmt.cntL l[k].els : Int) = x2 := ⟨_, rfl⟩
        have hxx := HX.out
        have q1 : 0 ≤ x1 := by omega
        have q2 : 0 ≤ x2 := by omega
        have q3 : x + (x1 + x2) ≤ 1000000000 := by omega
        have HX' := Lib.hid (show x + (x1 + x2) = (l.length : Int) - (k + 1 : Nat) + (Stmt.cntL (l.take (k + 1)) : Int) by omega)
        have a1 : IntKind.i64.wrap (x1 + x2) = x1 + x2 := by simp [IntKind.wrap, IntKind.signed, IntKind.bits]; omega
        have a2 : IntKind.i64.wrap (x + (x1 + x2)) = x + (x1 + x2) := by simp [IntKind.wrap, IntKind.signed, IntKind.bits]; omega
        rw [hx1'] at hI
        rw [hx2'] at hJ
        have hBs := HB.out.size
        have hBs0 := hB.size
        clear g0 g1 g2 g3 e0 e1 e2 hs' r0 r1 r2 hsz hne cs cb ce ct nt hx1' hx2' hxx HX
        go_wp2
        go_region_held3 (fun w' => w'.cell? ⟨b, o + k * 6 + 4, none⟩ = some (.slice A2 l[k].body.length c2) ∧ w'.cell? ⟨b, o + k * 6 + 5, none⟩ = some (.slice A3 l[k].els.length c3) ∧ Below wr.heap.size wr w')
          (first
            | exact keep45 g4 g5 hW6 (Nat.lt_of_lt_of_le hbW (Nat.le_trans hBs0 hBs))
            | exact keep45 g4 g5 hW5 (Nat.lt_of_lt_of_le hbW (Nat.le_trans hBs0 hBs))
            | exact keep45 g4 g5 (Below.refl _ _) (Nat.lt_of_lt_of_le hbW (Nat.le_trans hBs0 hBs))
            | exact keep45 g4 g5 (Below.refl _ _).drew (Nat.lt_of_lt_of_le hbW (Nat.le_trans hBs0 hBs)))
          (first
            | (go_at_call 20; have hW5 := hW5; go_must (refine (hJ.out _ (by first | exact hW5 | exact hW5.drew)).mono ?_); rintro y w6 ⟨rfl, hb6⟩; have hW6 := hW5.trans (hb6.mono hW5.size))
            | (go_at_call 20; go_must (refine (hI.out _ (by first | exact Below.refl _ _ | exact (Below.refl _ _).drew)).mono ?_); rintro y w5 ⟨rfl, hb5⟩; have hW5 : Below wr.heap.size wr w5 := (by first | exact hb5 | exact (Below.refl _ _).drew.trans hb5)))
        go_wp2
        go_roundw
        case rel => exact ⟨k + 1, _, by go_num, rfl, by omega, HX', by omega, by omega, Lib.hid (HB.out.trans (hW6.mono HB.out.size))⟩
        case measure => simp [intOf]; omega
      · have hk' : k = l.length := by omega
        have hxx := HX.out
        rw [hk', List.take_length] at hxx
        clear HX
        go_wp2
        go_ret
        exact ⟨congrArg (fun z => Ending.returned (.int .i64 z)) (by omega), HB.out⟩
end Go.Proofs.Ytjlnpppjkdcpkaa.My
