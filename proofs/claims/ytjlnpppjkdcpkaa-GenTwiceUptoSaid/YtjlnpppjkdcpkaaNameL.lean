/- Layer 7: the guards Right, Great; the document's Slots; the comparison of two rows. Conditions: the tree was there in the world W, which is kept; it has at most 10^9 nodes. -/
import Derived.Test.YtjlnpppjkdcpkaaNameM
namespace Go.Proofs.Ytjlnpppjkdcpkaa.My
open Go.RowKit Go.Maps
set_option maxRecDepth 100000 in
theorem right_calls (W : World) (l : List Stmt) (A : Option Addr) (c : Nat) (hrd : Stmt.rds W l A 0) (hl : Stmt.nodesL l ≤ 1000000000) (w : World) (hB : Below W.heap.size W w) :
    Calls Try.prog 17 #[.slice A l.length c] w (AnyB w) := by
  have hal := Stmt.nodesL_len l
  have hI := nodes_calls W _ l A c (Nat.le_refl _) hrd hl w hB
  go_enter Try.func17, Try.ntmps17
  go_wp2_with (go_at_call 28; go_must (refine hI.mono ?_); rintro y w1 ⟨z, rfl, hb1⟩)
  all_goals first
    | (go_ret; exact ⟨_, rfl, hb1⟩)
    | (go_loopw [3] (fun at_ wr => ∃ (k : Nat), at_ = .int .i64 (k : Int) ∧ k ≤ l.length ∧ Below w.heap.size w wr) (fun a _ => l.length - (intOf a).toNat)
       case atStart => exact ⟨0, rfl, Nat.zero_le _, hb1⟩
       case round =>
         obtain ⟨k, rfl, hk, HB⟩ := hrel
         by_cases hlt : k < l.length
         · have hsz := Stmt.nodesL_take l k hlt
           have hne := l[k].nodes_eq
           obtain ⟨b, o, B0, d0, B1, d1, B2, d2, rfl, hbW, g0, g1, g2, g3, g4, g5, e0, e1, e2, hs', r0, r1, r2⟩ := Stmt.at hrd (hB.trans (HB.mono hB.size)) hlt
           have hlt' : ((k : Int) < (l.length : Int)) := by omega
           have hI := Lib.hid (may_calls W _ l[k].kind l[k].name l[k].cell l[k].args l[k].body l[k].els B0 d0 B1 d1 B2 d2 0 (Nat.lt_succ_self _) r0 r1 r2 (by omega) hs' wr (hB.trans (HB.mono hB.size)))
           go_wp2_with (go_at_call 36; go_must (refine hI.out.mono ?_); rintro y w6 ⟨z6, rfl, hb⟩)
           all_goals first
             | (go_ret; exact ⟨_, rfl, HB.trans (hb.mono HB.size)⟩)
             | (go_roundw
                case rel => exact ⟨k + 1, by go_num, by omega, HB.trans (hb.mono HB.size)⟩
                case measure => simp [intOf]; omega)
         · go_wp2
           go_ret
           exact ⟨_, rfl, HB⟩)
theorem great_calls (W : World) (l : List Stmt) (A : Option Addr) (c : Nat) (hrd : Stmt.rds W l A 0) (hl : Stmt.nodesL l ≤ 1000000000) (w : World) (hB : Below W.heap.size W w) :
    Calls Try.prog 12 #[.slice A l.length c] w (AnyB w) := by
  have hI := nodes_calls W _ l A c (Nat.le_refl _) hrd hl w hB
  go_enter Try.func12, Try.ntmps12
  go_wp2_with (go_at_call 28; go_must (refine hI.mono ?_); rintro y w1 ⟨z, rfl, hb1⟩)
  all_goals
    go_ret
    exact ⟨_, rfl, hb1⟩
end Go.Proofs.Ytjlnpppjkdcpkaa.My
