/- Layer 7: the guards Right, Great; the document's Slots; the comparison of two rows. Conditions: the tree was there in the world W, which is kept; it has at most 10^9 nodes. -/
import Derived.Test.YtjlnpppjkdcpkaaGfNameH
namespace Go.Proofs.Ytjlnpppjkdcpkaa.My
open Go.RowKit Go.Maps
theorem great_calls (W : World) (l : List Stmt) (A : Option Addr) (c : Nat) (hrd : Stmt.rds W l A 0) (hl : Stmt.nodesL l ≤ 1000000000) (w : World) (hB : Below W.heap.size W w) :
    Calls Try.prog 12 #[.slice A l.length c] w (AnyB w) := by
  have hI := nodes_calls W _ l A c (Nat.le_refl _) hrd hl w hB
  go_enter Try.func12, Try.ntmps12
  go_wp2_with (go_at_call 28; go_must (refine hI.mono ?_); rintro y w1 ⟨z, rfl, hb1⟩)
  all_goals
    go_ret
    exact ⟨_, rfl, hb1⟩
end Go.Proofs.Ytjlnpppjkdcpkaa.My
