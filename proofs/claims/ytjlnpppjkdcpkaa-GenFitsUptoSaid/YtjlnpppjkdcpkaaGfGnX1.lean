/- GenTwice: a text's instructions don't hang on what was made ahead; what is answered is new memory. Conditions: the arguments lie in memory. -/
import Derived.Test.YtjlnpppjkdcpkaaGfGnA
import Derived.Test.YtjlnpppjkdcpkaaGfNameL
import Derived.Test.YtjlnpppjkdcpkaaGfEvU
namespace Go.Proofs.Ytjlnpppjkdcpkaa.My
open Go.RowKit Go.Proofs.Ytjlnpppjkdcpkaa.NumA
set_option linter.unusedVariables false
set_option linter.unusedSimpArgs false
def TrueB (W : World) (e : Ending) (w' : World) : Prop := e = .returned (.bool true) ∧ Below W.heap.size W w'
theorem genP_len (ss : List Stmt) (L : Int) : (genP ss L).1.length ≤ 600 := by
  unfold genP
  split
  · simp
  · split
    · simp
    · split
      · simp
      · split
        · simp
        · simp; omega
end Go.Proofs.Ytjlnpppjkdcpkaa.My
