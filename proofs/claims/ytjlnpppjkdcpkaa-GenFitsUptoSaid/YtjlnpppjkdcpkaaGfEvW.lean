/- The evaluator's whole run, its panic caught. Conditions: the tree was there in the world W, which is kept; the machine lies in memory. -/
import Derived.Test.YtjlnpppjkdcpkaaGfEvO
import Derived.Recover
namespace Go.Proofs.Ytjlnpppjkdcpkaa.My
open Go.RowKit Go.Proofs.Ytjlnpppjkdcpkaa.NumA
set_option linter.unusedVariables false
set_option linter.unusedSimpArgs false
/-- how a run ended -/
def howE : Option (Int × Int) → Int × Int
  | none => (1, 0)
  | some x => x
end Go.Proofs.Ytjlnpppjkdcpkaa.My
