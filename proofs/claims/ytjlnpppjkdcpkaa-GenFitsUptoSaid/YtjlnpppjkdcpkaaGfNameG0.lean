/- Layer 7: the guard Name of a text: it ends with a truth value and changes nothing that was there. -/
import Derived.Test.YtjlnpppjkdcpkaaGfNameR2
namespace Go.Proofs.Ytjlnpppjkdcpkaa.My
open Go.RowKit Go.Maps
/-- a truth value, and what was there is kept -/
def AnyB (w : World) (e : Ending) (w' : World) : Prop := ∃ b, e = .returned (.bool b) ∧ Below w.heap.size w w'
end Go.Proofs.Ytjlnpppjkdcpkaa.My
