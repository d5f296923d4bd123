/- The guard of the laws of runs; two rows, two effects that are alike are told the same. Conditions: the tree was there in the world W, which is kept. -/
import Derived.Test.YtjlnpppjkdcpkaaGfEvR
import Derived.Test.YtjlnpppjkdcpkaaGfNameL
namespace Go.Proofs.Ytjlnpppjkdcpkaa.My
open Go.RowKit Go.Proofs.Ytjlnpppjkdcpkaa.NumA
set_option linter.unusedVariables false
set_option linter.unusedSimpArgs false
/-- an effect's rows in memory -/
structure Rows3 (w : World) (e : Ev) (M O I : Value) : Prop where
  mem : Row w 2 1 M e.mem.length (nums e.mem)
  outs : Row w 2 1 O e.outs.length (nums e.outs)
  intos : Row w 98 2 I e.intos.length (intoCells e.intos)
theorem Rows3.below {w w' : World} {e : Ev} {M O I : Value} (h : Rows3 w e M O I) (hB : Below w.heap.size w w') : Rows3 w' e M O I := ⟨h.mem.below hB, h.outs.below hB, h.intos.below hB⟩
theorem OutAt.below {w w' : World} {base : Nat} {S : Ev} {M O I : Value} (h : OutAt w base S M O I) (hB : Below w.heap.size w w') : OutAt w' base S M O I := ⟨h.mem.below hB, h.outs.below hB, h.intos.below hB, h.fm, h.fo, h.fi, h.mo⟩
end Go.Proofs.Ytjlnpppjkdcpkaa.My
