/- The evaluator's statements, walked. Conditions: the tree was there in the world W, which is kept; the machine lies in memory. -/
import Derived.Test.YtjlnpppjkdcpkaaGfEvB
namespace Go.Proofs.Ytjlnpppjkdcpkaa.My
open Go.RowKit Go.Proofs.Ytjlnpppjkdcpkaa.NumA
set_option linter.unusedVariables false
set_option linter.unusedSimpArgs false
/-- what lies elsewhere changes -/
theorem EvAt.apart {w w' : World} {p base : Nat} {B : Int} {S : Ev} {N V M O I : Value} (h : EvAt w p base B S N V M O I) {b : Nat} {cs : Array Value} (hb : w.heap[b]? = some (.cells cs 148 (0, 0))) (k : Keep (fun q => q = b) w w') : EvAt w' p base B S N V M O I :=
  have far : ∀ {v : Value} {z n : Nat} {ty : TypeId} {xs : List Value}, Row w ty z v n xs → ty ≠ 148 → Row w' ty z v n xs := fun hr hne => hr.keep fun g hg => k.block g (hr.lt hg) (fun e => hr.ne hb hne (by rw [hg, e]))
  ⟨k.blk h.blk (fun e => by subst e; have q := h.blk; rw [hb] at q; injection q with q; injection q with _ q; exact absurd q (by decide)), far h.names (by decide), far h.vals (by decide), far h.mem (by decide), far h.outs (by decide), far h.intos (by decide), h.fn, h.fv, h.fm, h.fo, h.fi, h.vm, h.vo, h.mo, h.hb, h.eq⟩
end Go.Proofs.Ytjlnpppjkdcpkaa.My
