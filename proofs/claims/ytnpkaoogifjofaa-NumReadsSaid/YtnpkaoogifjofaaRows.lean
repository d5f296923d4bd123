/-
  No cell of these rows narrows 'for every input' (looked for: loops, veiled, ifaces, maps, wideKeys, modest, calm, conditions, laid).
  DERIVED. THE GIVEN ROWS OF THIS SEAT. 10 by the template 'for every input the law returns true; each argument reads behind the call as it read before'; 0 by the template 'total and deterministic' (their statements: YtnpkaoogifjofaaTotals.lean).
  GIVEN WITH THE SEED: the statements are not yours to turn. If you find one false, say at which input.
  Laid BY PROGRAM, IN A SANDBOX (cutbox-rows.mjs): the forced cells as the released guide's own fill.sh prints them over the translation 8b97a33ba94f9fbd… (all of the seat's roots in one cut). By AI agents, Wed Nov 11 2026. No macro, syntax, notation, axiom, sorry.
-/
import Derived.Test.YtnpkaoogifjofaaChecked
import GoSem.Claim
import GoSem.ClaimJoined
import GoSem.ClaimMapViews
import Derived.JoinedTies
import Derived.KernelRfl
namespace Go.Proofs.Ytnpkaoogifjofaa
/- THE CELL 'sum', in the pinned program and in every row, IS THE sha256 OF THE DUMP (.gsa) THAT YtnpkaoogifjofaaProg.lean LOADS. Nothing in Lean hashes anything: it is a label: what it is worth is what the hold of that sum in a sandbox is worth. -/
noncomputable def Try.pinned : Pinned := { name := "ytnpkaoogifjofaa", sum := "8b97a33ba94f9fbd346aa3e2cc901fcfac0ca314377adaef94145d071c9b68c9", checked := Try.checked }
namespace Rows
def none {H : Type} : Left H := { results := [], args := [] }

/-- 'outriderlaw01.NumTwo': WHATEVER THE INPUT: true; the input reads as it did. -/
def numTwoSpec : ChangeSpec := { name := "numTwo", fn := fun _ => fun
  | [d1, d2, d3] => { results := [.lit (.bool true)], args := [d1, d2, d3] }
  | _ => none }
def numTwoRow : OpenClaim := { program := "ytnpkaoogifjofaa", sum := "8b97a33ba94f9fbd346aa3e2cc901fcfac0ca314377adaef94145d071c9b68c9", func := "outrider/outriderlaw01.NumTwo", spec := "numTwo", apart := false }
def NumTwoSaid : Prop := numTwoRow.holds Try.pinned (OpenSpec.ofChange numTwoSpec)

/-- ITS FALSE NEIGHBOUR: 'it returns false'. Refute it at one input. -/
def numTwoWrong : ChangeSpec := { name := "numTwo", fn := fun _ => fun
  | [d1, d2, d3] => { results := [.lit (.bool false)], args := [d1, d2, d3] }
  | _ => none }
def NumTwoWrongFalsely : Prop := numTwoRow.holds Try.pinned (OpenSpec.ofChange numTwoWrong)

/-- 'outriderlaw01.NumOne': WHATEVER THE INPUT: true; the input reads as it did. -/
def numOneSpec : ChangeSpec := { name := "numOne", fn := fun _ => fun
  | [d1, d2] => { results := [.lit (.bool true)], args := [d1, d2] }
  | _ => none }
def numOneRow : OpenClaim := { program := "ytnpkaoogifjofaa", sum := "8b97a33ba94f9fbd346aa3e2cc901fcfac0ca314377adaef94145d071c9b68c9", func := "outrider/outriderlaw01.NumOne", spec := "numOne", apart := false }
def NumOneSaid : Prop := numOneRow.holds Try.pinned (OpenSpec.ofChange numOneSpec)

/-- ITS FALSE NEIGHBOUR: 'it returns false'. Refute it at one input. -/
def numOneWrong : ChangeSpec := { name := "numOne", fn := fun _ => fun
  | [d1, d2] => { results := [.lit (.bool false)], args := [d1, d2] }
  | _ => none }
def NumOneWrongFalsely : Prop := numOneRow.holds Try.pinned (OpenSpec.ofChange numOneWrong)

/-- 'outriderlaw01.NumReads': WHATEVER THE INPUT: true; the input reads as it did. -/
def numReadsSpec : ChangeSpec := { name := "numReads", fn := fun _ => fun
  | [d] => { results := [.lit (.bool true)], args := [d] }
  | _ => none }
def numReadsRow : OpenClaim := { program := "ytnpkaoogifjofaa", sum := "8b97a33ba94f9fbd346aa3e2cc901fcfac0ca314377adaef94145d071c9b68c9", func := "outrider/outriderlaw01.NumReads", spec := "numReads", apart := false }
def NumReadsSaid : Prop := numReadsRow.holds Try.pinned (OpenSpec.ofChange numReadsSpec)

/-- ITS FALSE NEIGHBOUR: 'it returns false'. Refute it at one input. -/
def numReadsWrong : ChangeSpec := { name := "numReads", fn := fun _ => fun
  | [d] => { results := [.lit (.bool false)], args := [d] }
  | _ => none }
def NumReadsWrongFalsely : Prop := numReadsRow.holds Try.pinned (OpenSpec.ofChange numReadsWrong)

/-- 'outriderlaw01.NumBack': WHATEVER THE INPUT: true; the input reads as it did. -/
def numBackSpec : ChangeSpec := { name := "numBack", fn := fun _ => fun
  | [d1, d2] => { results := [.lit (.bool true)], args := [d1, d2] }
  | _ => none }
def numBackRow : OpenClaim := { program := "ytnpkaoogifjofaa", sum := "8b97a33ba94f9fbd346aa3e2cc901fcfac0ca314377adaef94145d071c9b68c9", func := "outrider/outriderlaw01.NumBack", spec := "numBack", apart := false }
def NumBackSaid : Prop := numBackRow.holds Try.pinned (OpenSpec.ofChange numBackSpec)

/-- ITS FALSE NEIGHBOUR: 'it returns false'. Refute it at one input. -/
def numBackWrong : ChangeSpec := { name := "numBack", fn := fun _ => fun
  | [d1, d2] => { results := [.lit (.bool false)], args := [d1, d2] }
  | _ => none }
def NumBackWrongFalsely : Prop := numBackRow.holds Try.pinned (OpenSpec.ofChange numBackWrong)

/-- 'outriderlaw01.NumOrders': WHATEVER THE INPUT: true; the input reads as it did. -/
def numOrdersSpec : ChangeSpec := { name := "numOrders", fn := fun _ => fun
  | [d1, d2] => { results := [.lit (.bool true)], args := [d1, d2] }
  | _ => none }
def numOrdersRow : OpenClaim := { program := "ytnpkaoogifjofaa", sum := "8b97a33ba94f9fbd346aa3e2cc901fcfac0ca314377adaef94145d071c9b68c9", func := "outrider/outriderlaw01.NumOrders", spec := "numOrders", apart := false }
def NumOrdersSaid : Prop := numOrdersRow.holds Try.pinned (OpenSpec.ofChange numOrdersSpec)

/-- ITS FALSE NEIGHBOUR: 'it returns false'. Refute it at one input. -/
def numOrdersWrong : ChangeSpec := { name := "numOrders", fn := fun _ => fun
  | [d1, d2] => { results := [.lit (.bool false)], args := [d1, d2] }
  | _ => none }
def NumOrdersWrongFalsely : Prop := numOrdersRow.holds Try.pinned (OpenSpec.ofChange numOrdersWrong)

/-- 'outriderlaw01.NumGcd': WHATEVER THE INPUT: true; the input reads as it did. -/
def numGcdSpec : ChangeSpec := { name := "numGcd", fn := fun _ => fun
  | [d1, d2] => { results := [.lit (.bool true)], args := [d1, d2] }
  | _ => none }
def numGcdRow : OpenClaim := { program := "ytnpkaoogifjofaa", sum := "8b97a33ba94f9fbd346aa3e2cc901fcfac0ca314377adaef94145d071c9b68c9", func := "outrider/outriderlaw01.NumGcd", spec := "numGcd", apart := false }
def NumGcdSaid : Prop := numGcdRow.holds Try.pinned (OpenSpec.ofChange numGcdSpec)

/-- ITS FALSE NEIGHBOUR: 'it returns false'. Refute it at one input. -/
def numGcdWrong : ChangeSpec := { name := "numGcd", fn := fun _ => fun
  | [d1, d2] => { results := [.lit (.bool false)], args := [d1, d2] }
  | _ => none }
def NumGcdWrongFalsely : Prop := numGcdRow.holds Try.pinned (OpenSpec.ofChange numGcdWrong)

/-- 'outriderlaw01.NumDivides': WHATEVER THE INPUT: true; the input reads as it did. -/
def numDividesSpec : ChangeSpec := { name := "numDivides", fn := fun _ => fun
  | [d1, d2] => { results := [.lit (.bool true)], args := [d1, d2] }
  | _ => none }
def numDividesRow : OpenClaim := { program := "ytnpkaoogifjofaa", sum := "8b97a33ba94f9fbd346aa3e2cc901fcfac0ca314377adaef94145d071c9b68c9", func := "outrider/outriderlaw01.NumDivides", spec := "numDivides", apart := false }
def NumDividesSaid : Prop := numDividesRow.holds Try.pinned (OpenSpec.ofChange numDividesSpec)

/-- ITS FALSE NEIGHBOUR: 'it returns false'. Refute it at one input. -/
def numDividesWrong : ChangeSpec := { name := "numDivides", fn := fun _ => fun
  | [d1, d2] => { results := [.lit (.bool false)], args := [d1, d2] }
  | _ => none }
def NumDividesWrongFalsely : Prop := numDividesRow.holds Try.pinned (OpenSpec.ofChange numDividesWrong)

/-- 'outriderlaw01.NumFloors': WHATEVER THE INPUT: true; the input reads as it did. -/
def numFloorsSpec : ChangeSpec := { name := "numFloors", fn := fun _ => fun
  | [d1, d2] => { results := [.lit (.bool true)], args := [d1, d2] }
  | _ => none }
def numFloorsRow : OpenClaim := { program := "ytnpkaoogifjofaa", sum := "8b97a33ba94f9fbd346aa3e2cc901fcfac0ca314377adaef94145d071c9b68c9", func := "outrider/outriderlaw01.NumFloors", spec := "numFloors", apart := false }
def NumFloorsSaid : Prop := numFloorsRow.holds Try.pinned (OpenSpec.ofChange numFloorsSpec)

/-- ITS FALSE NEIGHBOUR: 'it returns false'. Refute it at one input. -/
def numFloorsWrong : ChangeSpec := { name := "numFloors", fn := fun _ => fun
  | [d1, d2] => { results := [.lit (.bool false)], args := [d1, d2] }
  | _ => none }
def NumFloorsWrongFalsely : Prop := numFloorsRow.holds Try.pinned (OpenSpec.ofChange numFloorsWrong)

/-- 'outriderlaw01.NumCounts': WHATEVER THE INPUT: true; the input reads as it did. -/
def numCountsSpec : ChangeSpec := { name := "numCounts", fn := fun _ => fun
  | [d1, d2] => { results := [.lit (.bool true)], args := [d1, d2] }
  | _ => none }
def numCountsRow : OpenClaim := { program := "ytnpkaoogifjofaa", sum := "8b97a33ba94f9fbd346aa3e2cc901fcfac0ca314377adaef94145d071c9b68c9", func := "outrider/outriderlaw01.NumCounts", spec := "numCounts", apart := false }
def NumCountsSaid : Prop := numCountsRow.holds Try.pinned (OpenSpec.ofChange numCountsSpec)

/-- ITS FALSE NEIGHBOUR: 'it returns false'. Refute it at one input. -/
def numCountsWrong : ChangeSpec := { name := "numCounts", fn := fun _ => fun
  | [d1, d2] => { results := [.lit (.bool false)], args := [d1, d2] }
  | _ => none }
def NumCountsWrongFalsely : Prop := numCountsRow.holds Try.pinned (OpenSpec.ofChange numCountsWrong)

/-- 'outriderlaw01.NumBezout': WHATEVER THE INPUT: true; the input reads as it did. -/
def numBezoutSpec : ChangeSpec := { name := "numBezout", fn := fun _ => fun
  | [d1, d2] => { results := [.lit (.bool true)], args := [d1, d2] }
  | _ => none }
def numBezoutRow : OpenClaim := { program := "ytnpkaoogifjofaa", sum := "8b97a33ba94f9fbd346aa3e2cc901fcfac0ca314377adaef94145d071c9b68c9", func := "outrider/outriderlaw01.NumBezout", spec := "numBezout", apart := false }
def NumBezoutSaid : Prop := numBezoutRow.holds Try.pinned (OpenSpec.ofChange numBezoutSpec)

/-- ITS FALSE NEIGHBOUR: 'it returns false'. Refute it at one input. -/
def numBezoutWrong : ChangeSpec := { name := "numBezout", fn := fun _ => fun
  | [d1, d2] => { results := [.lit (.bool false)], args := [d1, d2] }
  | _ => none }
def NumBezoutWrongFalsely : Prop := numBezoutRow.holds Try.pinned (OpenSpec.ofChange numBezoutWrong)

/- THE SECOND FORM. 'bulk': how many values and letters a reading holds, each counted each time it is reached (what is shared counts as often as it is met; a slice's spare places count too). A statement '..UptoSaid' is the law's where the arguments, and the package variables that the reading takes, are together of bulk at most 1048576: NARROWER than '..Said'. Prove '..Said' where nothing that the law and all that it calls make is longer than what came in: it says more and counts as full. Else prove '..UptoSaid'. A law counts once. -/
mutual
def uptoBulk {H : Type} : DataW H → Nat
  | .lit (.string bytes) => bytes.length + 1
  | .lit _ => 1
  | .nil => 1
  | .ptr d => uptoBulk d + 1
  | .slice elems spare => uptoBulkAll elems + uptoBulkAll spare + 1
  | .agg parts => uptoBulkAll parts + 1
  | .iface _ d => uptoBulk d + 1
  | .map entries => uptoBulkEntries entries + 1
  | .held _ => 1
def uptoBulkAll {H : Type} : List (DataW H) → Nat
  | [] => 0
  | d :: r => uptoBulk d + uptoBulkAll r
def uptoBulkEntries {H : Type} : List (Lit × DataW H) → Nat
  | [] => 0
  | x :: r => uptoBulkEntry x + uptoBulkEntries r
def uptoBulkEntry {H : Type} : Lit × DataW H → Nat
  | (.string bytes, d) => bytes.length + uptoBulk d + 1
  | (_, d) => uptoBulk d + 1
 end
def uptoSmall : (H : Type) → List (DataW H) → Bool := fun _ ds => decide (uptoBulkAll ds ≤ 1048576)
def OpenSpec.upto (s : _root_.Go.ChangeSpec) : _root_.Go.OpenSpec := { _root_.Go.OpenSpec.ofChange s with cond := some uptoSmall }

/-- 'outriderlaw01.NumTwo', WHERE WHAT IT READS IS OF BULK AT MOST 1048576: true; the input reads as it did. -/
def numTwoUptoRow : OpenClaim := { program := "ytnpkaoogifjofaa", sum := "8b97a33ba94f9fbd346aa3e2cc901fcfac0ca314377adaef94145d071c9b68c9", func := "outrider/outriderlaw01.NumTwo", spec := "numTwo", apart := false, narrowed := true }
def NumTwoUptoSaid : Prop := numTwoUptoRow.holds Try.pinned (OpenSpec.upto numTwoSpec)

/-- 'outriderlaw01.NumOne', WHERE WHAT IT READS IS OF BULK AT MOST 1048576: true; the input reads as it did. -/
def numOneUptoRow : OpenClaim := { program := "ytnpkaoogifjofaa", sum := "8b97a33ba94f9fbd346aa3e2cc901fcfac0ca314377adaef94145d071c9b68c9", func := "outrider/outriderlaw01.NumOne", spec := "numOne", apart := false, narrowed := true }
def NumOneUptoSaid : Prop := numOneUptoRow.holds Try.pinned (OpenSpec.upto numOneSpec)

/-- 'outriderlaw01.NumReads', WHERE WHAT IT READS IS OF BULK AT MOST 1048576: true; the input reads as it did. -/
def numReadsUptoRow : OpenClaim := { program := "ytnpkaoogifjofaa", sum := "8b97a33ba94f9fbd346aa3e2cc901fcfac0ca314377adaef94145d071c9b68c9", func := "outrider/outriderlaw01.NumReads", spec := "numReads", apart := false, narrowed := true }
def NumReadsUptoSaid : Prop := numReadsUptoRow.holds Try.pinned (OpenSpec.upto numReadsSpec)

/-- 'outriderlaw01.NumBack', WHERE WHAT IT READS IS OF BULK AT MOST 1048576: true; the input reads as it did. -/
def numBackUptoRow : OpenClaim := { program := "ytnpkaoogifjofaa", sum := "8b97a33ba94f9fbd346aa3e2cc901fcfac0ca314377adaef94145d071c9b68c9", func := "outrider/outriderlaw01.NumBack", spec := "numBack", apart := false, narrowed := true }
def NumBackUptoSaid : Prop := numBackUptoRow.holds Try.pinned (OpenSpec.upto numBackSpec)

/-- 'outriderlaw01.NumOrders', WHERE WHAT IT READS IS OF BULK AT MOST 1048576: true; the input reads as it did. -/
def numOrdersUptoRow : OpenClaim := { program := "ytnpkaoogifjofaa", sum := "8b97a33ba94f9fbd346aa3e2cc901fcfac0ca314377adaef94145d071c9b68c9", func := "outrider/outriderlaw01.NumOrders", spec := "numOrders", apart := false, narrowed := true }
def NumOrdersUptoSaid : Prop := numOrdersUptoRow.holds Try.pinned (OpenSpec.upto numOrdersSpec)

/-- 'outriderlaw01.NumGcd', WHERE WHAT IT READS IS OF BULK AT MOST 1048576: true; the input reads as it did. -/
def numGcdUptoRow : OpenClaim := { program := "ytnpkaoogifjofaa", sum := "8b97a33ba94f9fbd346aa3e2cc901fcfac0ca314377adaef94145d071c9b68c9", func := "outrider/outriderlaw01.NumGcd", spec := "numGcd", apart := false, narrowed := true }
def NumGcdUptoSaid : Prop := numGcdUptoRow.holds Try.pinned (OpenSpec.upto numGcdSpec)

/-- 'outriderlaw01.NumDivides', WHERE WHAT IT READS IS OF BULK AT MOST 1048576: true; the input reads as it did. -/
def numDividesUptoRow : OpenClaim := { program := "ytnpkaoogifjofaa", sum := "8b97a33ba94f9fbd346aa3e2cc901fcfac0ca314377adaef94145d071c9b68c9", func := "outrider/outriderlaw01.NumDivides", spec := "numDivides", apart := false, narrowed := true }
def NumDividesUptoSaid : Prop := numDividesUptoRow.holds Try.pinned (OpenSpec.upto numDividesSpec)

/-- 'outriderlaw01.NumFloors', WHERE WHAT IT READS IS OF BULK AT MOST 1048576: true; the input reads as it did. -/
def numFloorsUptoRow : OpenClaim := { program := "ytnpkaoogifjofaa", sum := "8b97a33ba94f9fbd346aa3e2cc901fcfac0ca314377adaef94145d071c9b68c9", func := "outrider/outriderlaw01.NumFloors", spec := "numFloors", apart := false, narrowed := true }
def NumFloorsUptoSaid : Prop := numFloorsUptoRow.holds Try.pinned (OpenSpec.upto numFloorsSpec)

/-- 'outriderlaw01.NumCounts', WHERE WHAT IT READS IS OF BULK AT MOST 1048576: true; the input reads as it did. -/
def numCountsUptoRow : OpenClaim := { program := "ytnpkaoogifjofaa", sum := "8b97a33ba94f9fbd346aa3e2cc901fcfac0ca314377adaef94145d071c9b68c9", func := "outrider/outriderlaw01.NumCounts", spec := "numCounts", apart := false, narrowed := true }
def NumCountsUptoSaid : Prop := numCountsUptoRow.holds Try.pinned (OpenSpec.upto numCountsSpec)

/-- 'outriderlaw01.NumBezout', WHERE WHAT IT READS IS OF BULK AT MOST 1048576: true; the input reads as it did. -/
def numBezoutUptoRow : OpenClaim := { program := "ytnpkaoogifjofaa", sum := "8b97a33ba94f9fbd346aa3e2cc901fcfac0ca314377adaef94145d071c9b68c9", func := "outrider/outriderlaw01.NumBezout", spec := "numBezout", apart := false, narrowed := true }
def NumBezoutUptoSaid : Prop := numBezoutUptoRow.holds Try.pinned (OpenSpec.upto numBezoutSpec)

end Rows
end Go.Proofs.Ytnpkaoogifjofaa
