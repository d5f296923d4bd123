/-
  NARROWER THAN 'FOR EVERY INPUT', by the rows' own cells (each row's printed sentence says how): NameSlots: loops · NameBegins: loops · NameWithin: loops · NameApart: loops.
  DERIVED. THE GIVEN ROWS OF THIS SEAT. 12 by the template 'for every input the law returns true; each argument reads behind the call as it read before'; 0 by the template 'total and deterministic' (their statements: YtenocgeafmonmaaTotals.lean).
  GIVEN WITH THE SEED: the statements are not yours to turn. If you find one false, say at which input.
  Laid BY PROGRAM, IN A SANDBOX (cutbox-rows.mjs): the forced cells as the released guide's own fill.sh prints them over the translation 784cced003a59669… (all of the seat's roots in one cut). By AI agents, Wed Nov 11 2026. No macro, syntax, notation, axiom, sorry.
-/
import Derived.Test.YtenocgeafmonmaaChecked
import GoSem.Claim
import GoSem.ClaimJoined
import GoSem.ClaimMapViews
import Derived.JoinedTies
import Derived.KernelRfl
namespace Go.Proofs.Ytenocgeafmonmaa
/- THE CELL 'sum', in the pinned program and in every row, IS THE sha256 OF THE DUMP (.gsa) THAT YtenocgeafmonmaaProg.lean LOADS. Nothing in Lean hashes anything: it is a label: what it is worth is what the hold of that sum in a sandbox is worth. -/
noncomputable def Try.pinned : Pinned := { name := "ytenocgeafmonmaa", sum := "784cced003a596697b14d11637a0b297cf3b8ce81c2ade7e8f80e611e13b6ac4", checked := Try.checked }
namespace Rows
def none {H : Type} : Left H := { results := [], args := [] }

/-- 'outriderlaw06.NameSlots': WHATEVER THE INPUT: true; the input reads as it did. -/
def nameSlotsSpec : ChangeSpec := { name := "nameSlots", fn := fun _ => fun
  | [d1, d2] => { results := [.lit (.bool true)], args := [d1, d2] }
  | _ => none }
def nameSlotsRow : OpenClaim := { program := "ytenocgeafmonmaa", sum := "784cced003a596697b14d11637a0b297cf3b8ce81c2ade7e8f80e611e13b6ac4", func := "outrider/outriderlaw06.NameSlots", spec := "nameSlots", recurses := true, loops := true, apart := false }
def NameSlotsSaid : Prop := nameSlotsRow.holds Try.pinned (OpenSpec.ofChange nameSlotsSpec)

/-- ITS FALSE NEIGHBOUR: 'it returns false'. Refute it at one input. -/
def nameSlotsWrong : ChangeSpec := { name := "nameSlots", fn := fun _ => fun
  | [d1, d2] => { results := [.lit (.bool false)], args := [d1, d2] }
  | _ => none }
def NameSlotsWrongFalsely : Prop := nameSlotsRow.holds Try.pinned (OpenSpec.ofChange nameSlotsWrong)

/-- 'outriderlaw06.NameBegins': WHATEVER THE INPUT: true; the input reads as it did. -/
def nameBeginsSpec : ChangeSpec := { name := "nameBegins", fn := fun _ => fun
  | [d1, d2, d3] => { results := [.lit (.bool true)], args := [d1, d2, d3] }
  | _ => none }
def nameBeginsRow : OpenClaim := { program := "ytenocgeafmonmaa", sum := "784cced003a596697b14d11637a0b297cf3b8ce81c2ade7e8f80e611e13b6ac4", func := "outrider/outriderlaw06.NameBegins", spec := "nameBegins", recurses := true, loops := true, apart := false }
def NameBeginsSaid : Prop := nameBeginsRow.holds Try.pinned (OpenSpec.ofChange nameBeginsSpec)

/-- ITS FALSE NEIGHBOUR: 'it returns false'. Refute it at one input. -/
def nameBeginsWrong : ChangeSpec := { name := "nameBegins", fn := fun _ => fun
  | [d1, d2, d3] => { results := [.lit (.bool false)], args := [d1, d2, d3] }
  | _ => none }
def NameBeginsWrongFalsely : Prop := nameBeginsRow.holds Try.pinned (OpenSpec.ofChange nameBeginsWrong)

/-- 'outriderlaw06.NameWithin': WHATEVER THE INPUT: true; the input reads as it did. -/
def nameWithinSpec : ChangeSpec := { name := "nameWithin", fn := fun _ => fun
  | [d1, d2, d3] => { results := [.lit (.bool true)], args := [d1, d2, d3] }
  | _ => none }
def nameWithinRow : OpenClaim := { program := "ytenocgeafmonmaa", sum := "784cced003a596697b14d11637a0b297cf3b8ce81c2ade7e8f80e611e13b6ac4", func := "outrider/outriderlaw06.NameWithin", spec := "nameWithin", recurses := true, loops := true, apart := false }
def NameWithinSaid : Prop := nameWithinRow.holds Try.pinned (OpenSpec.ofChange nameWithinSpec)

/-- ITS FALSE NEIGHBOUR: 'it returns false'. Refute it at one input. -/
def nameWithinWrong : ChangeSpec := { name := "nameWithin", fn := fun _ => fun
  | [d1, d2, d3] => { results := [.lit (.bool false)], args := [d1, d2, d3] }
  | _ => none }
def NameWithinWrongFalsely : Prop := nameWithinRow.holds Try.pinned (OpenSpec.ofChange nameWithinWrong)

/-- 'outriderlaw06.NameApart': WHATEVER THE INPUT: true; the input reads as it did. -/
def nameApartSpec : ChangeSpec := { name := "nameApart", fn := fun _ => fun
  | [d1, d2, d3] => { results := [.lit (.bool true)], args := [d1, d2, d3] }
  | _ => none }
def nameApartRow : OpenClaim := { program := "ytenocgeafmonmaa", sum := "784cced003a596697b14d11637a0b297cf3b8ce81c2ade7e8f80e611e13b6ac4", func := "outrider/outriderlaw06.NameApart", spec := "nameApart", recurses := true, loops := true, apart := false }
def NameApartSaid : Prop := nameApartRow.holds Try.pinned (OpenSpec.ofChange nameApartSpec)

/-- ITS FALSE NEIGHBOUR: 'it returns false'. Refute it at one input. -/
def nameApartWrong : ChangeSpec := { name := "nameApart", fn := fun _ => fun
  | [d1, d2, d3] => { results := [.lit (.bool false)], args := [d1, d2, d3] }
  | _ => none }
def NameApartWrongFalsely : Prop := nameApartRow.holds Try.pinned (OpenSpec.ofChange nameApartWrong)

/-- 'outriderlaw01.NumTwo': WHATEVER THE INPUT: true; the input reads as it did. -/
def numTwoSpec : ChangeSpec := { name := "numTwo", fn := fun _ => fun
  | [d1, d2, d3] => { results := [.lit (.bool true)], args := [d1, d2, d3] }
  | _ => none }
def numTwoRow : OpenClaim := { program := "ytenocgeafmonmaa", sum := "784cced003a596697b14d11637a0b297cf3b8ce81c2ade7e8f80e611e13b6ac4", func := "outrider/outriderlaw01.NumTwo", spec := "numTwo", apart := false }
def NumTwoSaid : Prop := numTwoRow.holds Try.pinned (OpenSpec.ofChange numTwoSpec)

/-- ITS FALSE NEIGHBOUR: 'it returns false'. Refute it at one input. -/
def numTwoWrong : ChangeSpec := { name := "numTwo", fn := fun _ => fun
  | [d1, d2, d3] => { results := [.lit (.bool false)], args := [d1, d2, d3] }
  | _ => none }
def NumTwoWrongFalsely : Prop := numTwoRow.holds Try.pinned (OpenSpec.ofChange numTwoWrong)

/-- 'outriderlaw01.NumOne': WHATEVER THE INPUT: true; the input reads as it did. -/
def numOneSpec : ChangeSpec := { name := "numOne", fn := fun _ => fun
  | [d1, d2] => { results := [.lit (.bool true)], args := [d1, d2] }
  | _ => none }
def numOneRow : OpenClaim := { program := "ytenocgeafmonmaa", sum := "784cced003a596697b14d11637a0b297cf3b8ce81c2ade7e8f80e611e13b6ac4", func := "outrider/outriderlaw01.NumOne", spec := "numOne", apart := false }
def NumOneSaid : Prop := numOneRow.holds Try.pinned (OpenSpec.ofChange numOneSpec)

/-- ITS FALSE NEIGHBOUR: 'it returns false'. Refute it at one input. -/
def numOneWrong : ChangeSpec := { name := "numOne", fn := fun _ => fun
  | [d1, d2] => { results := [.lit (.bool false)], args := [d1, d2] }
  | _ => none }
def NumOneWrongFalsely : Prop := numOneRow.holds Try.pinned (OpenSpec.ofChange numOneWrong)

/-- 'outriderlaw01.NumReads': WHATEVER THE INPUT: true; the input reads as it did. -/
def numReadsSpec : ChangeSpec := { name := "numReads", fn := fun _ => fun
  | [d] => { results := [.lit (.bool true)], args := [d] }
  | _ => none }
def numReadsRow : OpenClaim := { program := "ytenocgeafmonmaa", sum := "784cced003a596697b14d11637a0b297cf3b8ce81c2ade7e8f80e611e13b6ac4", func := "outrider/outriderlaw01.NumReads", spec := "numReads", apart := false }
def NumReadsSaid : Prop := numReadsRow.holds Try.pinned (OpenSpec.ofChange numReadsSpec)

/-- ITS FALSE NEIGHBOUR: 'it returns false'. Refute it at one input. -/
def numReadsWrong : ChangeSpec := { name := "numReads", fn := fun _ => fun
  | [d] => { results := [.lit (.bool false)], args := [d] }
  | _ => none }
def NumReadsWrongFalsely : Prop := numReadsRow.holds Try.pinned (OpenSpec.ofChange numReadsWrong)

/-- 'outriderlaw01.NumBack': WHATEVER THE INPUT: true; the input reads as it did. -/
def numBackSpec : ChangeSpec := { name := "numBack", fn := fun _ => fun
  | [d1, d2] => { results := [.lit (.bool true)], args := [d1, d2] }
  | _ => none }
def numBackRow : OpenClaim := { program := "ytenocgeafmonmaa", sum := "784cced003a596697b14d11637a0b297cf3b8ce81c2ade7e8f80e611e13b6ac4", func := "outrider/outriderlaw01.NumBack", spec := "numBack", apart := false }
def NumBackSaid : Prop := numBackRow.holds Try.pinned (OpenSpec.ofChange numBackSpec)

/-- ITS FALSE NEIGHBOUR: 'it returns false'. Refute it at one input. -/
def numBackWrong : ChangeSpec := { name := "numBack", fn := fun _ => fun
  | [d1, d2] => { results := [.lit (.bool false)], args := [d1, d2] }
  | _ => none }
def NumBackWrongFalsely : Prop := numBackRow.holds Try.pinned (OpenSpec.ofChange numBackWrong)

/-- 'outriderlaw01.NumOrders': WHATEVER THE INPUT: true; the input reads as it did. -/
def numOrdersSpec : ChangeSpec := { name := "numOrders", fn := fun _ => fun
  | [d1, d2] => { results := [.lit (.bool true)], args := [d1, d2] }
  | _ => none }
def numOrdersRow : OpenClaim := { program := "ytenocgeafmonmaa", sum := "784cced003a596697b14d11637a0b297cf3b8ce81c2ade7e8f80e611e13b6ac4", func := "outrider/outriderlaw01.NumOrders", spec := "numOrders", apart := false }
def NumOrdersSaid : Prop := numOrdersRow.holds Try.pinned (OpenSpec.ofChange numOrdersSpec)

/-- ITS FALSE NEIGHBOUR: 'it returns false'. Refute it at one input. -/
def numOrdersWrong : ChangeSpec := { name := "numOrders", fn := fun _ => fun
  | [d1, d2] => { results := [.lit (.bool false)], args := [d1, d2] }
  | _ => none }
def NumOrdersWrongFalsely : Prop := numOrdersRow.holds Try.pinned (OpenSpec.ofChange numOrdersWrong)

/-- 'outriderlaw01.NumGcd': WHATEVER THE INPUT: true; the input reads as it did. -/
def numGcdSpec : ChangeSpec := { name := "numGcd", fn := fun _ => fun
  | [d1, d2] => { results := [.lit (.bool true)], args := [d1, d2] }
  | _ => none }
def numGcdRow : OpenClaim := { program := "ytenocgeafmonmaa", sum := "784cced003a596697b14d11637a0b297cf3b8ce81c2ade7e8f80e611e13b6ac4", func := "outrider/outriderlaw01.NumGcd", spec := "numGcd", apart := false }
def NumGcdSaid : Prop := numGcdRow.holds Try.pinned (OpenSpec.ofChange numGcdSpec)

/-- ITS FALSE NEIGHBOUR: 'it returns false'. Refute it at one input. -/
def numGcdWrong : ChangeSpec := { name := "numGcd", fn := fun _ => fun
  | [d1, d2] => { results := [.lit (.bool false)], args := [d1, d2] }
  | _ => none }
def NumGcdWrongFalsely : Prop := numGcdRow.holds Try.pinned (OpenSpec.ofChange numGcdWrong)

/-- 'outriderlaw01.NumDivides': WHATEVER THE INPUT: true; the input reads as it did. -/
def numDividesSpec : ChangeSpec := { name := "numDivides", fn := fun _ => fun
  | [d1, d2] => { results := [.lit (.bool true)], args := [d1, d2] }
  | _ => none }
def numDividesRow : OpenClaim := { program := "ytenocgeafmonmaa", sum := "784cced003a596697b14d11637a0b297cf3b8ce81c2ade7e8f80e611e13b6ac4", func := "outrider/outriderlaw01.NumDivides", spec := "numDivides", apart := false }
def NumDividesSaid : Prop := numDividesRow.holds Try.pinned (OpenSpec.ofChange numDividesSpec)

/-- ITS FALSE NEIGHBOUR: 'it returns false'. Refute it at one input. -/
def numDividesWrong : ChangeSpec := { name := "numDivides", fn := fun _ => fun
  | [d1, d2] => { results := [.lit (.bool false)], args := [d1, d2] }
  | _ => none }
def NumDividesWrongFalsely : Prop := numDividesRow.holds Try.pinned (OpenSpec.ofChange numDividesWrong)

/-- 'outriderlaw01.NumFloors': WHATEVER THE INPUT: true; the input reads as it did. -/
def numFloorsSpec : ChangeSpec := { name := "numFloors", fn := fun _ => fun
  | [d1, d2] => { results := [.lit (.bool true)], args := [d1, d2] }
  | _ => none }
def numFloorsRow : OpenClaim := { program := "ytenocgeafmonmaa", sum := "784cced003a596697b14d11637a0b297cf3b8ce81c2ade7e8f80e611e13b6ac4", func := "outrider/outriderlaw01.NumFloors", spec := "numFloors", apart := false }
def NumFloorsSaid : Prop := numFloorsRow.holds Try.pinned (OpenSpec.ofChange numFloorsSpec)

/-- ITS FALSE NEIGHBOUR: 'it returns false'. Refute it at one input. -/
def numFloorsWrong : ChangeSpec := { name := "numFloors", fn := fun _ => fun
  | [d1, d2] => { results := [.lit (.bool false)], args := [d1, d2] }
  | _ => none }
def NumFloorsWrongFalsely : Prop := numFloorsRow.holds Try.pinned (OpenSpec.ofChange numFloorsWrong)

/- THE SECOND FORM. 'bulk': how many values and letters a reading holds, each counted each time it is reached (what is shared counts as often as it is met; a slice's spare places count too). A statement '..UptoSaid' is the law's where the arguments, and the package variables that the reading takes, are together of bulk at most 1048576: NARROWER than '..Said'. Prove '..Said' where nothing that the law and all that it calls make is longer than what came in: it says more and counts as full. Else prove '..UptoSaid'. A law counts once. -/
mutual
def uptoBulk {H : Type} : DataW H → Nat
  | .lit (.string bytes) => bytes.length + 1
  | .lit _ => 1
  | .nil => 1
  | .ptr d => uptoBulk d + 1
  | .slice elems spare => uptoBulkAll elems + uptoBulkAll spare + 1
  | .agg parts => uptoBulkAll parts + 1
  | .iface _ d => uptoBulk d + 1
  | .map entries => uptoBulkEntries entries + 1
  | .held _ => 1
def uptoBulkAll {H : Type} : List (DataW H) → Nat
  | [] => 0
  | d :: r => uptoBulk d + uptoBulkAll r
def uptoBulkEntries {H : Type} : List (Lit × DataW H) → Nat
  | [] => 0
  | x :: r => uptoBulkEntry x + uptoBulkEntries r
def uptoBulkEntry {H : Type} : Lit × DataW H → Nat
  | (.string bytes, d) => bytes.length + uptoBulk d + 1
  | (_, d) => uptoBulk d + 1
 end
def uptoSmall : (H : Type) → List (DataW H) → Bool := fun _ ds => decide (uptoBulkAll ds ≤ 1048576)
def OpenSpec.upto (s : _root_.Go.ChangeSpec) : _root_.Go.OpenSpec := { _root_.Go.OpenSpec.ofChange s with cond := some uptoSmall }

/-- 'outriderlaw06.NameSlots', WHERE WHAT IT READS IS OF BULK AT MOST 1048576: true; the input reads as it did. -/
def nameSlotsUptoRow : OpenClaim := { program := "ytenocgeafmonmaa", sum := "784cced003a596697b14d11637a0b297cf3b8ce81c2ade7e8f80e611e13b6ac4", func := "outrider/outriderlaw06.NameSlots", spec := "nameSlots", recurses := true, loops := true, apart := false, narrowed := true }
def NameSlotsUptoSaid : Prop := nameSlotsUptoRow.holds Try.pinned (OpenSpec.upto nameSlotsSpec)

/-- 'outriderlaw06.NameBegins', WHERE WHAT IT READS IS OF BULK AT MOST 1048576: true; the input reads as it did. -/
def nameBeginsUptoRow : OpenClaim := { program := "ytenocgeafmonmaa", sum := "784cced003a596697b14d11637a0b297cf3b8ce81c2ade7e8f80e611e13b6ac4", func := "outrider/outriderlaw06.NameBegins", spec := "nameBegins", recurses := true, loops := true, apart := false, narrowed := true }
def NameBeginsUptoSaid : Prop := nameBeginsUptoRow.holds Try.pinned (OpenSpec.upto nameBeginsSpec)

/-- 'outriderlaw06.NameWithin', WHERE WHAT IT READS IS OF BULK AT MOST 1048576: true; the input reads as it did. -/
def nameWithinUptoRow : OpenClaim := { program := "ytenocgeafmonmaa", sum := "784cced003a596697b14d11637a0b297cf3b8ce81c2ade7e8f80e611e13b6ac4", func := "outrider/outriderlaw06.NameWithin", spec := "nameWithin", recurses := true, loops := true, apart := false, narrowed := true }
def NameWithinUptoSaid : Prop := nameWithinUptoRow.holds Try.pinned (OpenSpec.upto nameWithinSpec)

/-- 'outriderlaw06.NameApart', WHERE WHAT IT READS IS OF BULK AT MOST 1048576: true; the input reads as it did. -/
def nameApartUptoRow : OpenClaim := { program := "ytenocgeafmonmaa", sum := "784cced003a596697b14d11637a0b297cf3b8ce81c2ade7e8f80e611e13b6ac4", func := "outrider/outriderlaw06.NameApart", spec := "nameApart", recurses := true, loops := true, apart := false, narrowed := true }
def NameApartUptoSaid : Prop := nameApartUptoRow.holds Try.pinned (OpenSpec.upto nameApartSpec)

/-- 'outriderlaw01.NumTwo', WHERE WHAT IT READS IS OF BULK AT MOST 1048576: true; the input reads as it did. -/
def numTwoUptoRow : OpenClaim := { program := "ytenocgeafmonmaa", sum := "784cced003a596697b14d11637a0b297cf3b8ce81c2ade7e8f80e611e13b6ac4", func := "outrider/outriderlaw01.NumTwo", spec := "numTwo", apart := false, narrowed := true }
def NumTwoUptoSaid : Prop := numTwoUptoRow.holds Try.pinned (OpenSpec.upto numTwoSpec)

/-- 'outriderlaw01.NumOne', WHERE WHAT IT READS IS OF BULK AT MOST 1048576: true; the input reads as it did. -/
def numOneUptoRow : OpenClaim := { program := "ytenocgeafmonmaa", sum := "784cced003a596697b14d11637a0b297cf3b8ce81c2ade7e8f80e611e13b6ac4", func := "outrider/outriderlaw01.NumOne", spec := "numOne", apart := false, narrowed := true }
def NumOneUptoSaid : Prop := numOneUptoRow.holds Try.pinned (OpenSpec.upto numOneSpec)

/-- 'outriderlaw01.NumReads', WHERE WHAT IT READS IS OF BULK AT MOST 1048576: true; the input reads as it did. -/
def numReadsUptoRow : OpenClaim := { program := "ytenocgeafmonmaa", sum := "784cced003a596697b14d11637a0b297cf3b8ce81c2ade7e8f80e611e13b6ac4", func := "outrider/outriderlaw01.NumReads", spec := "numReads", apart := false, narrowed := true }
def NumReadsUptoSaid : Prop := numReadsUptoRow.holds Try.pinned (OpenSpec.upto numReadsSpec)

/-- 'outriderlaw01.NumBack', WHERE WHAT IT READS IS OF BULK AT MOST 1048576: true; the input reads as it did. -/
def numBackUptoRow : OpenClaim := { program := "ytenocgeafmonmaa", sum := "784cced003a596697b14d11637a0b297cf3b8ce81c2ade7e8f80e611e13b6ac4", func := "outrider/outriderlaw01.NumBack", spec := "numBack", apart := false, narrowed := true }
def NumBackUptoSaid : Prop := numBackUptoRow.holds Try.pinned (OpenSpec.upto numBackSpec)

/-- 'outriderlaw01.NumOrders', WHERE WHAT IT READS IS OF BULK AT MOST 1048576: true; the input reads as it did. -/
def numOrdersUptoRow : OpenClaim := { program := "ytenocgeafmonmaa", sum := "784cced003a596697b14d11637a0b297cf3b8ce81c2ade7e8f80e611e13b6ac4", func := "outrider/outriderlaw01.NumOrders", spec := "numOrders", apart := false, narrowed := true }
def NumOrdersUptoSaid : Prop := numOrdersUptoRow.holds Try.pinned (OpenSpec.upto numOrdersSpec)

/-- 'outriderlaw01.NumGcd', WHERE WHAT IT READS IS OF BULK AT MOST 1048576: true; the input reads as it did. -/
def numGcdUptoRow : OpenClaim := { program := "ytenocgeafmonmaa", sum := "784cced003a596697b14d11637a0b297cf3b8ce81c2ade7e8f80e611e13b6ac4", func := "outrider/outriderlaw01.NumGcd", spec := "numGcd", apart := false, narrowed := true }
def NumGcdUptoSaid : Prop := numGcdUptoRow.holds Try.pinned (OpenSpec.upto numGcdSpec)

/-- 'outriderlaw01.NumDivides', WHERE WHAT IT READS IS OF BULK AT MOST 1048576: true; the input reads as it did. -/
def numDividesUptoRow : OpenClaim := { program := "ytenocgeafmonmaa", sum := "784cced003a596697b14d11637a0b297cf3b8ce81c2ade7e8f80e611e13b6ac4", func := "outrider/outriderlaw01.NumDivides", spec := "numDivides", apart := false, narrowed := true }
def NumDividesUptoSaid : Prop := numDividesUptoRow.holds Try.pinned (OpenSpec.upto numDividesSpec)

/-- 'outriderlaw01.NumFloors', WHERE WHAT IT READS IS OF BULK AT MOST 1048576: true; the input reads as it did. -/
def numFloorsUptoRow : OpenClaim := { program := "ytenocgeafmonmaa", sum := "784cced003a596697b14d11637a0b297cf3b8ce81c2ade7e8f80e611e13b6ac4", func := "outrider/outriderlaw01.NumFloors", spec := "numFloors", apart := false, narrowed := true }
def NumFloorsUptoSaid : Prop := numFloorsUptoRow.holds Try.pinned (OpenSpec.upto numFloorsSpec)

end Rows
end Go.Proofs.Ytenocgeafmonmaa
