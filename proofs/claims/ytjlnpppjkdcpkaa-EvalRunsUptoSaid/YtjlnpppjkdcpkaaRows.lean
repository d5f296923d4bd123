/-
  NARROWER THAN 'FOR EVERY INPUT', by the rows' own cells (each row's printed sentence says how): GenMakes: loops · GenJoins: loops · GenTwice: loops · GenFits: loops · EvalRuns: loops · EvalBounds: loops · EvalWithin: loops · EvalStops: loops · EvalOwn: loops.
  DERIVED. THE GIVEN ROWS OF THIS SEAT. 9 by the template 'for every input the law returns true; each argument reads behind the call as it read before'; 0 by the template 'total and deterministic' (their statements: YtjlnpppjkdcpkaaTotals.lean).
  GIVEN WITH THE SEED: the statements are not yours to turn. If you find one false, say at which input.
  Laid BY PROGRAM, IN A SANDBOX (cutbox-rows.mjs): the forced cells as the released guide's own fill.sh prints them over the translation 43203edbfa540814… (all of the seat's roots in one cut). By AI agents, Wed Nov 11 2026. No macro, syntax, notation, axiom, sorry.
-/
import Derived.Test.YtjlnpppjkdcpkaaChecked
import GoSem.Claim
import GoSem.ClaimJoined
import GoSem.ClaimMapViews
import Derived.JoinedTies
import Derived.KernelRfl
namespace Go.Proofs.Ytjlnpppjkdcpkaa
/- THE CELL 'sum', in the pinned program and in every row, IS THE sha256 OF THE DUMP (.gsa) THAT YtjlnpppjkdcpkaaProg.lean LOADS. Nothing in Lean hashes anything: it is a label: what it is worth is what the hold of that sum in a sandbox is worth. -/
noncomputable def Try.pinned : Pinned := { name := "ytjlnpppjkdcpkaa", sum := "43203edbfa540814f5d36806405644c324a0c501d743350dd5431ee15f4d5f3d", checked := Try.checked }
namespace Rows
def none {H : Type} : Left H := { results := [], args := [] }

/-- 'outriderlaw10.GenMakes': WHATEVER THE INPUT: true; the input reads as it did. -/
def genMakesSpec : ChangeSpec := { name := "genMakes", fn := fun _ => fun
  | [d1, d2] => { results := [.lit (.bool true)], args := [d1, d2] }
  | _ => none }
def genMakesRow : OpenClaim := { program := "ytjlnpppjkdcpkaa", sum := "43203edbfa540814f5d36806405644c324a0c501d743350dd5431ee15f4d5f3d", func := "outrider/outriderlaw10.GenMakes", spec := "genMakes", unfollowed := true, recurses := true, loops := true, apart := false }
def GenMakesSaid : Prop := genMakesRow.holds Try.pinned (OpenSpec.ofChange genMakesSpec)

/-- ITS FALSE NEIGHBOUR: 'it returns false'. Refute it at one input. -/
def genMakesWrong : ChangeSpec := { name := "genMakes", fn := fun _ => fun
  | [d1, d2] => { results := [.lit (.bool false)], args := [d1, d2] }
  | _ => none }
def GenMakesWrongFalsely : Prop := genMakesRow.holds Try.pinned (OpenSpec.ofChange genMakesWrong)

/-- 'outriderlaw10.GenJoins': WHATEVER THE INPUT: true; the input reads as it did. -/
def genJoinsSpec : ChangeSpec := { name := "genJoins", fn := fun _ => fun
  | [d1, d2, d3] => { results := [.lit (.bool true)], args := [d1, d2, d3] }
  | _ => none }
def genJoinsRow : OpenClaim := { program := "ytjlnpppjkdcpkaa", sum := "43203edbfa540814f5d36806405644c324a0c501d743350dd5431ee15f4d5f3d", func := "outrider/outriderlaw10.GenJoins", spec := "genJoins", unfollowed := true, recurses := true, loops := true, apart := false }
def GenJoinsSaid : Prop := genJoinsRow.holds Try.pinned (OpenSpec.ofChange genJoinsSpec)

/-- ITS FALSE NEIGHBOUR: 'it returns false'. Refute it at one input. -/
def genJoinsWrong : ChangeSpec := { name := "genJoins", fn := fun _ => fun
  | [d1, d2, d3] => { results := [.lit (.bool false)], args := [d1, d2, d3] }
  | _ => none }
def GenJoinsWrongFalsely : Prop := genJoinsRow.holds Try.pinned (OpenSpec.ofChange genJoinsWrong)

/-- 'outriderlaw10.GenTwice': WHATEVER THE INPUT: true; the input reads as it did. -/
def genTwiceSpec : ChangeSpec := { name := "genTwice", fn := fun _ => fun
  | [d1, d2, d3] => { results := [.lit (.bool true)], args := [d1, d2, d3] }
  | _ => none }
def genTwiceRow : OpenClaim := { program := "ytjlnpppjkdcpkaa", sum := "43203edbfa540814f5d36806405644c324a0c501d743350dd5431ee15f4d5f3d", func := "outrider/outriderlaw10.GenTwice", spec := "genTwice", unfollowed := true, recurses := true, loops := true, apart := false }
def GenTwiceSaid : Prop := genTwiceRow.holds Try.pinned (OpenSpec.ofChange genTwiceSpec)

/-- ITS FALSE NEIGHBOUR: 'it returns false'. Refute it at one input. -/
def genTwiceWrong : ChangeSpec := { name := "genTwice", fn := fun _ => fun
  | [d1, d2, d3] => { results := [.lit (.bool false)], args := [d1, d2, d3] }
  | _ => none }
def GenTwiceWrongFalsely : Prop := genTwiceRow.holds Try.pinned (OpenSpec.ofChange genTwiceWrong)

/-- 'outriderlaw10.GenFits': WHATEVER THE INPUT: true; the input reads as it did. -/
def genFitsSpec : ChangeSpec := { name := "genFits", fn := fun _ => fun
  | [d1, d2] => { results := [.lit (.bool true)], args := [d1, d2] }
  | _ => none }
def genFitsRow : OpenClaim := { program := "ytjlnpppjkdcpkaa", sum := "43203edbfa540814f5d36806405644c324a0c501d743350dd5431ee15f4d5f3d", func := "outrider/outriderlaw10.GenFits", spec := "genFits", unfollowed := true, recurses := true, loops := true, apart := false }
def GenFitsSaid : Prop := genFitsRow.holds Try.pinned (OpenSpec.ofChange genFitsSpec)

/-- ITS FALSE NEIGHBOUR: 'it returns false'. Refute it at one input. -/
def genFitsWrong : ChangeSpec := { name := "genFits", fn := fun _ => fun
  | [d1, d2] => { results := [.lit (.bool false)], args := [d1, d2] }
  | _ => none }
def GenFitsWrongFalsely : Prop := genFitsRow.holds Try.pinned (OpenSpec.ofChange genFitsWrong)

/-- 'outriderlaw07.EvalRuns': WHATEVER THE INPUT: true; the input reads as it did. -/
def evalRunsSpec : ChangeSpec := { name := "evalRuns", fn := fun _ => fun
  | [d] => { results := [.lit (.bool true)], args := [d] }
  | _ => none }
def evalRunsRow : OpenClaim := { program := "ytjlnpppjkdcpkaa", sum := "43203edbfa540814f5d36806405644c324a0c501d743350dd5431ee15f4d5f3d", func := "outrider/outriderlaw07.EvalRuns", spec := "evalRuns", unfollowed := true, recurses := true, loops := true, apart := false }
def EvalRunsSaid : Prop := evalRunsRow.holds Try.pinned (OpenSpec.ofChange evalRunsSpec)

/-- ITS FALSE NEIGHBOUR: 'it returns false'. Refute it at one input. -/
def evalRunsWrong : ChangeSpec := { name := "evalRuns", fn := fun _ => fun
  | [d] => { results := [.lit (.bool false)], args := [d] }
  | _ => none }
def EvalRunsWrongFalsely : Prop := evalRunsRow.holds Try.pinned (OpenSpec.ofChange evalRunsWrong)

/-- 'outriderlaw07.EvalBounds': WHATEVER THE INPUT: true; the input reads as it did. -/
def evalBoundsSpec : ChangeSpec := { name := "evalBounds", fn := fun _ => fun
  | [d1, d2] => { results := [.lit (.bool true)], args := [d1, d2] }
  | _ => none }
def evalBoundsRow : OpenClaim := { program := "ytjlnpppjkdcpkaa", sum := "43203edbfa540814f5d36806405644c324a0c501d743350dd5431ee15f4d5f3d", func := "outrider/outriderlaw07.EvalBounds", spec := "evalBounds", unfollowed := true, recurses := true, loops := true, apart := false }
def EvalBoundsSaid : Prop := evalBoundsRow.holds Try.pinned (OpenSpec.ofChange evalBoundsSpec)

/-- ITS FALSE NEIGHBOUR: 'it returns false'. Refute it at one input. -/
def evalBoundsWrong : ChangeSpec := { name := "evalBounds", fn := fun _ => fun
  | [d1, d2] => { results := [.lit (.bool false)], args := [d1, d2] }
  | _ => none }
def EvalBoundsWrongFalsely : Prop := evalBoundsRow.holds Try.pinned (OpenSpec.ofChange evalBoundsWrong)

/-- 'outriderlaw07.EvalWithin': WHATEVER THE INPUT: true; the input reads as it did. -/
def evalWithinSpec : ChangeSpec := { name := "evalWithin", fn := fun _ => fun
  | [d] => { results := [.lit (.bool true)], args := [d] }
  | _ => none }
def evalWithinRow : OpenClaim := { program := "ytjlnpppjkdcpkaa", sum := "43203edbfa540814f5d36806405644c324a0c501d743350dd5431ee15f4d5f3d", func := "outrider/outriderlaw07.EvalWithin", spec := "evalWithin", unfollowed := true, recurses := true, loops := true, apart := false }
def EvalWithinSaid : Prop := evalWithinRow.holds Try.pinned (OpenSpec.ofChange evalWithinSpec)

/-- ITS FALSE NEIGHBOUR: 'it returns false'. Refute it at one input. -/
def evalWithinWrong : ChangeSpec := { name := "evalWithin", fn := fun _ => fun
  | [d] => { results := [.lit (.bool false)], args := [d] }
  | _ => none }
def EvalWithinWrongFalsely : Prop := evalWithinRow.holds Try.pinned (OpenSpec.ofChange evalWithinWrong)

/-- 'outriderlaw07.EvalStops': WHATEVER THE INPUT: true; the input reads as it did. -/
def evalStopsSpec : ChangeSpec := { name := "evalStops", fn := fun _ => fun
  | [d1, d2] => { results := [.lit (.bool true)], args := [d1, d2] }
  | _ => none }
def evalStopsRow : OpenClaim := { program := "ytjlnpppjkdcpkaa", sum := "43203edbfa540814f5d36806405644c324a0c501d743350dd5431ee15f4d5f3d", func := "outrider/outriderlaw07.EvalStops", spec := "evalStops", unfollowed := true, recurses := true, loops := true, apart := false }
def EvalStopsSaid : Prop := evalStopsRow.holds Try.pinned (OpenSpec.ofChange evalStopsSpec)

/-- ITS FALSE NEIGHBOUR: 'it returns false'. Refute it at one input. -/
def evalStopsWrong : ChangeSpec := { name := "evalStops", fn := fun _ => fun
  | [d1, d2] => { results := [.lit (.bool false)], args := [d1, d2] }
  | _ => none }
def EvalStopsWrongFalsely : Prop := evalStopsRow.holds Try.pinned (OpenSpec.ofChange evalStopsWrong)

/-- 'outriderlaw07.EvalOwn': WHATEVER THE INPUT: true; the input reads as it did. -/
def evalOwnSpec : ChangeSpec := { name := "evalOwn", fn := fun _ => fun
  | [d] => { results := [.lit (.bool true)], args := [d] }
  | _ => none }
def evalOwnRow : OpenClaim := { program := "ytjlnpppjkdcpkaa", sum := "43203edbfa540814f5d36806405644c324a0c501d743350dd5431ee15f4d5f3d", func := "outrider/outriderlaw07.EvalOwn", spec := "evalOwn", unfollowed := true, recurses := true, loops := true, apart := false }
def EvalOwnSaid : Prop := evalOwnRow.holds Try.pinned (OpenSpec.ofChange evalOwnSpec)

/-- ITS FALSE NEIGHBOUR: 'it returns false'. Refute it at one input. -/
def evalOwnWrong : ChangeSpec := { name := "evalOwn", fn := fun _ => fun
  | [d] => { results := [.lit (.bool false)], args := [d] }
  | _ => none }
def EvalOwnWrongFalsely : Prop := evalOwnRow.holds Try.pinned (OpenSpec.ofChange evalOwnWrong)

/- THE SECOND FORM. 'bulk': how many values and letters a reading holds, each counted each time it is reached (what is shared counts as often as it is met; a slice's spare places count too). A statement '..UptoSaid' is the law's where the arguments, and the package variables that the reading takes, are together of bulk at most 1048576: NARROWER than '..Said'. Prove '..Said' where nothing that the law and all that it calls make is longer than what came in: it says more and counts as full. Else prove '..UptoSaid'. A law counts once. -/
mutual
def uptoBulk {H : Type} : DataW H → Nat
  | .lit (.string bytes) => bytes.length + 1
  | .lit _ => 1
  | .nil => 1
  | .ptr d => uptoBulk d + 1
  | .slice elems spare => uptoBulkAll elems + uptoBulkAll spare + 1
  | .agg parts => uptoBulkAll parts + 1
  | .iface _ d => uptoBulk d + 1
  | .map entries => uptoBulkEntries entries + 1
  | .held _ => 1
def uptoBulkAll {H : Type} : List (DataW H) → Nat
  | [] => 0
  | d :: r => uptoBulk d + uptoBulkAll r
def uptoBulkEntries {H : Type} : List (Lit × DataW H) → Nat
  | [] => 0
  | x :: r => uptoBulkEntry x + uptoBulkEntries r
def uptoBulkEntry {H : Type} : Lit × DataW H → Nat
  | (.string bytes, d) => bytes.length + uptoBulk d + 1
  | (_, d) => uptoBulk d + 1
 end
def uptoSmall : (H : Type) → List (DataW H) → Bool := fun _ ds => decide (uptoBulkAll ds ≤ 1048576)
def OpenSpec.upto (s : _root_.Go.ChangeSpec) : _root_.Go.OpenSpec := { _root_.Go.OpenSpec.ofChange s with cond := some uptoSmall }

/-- 'outriderlaw10.GenMakes', WHERE WHAT IT READS IS OF BULK AT MOST 1048576: true; the input reads as it did. -/
def genMakesUptoRow : OpenClaim := { program := "ytjlnpppjkdcpkaa", sum := "43203edbfa540814f5d36806405644c324a0c501d743350dd5431ee15f4d5f3d", func := "outrider/outriderlaw10.GenMakes", spec := "genMakes", unfollowed := true, recurses := true, loops := true, apart := false, narrowed := true }
def GenMakesUptoSaid : Prop := genMakesUptoRow.holds Try.pinned (OpenSpec.upto genMakesSpec)

/-- 'outriderlaw10.GenJoins', WHERE WHAT IT READS IS OF BULK AT MOST 1048576: true; the input reads as it did. -/
def genJoinsUptoRow : OpenClaim := { program := "ytjlnpppjkdcpkaa", sum := "43203edbfa540814f5d36806405644c324a0c501d743350dd5431ee15f4d5f3d", func := "outrider/outriderlaw10.GenJoins", spec := "genJoins", unfollowed := true, recurses := true, loops := true, apart := false, narrowed := true }
def GenJoinsUptoSaid : Prop := genJoinsUptoRow.holds Try.pinned (OpenSpec.upto genJoinsSpec)

/-- 'outriderlaw10.GenTwice', WHERE WHAT IT READS IS OF BULK AT MOST 1048576: true; the input reads as it did. -/
def genTwiceUptoRow : OpenClaim := { program := "ytjlnpppjkdcpkaa", sum := "43203edbfa540814f5d36806405644c324a0c501d743350dd5431ee15f4d5f3d", func := "outrider/outriderlaw10.GenTwice", spec := "genTwice", unfollowed := true, recurses := true, loops := true, apart := false, narrowed := true }
def GenTwiceUptoSaid : Prop := genTwiceUptoRow.holds Try.pinned (OpenSpec.upto genTwiceSpec)

/-- 'outriderlaw10.GenFits', WHERE WHAT IT READS IS OF BULK AT MOST 1048576: true; the input reads as it did. -/
def genFitsUptoRow : OpenClaim := { program := "ytjlnpppjkdcpkaa", sum := "43203edbfa540814f5d36806405644c324a0c501d743350dd5431ee15f4d5f3d", func := "outrider/outriderlaw10.GenFits", spec := "genFits", unfollowed := true, recurses := true, loops := true, apart := false, narrowed := true }
def GenFitsUptoSaid : Prop := genFitsUptoRow.holds Try.pinned (OpenSpec.upto genFitsSpec)

/-- 'outriderlaw07.EvalRuns', WHERE WHAT IT READS IS OF BULK AT MOST 1048576: true; the input reads as it did. -/
def evalRunsUptoRow : OpenClaim := { program := "ytjlnpppjkdcpkaa", sum := "43203edbfa540814f5d36806405644c324a0c501d743350dd5431ee15f4d5f3d", func := "outrider/outriderlaw07.EvalRuns", spec := "evalRuns", unfollowed := true, recurses := true, loops := true, apart := false, narrowed := true }
def EvalRunsUptoSaid : Prop := evalRunsUptoRow.holds Try.pinned (OpenSpec.upto evalRunsSpec)

/-- 'outriderlaw07.EvalBounds', WHERE WHAT IT READS IS OF BULK AT MOST 1048576: true; the input reads as it did. -/
def evalBoundsUptoRow : OpenClaim := { program := "ytjlnpppjkdcpkaa", sum := "43203edbfa540814f5d36806405644c324a0c501d743350dd5431ee15f4d5f3d", func := "outrider/outriderlaw07.EvalBounds", spec := "evalBounds", unfollowed := true, recurses := true, loops := true, apart := false, narrowed := true }
def EvalBoundsUptoSaid : Prop := evalBoundsUptoRow.holds Try.pinned (OpenSpec.upto evalBoundsSpec)

/-- 'outriderlaw07.EvalWithin', WHERE WHAT IT READS IS OF BULK AT MOST 1048576: true; the input reads as it did. -/
def evalWithinUptoRow : OpenClaim := { program := "ytjlnpppjkdcpkaa", sum := "43203edbfa540814f5d36806405644c324a0c501d743350dd5431ee15f4d5f3d", func := "outrider/outriderlaw07.EvalWithin", spec := "evalWithin", unfollowed := true, recurses := true, loops := true, apart := false, narrowed := true }
def EvalWithinUptoSaid : Prop := evalWithinUptoRow.holds Try.pinned (OpenSpec.upto evalWithinSpec)

/-- 'outriderlaw07.EvalStops', WHERE WHAT IT READS IS OF BULK AT MOST 1048576: true; the input reads as it did. -/
def evalStopsUptoRow : OpenClaim := { program := "ytjlnpppjkdcpkaa", sum := "43203edbfa540814f5d36806405644c324a0c501d743350dd5431ee15f4d5f3d", func := "outrider/outriderlaw07.EvalStops", spec := "evalStops", unfollowed := true, recurses := true, loops := true, apart := false, narrowed := true }
def EvalStopsUptoSaid : Prop := evalStopsUptoRow.holds Try.pinned (OpenSpec.upto evalStopsSpec)

/-- 'outriderlaw07.EvalOwn', WHERE WHAT IT READS IS OF BULK AT MOST 1048576: true; the input reads as it did. -/
def evalOwnUptoRow : OpenClaim := { program := "ytjlnpppjkdcpkaa", sum := "43203edbfa540814f5d36806405644c324a0c501d743350dd5431ee15f4d5f3d", func := "outrider/outriderlaw07.EvalOwn", spec := "evalOwn", unfollowed := true, recurses := true, loops := true, apart := false, narrowed := true }
def EvalOwnUptoSaid : Prop := evalOwnUptoRow.holds Try.pinned (OpenSpec.upto evalOwnSpec)

end Rows
end Go.Proofs.Ytjlnpppjkdcpkaa
