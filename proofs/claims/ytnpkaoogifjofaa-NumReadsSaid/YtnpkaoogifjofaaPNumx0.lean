-- written by wip/tools/myprint.py
import Derived.Test.YtnpkaoogifjofaaProg
import Derived.Below
import Derived.Deep.Draws
import Derived.Deep.AppendLies
import Derived.Maps.AppendAt
import Derived.OwnWalk
import Derived.Laws.BytesArg
import Derived.Laws.MakeOwn
import Derived.Laws.OwnMore
import Derived.Deep.OwnRows
import Derived.Tactics
import Derived.Lib.ConvBytes
import Derived.Laws.Slices
import Derived.WalkKit
import Derived.KernelRfl
import Derived.RowKit3
import Derived.Deep.LoopGhost
import Derived.Deep.QuietTactic
import Derived.BigQuiet
import Derived.WideLaws
import Derived.Deep.DeepCutAuto
import Derived.Deep.CutBlock
import Derived.Deep.RegionHeld3
import Derived.Laws.Rows
import Derived.Lib.AppendStr
import Derived.ArgAppend
import Derived.Laws.IdiomCopy
import Derived.OrdersHeld
import Derived.Laws.BitsLemmas
import Derived.RowKit
import Derived.Test.YtnpkaoogifjofaaText
import Derived.Test.YtnpkaoogifjofaaTimes
import Derived.Test.YtnpkaoogifjofaaWWords
import Derived.Test.YtnpkaoogifjofaaWLast
import Derived.Test.YtnpkaoogifjofaaWTab
import Derived.Test.YtnpkaoogifjofaaWFour
import Derived.Test.YtnpkaoogifjofaaWQPut
import Derived.Test.YtnpkaoogifjofaaWApart
import Derived.Test.YtnpkaoogifjofaaWArr
import Derived.Test.YtnpkaoogifjofaaWZeros
import Derived.Test.YtnpkaoogifjofaaWFoot
import Derived.Test.YtnpkaoogifjofaaWKept
import Derived.Test.YtnpkaoogifjofaaWShare
import Derived.Test.YtnpkaoogifjofaaWN
import Derived.Test.YtnpkaoogifjofaaWFootNe
import Derived.Test.YtnpkaoogifjofaaWAt
import Derived.Test.YtnpkaoogifjofaaWEqStruct
import Derived.Test.YtnpkaoogifjofaaWRepsOne
import Derived.Test.YtnpkaoogifjofaaWInv
import Derived.Test.YtnpkaoogifjofaaWInvWords
import Derived.Test.YtnpkaoogifjofaaWGuard
import Derived.Test.YtnpkaoogifjofaaWNEv
import Derived.Test.YtnpkaoogifjofaaWMore
namespace Go.Proofs.Ytnpkaoogifjofaa.PNum
open Go.RowKit Go.Proofs.YtnpkaoogifjofaaW.PrintWords Go.Proofs.YtnpkaoogifjofaaW.PrintLast Go.Proofs.YtnpkaoogifjofaaW.PrintMore
attribute [local go_sem] max2_int min2_int max_two min_two max_three min_three max_four min_four   -- for this text's walks alone
set_option linter.unusedVariables false
set_option linter.unusedSimpArgs false



def errW : Option Int → Value
  | none => .nilIface
  | some c => .iface 0 (.int .i64 c)
theorem errW_none : errW none = .nilIface := rfl
theorem errW_some (c : Int) : errW (some c) = .iface 0 (.int .i64 c) := rfl

-- the values' own types

end Go.Proofs.Ytnpkaoogifjofaa.PNum
