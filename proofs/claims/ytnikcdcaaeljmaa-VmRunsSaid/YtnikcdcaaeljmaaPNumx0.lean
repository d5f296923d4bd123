-- written by wip/tools/myprint.py
import Derived.Test.YtnikcdcaaeljmaaProg
import Derived.Below
import Derived.Deep.Draws
import Derived.Deep.AppendLies
import Derived.Maps.AppendAt
import Derived.OwnWalk
import Derived.Laws.BytesArg
import Derived.Laws.MakeOwn
import Derived.Laws.OwnMore
import Derived.Deep.OwnRows
import Derived.Tactics
import Derived.Lib.ConvBytes
import Derived.Laws.Slices
import Derived.WalkKit
import Derived.KernelRfl
import Derived.RowKit3
import Derived.Deep.LoopGhost
import Derived.Deep.QuietTactic
import Derived.BigQuiet
import Derived.WideLaws
import Derived.Deep.DeepCutAuto
import Derived.Deep.CutBlock
import Derived.Deep.RegionHeld3
import Derived.Laws.Rows
import Derived.Lib.AppendStr
import Derived.ArgAppend
import Derived.Laws.IdiomCopy
import Derived.OrdersHeld
import Derived.Laws.BitsLemmas
import Derived.RowKit
import Derived.Test.YtnikcdcaaeljmaaWWords
import Derived.Test.YtnikcdcaaeljmaaWLast
import Derived.Test.YtnikcdcaaeljmaaWApart
import Derived.Test.YtnikcdcaaeljmaaWArr
import Derived.Test.YtnikcdcaaeljmaaWFoot
import Derived.Test.YtnikcdcaaeljmaaWKept
import Derived.Test.YtnikcdcaaeljmaaWShare
import Derived.Test.YtnikcdcaaeljmaaWN
import Derived.Laws.StructEq
import Derived.Test.YtnikcdcaaeljmaaWRepsOne
import Derived.Test.YtnikcdcaaeljmaaWMore
namespace Go.Proofs.Ytnikcdcaaeljmaa.PNum
open Go.RowKit Go.Proofs.YtnikcdcaaeljmaaW.PrintWords Go.Proofs.YtnikcdcaaeljmaaW.PrintLast Go.Proofs.YtnikcdcaaeljmaaW.PrintMore
attribute [local go_sem] max2_int min2_int max_two min_two max_three min_three max_four min_four   -- for this text's walks alone
set_option linter.unusedVariables false
set_option linter.unusedSimpArgs false



-- the values' own types

end Go.Proofs.Ytnikcdcaaeljmaa.PNum
