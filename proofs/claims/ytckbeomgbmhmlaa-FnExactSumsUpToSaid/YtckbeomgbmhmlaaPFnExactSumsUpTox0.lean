-- Written for this claim by a program of this session (wip/myprint.sh), after the kit's print; some functions by hand
import Derived.Test.YtckbeomgbmhmlaaProg
import Derived.Below
import Derived.Deep.Draws
import Derived.Deep.AppendLies
import Derived.Maps.AppendAt
import Derived.OwnWalk
import Derived.Laws.BytesArg
import Derived.Laws.MakeOwn
import Derived.Laws.OwnMore
import Derived.Deep.OwnRows
import Derived.Tactics
import Derived.Lib.ConvBytes
import Derived.Laws.Slices
import Derived.WalkKit
import Derived.KernelRfl
import Derived.RowKit3
import Derived.Deep.LoopGhost
import Derived.Deep.QuietTactic
import Derived.BigQuiet
import Derived.WideLaws
import Derived.Deep.DeepCutAuto
import Derived.Deep.CutBlock
import Derived.Deep.RegionHeld3
import Derived.Laws.Rows
import Derived.Lib.AppendStr
import Derived.ArgAppend
import Derived.Laws.IdiomCopy
import Derived.OrdersHeld
import Derived.Laws.BitsLemmas
import Derived.RowKit
import Derived.Test.YtckbeomgbmhmlaaWWords
import Derived.Test.YtckbeomgbmhmlaaWLast
import Derived.Test.YtckbeomgbmhmlaaWTab
import Derived.Test.YtckbeomgbmhmlaaWFour
import Derived.Test.YtckbeomgbmhmlaaWQPut
import Derived.Test.YtckbeomgbmhmlaaWApart
import Derived.Test.YtckbeomgbmhmlaaWArr
import Derived.Test.YtckbeomgbmhmlaaWZeros
import Derived.Test.YtckbeomgbmhmlaaWFoot
import Derived.Test.YtckbeomgbmhmlaaWKept
import Derived.Test.YtckbeomgbmhmlaaWShare
import Derived.Test.YtckbeomgbmhmlaaWN
import Derived.Test.YtckbeomgbmhmlaaWFootNe
import Derived.Test.YtckbeomgbmhmlaaWAt
import Derived.Test.YtckbeomgbmhmlaaWEqStruct
import Derived.Test.YtckbeomgbmhmlaaWRepsOne
import Derived.Test.YtckbeomgbmhmlaaWInv
import Derived.Test.YtckbeomgbmhmlaaWInvWords
import Derived.Test.YtckbeomgbmhmlaaWGuard
import Derived.Test.YtckbeomgbmhmlaaWNEv
import Derived.Test.YtckbeomgbmhmlaaWMore
namespace Go.Proofs.Ytckbeomgbmhmlaa.PFnExactSumsUpTo
open Go.RowKit Go.Proofs.YtckbeomgbmhmlaaW.PrintWords Go.Proofs.YtckbeomgbmhmlaaW.PrintLast Go.Proofs.YtckbeomgbmhmlaaW.PrintMore
attribute [local go_sem] max2_int min2_int max_two min_two max_three min_three max_four min_four   -- for this text's walks alone
set_option linter.unusedVariables false
set_option linter.unusedSimpArgs false



def errW : Option Int → Value
  | none => .nilIface
  | some c => .iface 0 (.int .i64 c)
theorem errW_none : errW none = .nilIface := rfl
theorem errW_some (c : Int) : errW (some c) = .iface 0 (.int .i64 c) := rfl

-- the values' own types

end Go.Proofs.Ytckbeomgbmhmlaa.PFnExactSumsUpTo
