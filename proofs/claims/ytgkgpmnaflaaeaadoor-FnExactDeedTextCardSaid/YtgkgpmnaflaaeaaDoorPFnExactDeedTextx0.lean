-- Written for this claim by a program of this session (wip/myprint.sh), after the kit's print; some functions by hand
import Derived.Test.YtgkgpmnaflaaeaaDoorProg
import Derived.Below
import Derived.Deep.Draws
import Derived.Deep.AppendLies
import Derived.Maps.AppendAt
import Derived.OwnWalk
import Derived.Laws.BytesArg
import Derived.Laws.MakeOwn
import Derived.Laws.OwnMore
import Derived.Deep.OwnRows
import Derived.Tactics
import Derived.Lib.ConvBytes
import Derived.Laws.Slices
import Derived.WalkKit
import Derived.KernelRfl
import Derived.RowKit3
import Derived.Deep.LoopGhost
import Derived.Deep.QuietTactic
import Derived.BigQuiet
import Derived.WideLaws
import Derived.Deep.DeepCutAuto
import Derived.Deep.CutBlock
import Derived.Deep.RegionHeld3
import Derived.Laws.Rows
import Derived.Lib.AppendStr
import Derived.ArgAppend
import Derived.Laws.IdiomCopy
import Derived.OrdersHeld
import Derived.Laws.BitsLemmas
import Derived.RowKit
import Derived.Test.YtgkgpmnaflaaeaaDoorWWords
import Derived.Test.YtgkgpmnaflaaeaaDoorWLast
import Derived.Test.YtgkgpmnaflaaeaaDoorWTab
import Derived.Test.YtgkgpmnaflaaeaaDoorWFour
import Derived.Test.YtgkgpmnaflaaeaaDoorWQPut
import Derived.Test.YtgkgpmnaflaaeaaDoorWApart
import Derived.Test.YtgkgpmnaflaaeaaDoorWArr
import Derived.Test.YtgkgpmnaflaaeaaDoorWZeros
import Derived.Test.YtgkgpmnaflaaeaaDoorWFoot
import Derived.Test.YtgkgpmnaflaaeaaDoorWKept
import Derived.Test.YtgkgpmnaflaaeaaDoorWShare
import Derived.Test.YtgkgpmnaflaaeaaDoorWN
import Derived.Test.YtgkgpmnaflaaeaaDoorWFootNe
import Derived.Test.YtgkgpmnaflaaeaaDoorWAt
import Derived.Test.YtgkgpmnaflaaeaaDoorWEqStruct
import Derived.Test.YtgkgpmnaflaaeaaDoorWRepsOne
import Derived.Test.YtgkgpmnaflaaeaaDoorWInv
import Derived.Test.YtgkgpmnaflaaeaaDoorWInvWords
import Derived.Test.YtgkgpmnaflaaeaaDoorWGuard
import Derived.Test.YtgkgpmnaflaaeaaDoorWNEv
import Derived.Test.YtgkgpmnaflaaeaaDoorWMore
namespace Go.Proofs.YtgkgpmnaflaaeaaDoor.PFnExactDeedText
open Go.RowKit Go.Proofs.YtgkgpmnaflaaeaaDoorW.PrintWords Go.Proofs.YtgkgpmnaflaaeaaDoorW.PrintLast Go.Proofs.YtgkgpmnaflaaeaaDoorW.PrintMore
attribute [local go_sem] max2_int min2_int max_two min_two max_three min_three max_four min_four   -- for this text's walks alone
set_option linter.unusedVariables false
set_option linter.unusedSimpArgs false



def errW : Option Int → Value
  | none => .nilIface
  | some c => .iface 0 (.int .i64 c)
theorem errW_none : errW none = .nilIface := rfl
theorem errW_some (c : Int) : errW (some c) = .iface 0 (.int .i64 c) := rfl

theorem info5 : (Tryd.prog.info? 5).map (fun i => (i.zero, i.size, i.bytes)) = some (some (.int .u8 0), 1, 1) := by kernel_rfl
-- the values' own types

end Go.Proofs.YtgkgpmnaflaaeaaDoor.PFnExactDeedText
