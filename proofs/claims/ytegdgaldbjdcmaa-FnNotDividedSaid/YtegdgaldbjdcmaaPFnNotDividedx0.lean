-- Written for this claim by a program of this session (wip/myprint.sh), after the kit's print; some functions by hand
import Derived.Test.YtegdgaldbjdcmaaProg
import Derived.Below
import Derived.Deep.Draws
import Derived.Deep.AppendLies
import Derived.Maps.AppendAt
import Derived.OwnWalk
import Derived.Laws.BytesArg
import Derived.Laws.MakeOwn
import Derived.Laws.OwnMore
import Derived.Deep.OwnRows
import Derived.Tactics
import Derived.Lib.ConvBytes
import Derived.Laws.Slices
import Derived.WalkKit
import Derived.KernelRfl
import Derived.RowKit3
import Derived.Deep.LoopGhost
import Derived.Deep.QuietTactic
import Derived.BigQuiet
import Derived.WideLaws
import Derived.Deep.DeepCutAuto
import Derived.Deep.CutBlock
import Derived.Deep.RegionHeld3
import Derived.Laws.Rows
import Derived.Lib.AppendStr
import Derived.ArgAppend
import Derived.Laws.IdiomCopy
import Derived.OrdersHeld
import Derived.Laws.BitsLemmas
import Derived.RowKit
import Derived.Test.YtegdgaldbjdcmaaWWords
import Derived.Test.YtegdgaldbjdcmaaWLast
import Derived.Test.YtegdgaldbjdcmaaWTab
import Derived.Test.YtegdgaldbjdcmaaWFour
import Derived.Test.YtegdgaldbjdcmaaWQPut
import Derived.Test.YtegdgaldbjdcmaaWApart
import Derived.Test.YtegdgaldbjdcmaaWArr
import Derived.Test.YtegdgaldbjdcmaaWZeros
import Derived.Test.YtegdgaldbjdcmaaWFoot
import Derived.Test.YtegdgaldbjdcmaaWKept
import Derived.Test.YtegdgaldbjdcmaaWShare
import Derived.Test.YtegdgaldbjdcmaaWN
import Derived.Test.YtegdgaldbjdcmaaWFootNe
import Derived.Test.YtegdgaldbjdcmaaWAt
import Derived.Test.YtegdgaldbjdcmaaWEqStruct
import Derived.Test.YtegdgaldbjdcmaaWRepsOne
import Derived.Test.YtegdgaldbjdcmaaWInv
import Derived.Test.YtegdgaldbjdcmaaWInvWords
import Derived.Test.YtegdgaldbjdcmaaWGuard
import Derived.Test.YtegdgaldbjdcmaaWNEv
import Derived.Test.YtegdgaldbjdcmaaWMore
namespace Go.Proofs.Ytegdgaldbjdcmaa.PFnNotDivided
open Go.RowKit Go.Proofs.YtegdgaldbjdcmaaW.PrintWords Go.Proofs.YtegdgaldbjdcmaaW.PrintLast Go.Proofs.YtegdgaldbjdcmaaW.PrintMore
attribute [local go_sem] max2_int min2_int max_two min_two max_three min_three max_four min_four   -- for this text's walks alone
set_option linter.unusedVariables false
set_option linter.unusedSimpArgs false



def errW : Option Int → Value
  | none => .nilIface
  | some c => .iface 0 (.int .i64 c)
theorem errW_none : errW none = .nilIface := rfl
theorem errW_some (c : Int) : errW (some c) = .iface 0 (.int .i64 c) := rfl

theorem info3 : (Try.prog.info? 3).map (fun i => (i.zero, i.size, i.bytes)) = some (some (.int .i64 0), 1, 8) := by kernel_rfl
theorem info5 : (Try.prog.info? 5).map (fun i => (i.zero, i.size, i.bytes)) = some (some (.int .u8 0), 1, 1) := by kernel_rfl
-- the values' own types

end Go.Proofs.Ytegdgaldbjdcmaa.PFnNotDivided
