-- Written for this claim by a program of this session (wip/myprint.sh), after the kit's print; some functions by hand
import Derived.Test.YtijgepnmcoicgaaProg
import Derived.Below
import Derived.Deep.Draws
import Derived.Deep.AppendLies
import Derived.Maps.AppendAt
import Derived.OwnWalk
import Derived.Laws.BytesArg
import Derived.Laws.MakeOwn
import Derived.Laws.OwnMore
import Derived.Deep.OwnRows
import Derived.Tactics
import Derived.Lib.ConvBytes
import Derived.Laws.Slices
import Derived.WalkKit
import Derived.KernelRfl
import Derived.RowKit3
import Derived.Deep.LoopGhost
import Derived.Deep.QuietTactic
import Derived.BigQuiet
import Derived.WideLaws
import Derived.Deep.DeepCutAuto
import Derived.Deep.CutBlock
import Derived.Deep.RegionHeld3
import Derived.Laws.Rows
import Derived.Lib.AppendStr
import Derived.ArgAppend
import Derived.Laws.IdiomCopy
import Derived.OrdersHeld
import Derived.Laws.BitsLemmas
import Derived.RowKit
import Derived.Test.YtijgepnmcoicgaaWWords
import Derived.Test.YtijgepnmcoicgaaWLast
import Derived.Test.YtijgepnmcoicgaaWTab
import Derived.Test.YtijgepnmcoicgaaWFour
import Derived.Test.YtijgepnmcoicgaaWQPut
import Derived.Test.YtijgepnmcoicgaaWApart
import Derived.Test.YtijgepnmcoicgaaWArr
import Derived.Test.YtijgepnmcoicgaaWZeros
import Derived.Test.YtijgepnmcoicgaaWFoot
import Derived.Test.YtijgepnmcoicgaaWKept
import Derived.Test.YtijgepnmcoicgaaWShare
import Derived.Test.YtijgepnmcoicgaaWN
import Derived.Test.YtijgepnmcoicgaaWFootNe
import Derived.Test.YtijgepnmcoicgaaWAt
import Derived.Test.YtijgepnmcoicgaaWEqStruct
import Derived.Test.YtijgepnmcoicgaaWRepsOne
import Derived.Test.YtijgepnmcoicgaaWInv
import Derived.Test.YtijgepnmcoicgaaWInvWords
import Derived.Test.YtijgepnmcoicgaaWGuard
import Derived.Test.YtijgepnmcoicgaaWNEv
import Derived.Test.YtijgepnmcoicgaaWMore
namespace Go.Proofs.Ytijgepnmcoicgaa.PFnPrimesUpTo
open Go.RowKit Go.Proofs.YtijgepnmcoicgaaW.PrintWords Go.Proofs.YtijgepnmcoicgaaW.PrintLast Go.Proofs.YtijgepnmcoicgaaW.PrintMore
attribute [local go_sem] max2_int min2_int max_two min_two max_three min_three max_four min_four   -- for this text's walks alone
set_option linter.unusedVariables false
set_option linter.unusedSimpArgs false



def errW : Option Int → Value
  | none => .nilIface
  | some c => .iface 0 (.int .i64 c)
theorem errW_none : errW none = .nilIface := rfl
theorem errW_some (c : Int) : errW (some c) = .iface 0 (.int .i64 c) := rfl

theorem info3 : (Try.prog.info? 3).map (fun i => (i.zero, i.size, i.bytes)) = some (some (.int .i64 0), 1, 8) := by kernel_rfl
theorem info5 : (Try.prog.info? 5).map (fun i => (i.zero, i.size, i.bytes)) = some (some (.int .u8 0), 1, 1) := by kernel_rfl
-- the values' own types

end Go.Proofs.Ytijgepnmcoicgaa.PFnPrimesUpTo
