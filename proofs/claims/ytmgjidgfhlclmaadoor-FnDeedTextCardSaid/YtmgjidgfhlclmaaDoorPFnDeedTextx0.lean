-- Written for this claim by a program of this session (wip/myprint.sh), after the kit's print; some functions by hand
import Derived.Test.YtmgjidgfhlclmaaDoorProg
import Derived.Below
import Derived.Deep.Draws
import Derived.Deep.AppendLies
import Derived.Maps.AppendAt
import Derived.OwnWalk
import Derived.Laws.BytesArg
import Derived.Laws.MakeOwn
import Derived.Laws.OwnMore
import Derived.Deep.OwnRows
import Derived.Tactics
import Derived.Lib.ConvBytes
import Derived.Laws.Slices
import Derived.WalkKit
import Derived.KernelRfl
import Derived.RowKit3
import Derived.Deep.LoopGhost
import Derived.Deep.QuietTactic
import Derived.BigQuiet
import Derived.WideLaws
import Derived.Deep.DeepCutAuto
import Derived.Deep.CutBlock
import Derived.Deep.RegionHeld3
import Derived.Laws.Rows
import Derived.Lib.AppendStr
import Derived.ArgAppend
import Derived.Laws.IdiomCopy
import Derived.OrdersHeld
import Derived.Laws.BitsLemmas
import Derived.RowKit
import Derived.Test.YtmgjidgfhlclmaaDoorWWords
import Derived.Test.YtmgjidgfhlclmaaDoorWLast
import Derived.Test.YtmgjidgfhlclmaaDoorWTab
import Derived.Test.YtmgjidgfhlclmaaDoorWFour
import Derived.Test.YtmgjidgfhlclmaaDoorWQPut
import Derived.Test.YtmgjidgfhlclmaaDoorWApart
import Derived.Test.YtmgjidgfhlclmaaDoorWArr
import Derived.Test.YtmgjidgfhlclmaaDoorWZeros
import Derived.Test.YtmgjidgfhlclmaaDoorWFoot
import Derived.Test.YtmgjidgfhlclmaaDoorWKept
import Derived.Test.YtmgjidgfhlclmaaDoorWShare
import Derived.Test.YtmgjidgfhlclmaaDoorWN
import Derived.Test.YtmgjidgfhlclmaaDoorWFootNe
import Derived.Test.YtmgjidgfhlclmaaDoorWAt
import Derived.Test.YtmgjidgfhlclmaaDoorWEqStruct
import Derived.Test.YtmgjidgfhlclmaaDoorWRepsOne
import Derived.Test.YtmgjidgfhlclmaaDoorWInv
import Derived.Test.YtmgjidgfhlclmaaDoorWInvWords
import Derived.Test.YtmgjidgfhlclmaaDoorWGuard
import Derived.Test.YtmgjidgfhlclmaaDoorWNEv
import Derived.Test.YtmgjidgfhlclmaaDoorWMore
namespace Go.Proofs.YtmgjidgfhlclmaaDoor.PFnDeedText
open Go.RowKit Go.Proofs.YtmgjidgfhlclmaaDoorW.PrintWords Go.Proofs.YtmgjidgfhlclmaaDoorW.PrintLast Go.Proofs.YtmgjidgfhlclmaaDoorW.PrintMore
attribute [local go_sem] max2_int min2_int max_two min_two max_three min_three max_four min_four   -- for this text's walks alone
set_option linter.unusedVariables false
set_option linter.unusedSimpArgs false



def errW : Option Int → Value
  | none => .nilIface
  | some c => .iface 0 (.int .i64 c)
theorem errW_none : errW none = .nilIface := rfl
theorem errW_some (c : Int) : errW (some c) = .iface 0 (.int .i64 c) := rfl

theorem info3 : (Tryd.prog.info? 3).map (fun i => (i.zero, i.size, i.bytes)) = some (some (.int .i64 0), 1, 8) := by kernel_rfl
theorem info5 : (Tryd.prog.info? 5).map (fun i => (i.zero, i.size, i.bytes)) = some (some (.int .u8 0), 1, 1) := by kernel_rfl
theorem info9 : (Tryd.prog.info? 9).map (fun i => (i.zero, i.size, i.bytes)) = some (some (.string ⟨#[]⟩), 1, 16) := by kernel_rfl
-- the values' own types

end Go.Proofs.YtmgjidgfhlclmaaDoor.PFnDeedText
