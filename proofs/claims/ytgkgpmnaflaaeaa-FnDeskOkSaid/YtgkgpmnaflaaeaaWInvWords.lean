-- What the kit's print laid for this claim, without what nothing here uses (wip/shrink.py)
import Derived.Test.YtgkgpmnaflaaeaaWInv
import Derived.Test.YtgkgpmnaflaaeaaWFootNe
namespace Go.Proofs.YtgkgpmnaflaaeaaW.PrintLast
end Go.Proofs.YtgkgpmnaflaaeaaW.PrintLast
