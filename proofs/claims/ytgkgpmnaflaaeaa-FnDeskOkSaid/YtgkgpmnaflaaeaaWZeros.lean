-- What the kit's print laid for this claim, without what nothing here uses (wip/shrink.py)
import Derived.Test.YtgkgpmnaflaaeaaWApart
import Derived.Test.YtgkgpmnaflaaeaaWArr
namespace Go.Proofs.YtgkgpmnaflaaeaaW.PrintWords
open Go.RowKit
end Go.Proofs.YtgkgpmnaflaaeaaW.PrintWords
