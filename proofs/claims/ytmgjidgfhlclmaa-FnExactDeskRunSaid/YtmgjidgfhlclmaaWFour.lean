-- What the kit's print laid for this claim, without what nothing here uses (wip/shrink.py)
import Derived.Test.YtmgjidgfhlclmaaWTab
namespace Go.Proofs.YtmgjidgfhlclmaaW.PrintLast
end Go.Proofs.YtmgjidgfhlclmaaW.PrintLast
