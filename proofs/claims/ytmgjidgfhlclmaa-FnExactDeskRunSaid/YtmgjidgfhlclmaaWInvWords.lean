-- What the kit's print laid for this claim, without what nothing here uses (wip/shrink.py)
import Derived.Test.YtmgjidgfhlclmaaWInv
import Derived.Test.YtmgjidgfhlclmaaWFootNe
namespace Go.Proofs.YtmgjidgfhlclmaaW.PrintLast
end Go.Proofs.YtmgjidgfhlclmaaW.PrintLast
