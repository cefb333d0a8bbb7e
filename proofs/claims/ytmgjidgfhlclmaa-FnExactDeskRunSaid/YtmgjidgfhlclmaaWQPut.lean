-- What the kit's print laid for this claim, without what nothing here uses (wip/shrink.py)
import Derived.Test.YtmgjidgfhlclmaaWWords
import Derived.Test.YtmgjidgfhlclmaaWLast
namespace Go.Proofs.YtmgjidgfhlclmaaW.PrintWords
open Go.RowKit
end Go.Proofs.YtmgjidgfhlclmaaW.PrintWords
