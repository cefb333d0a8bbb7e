-- What the kit's print laid for this claim, without what nothing here uses (wip/shrink.py)
import Derived.Test.YtmgjidgfhlclmaaWWords
namespace Go.Proofs.YtmgjidgfhlclmaaW.PrintWords
open Go.RowKit
end Go.Proofs.YtmgjidgfhlclmaaW.PrintWords
