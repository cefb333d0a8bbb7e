-- What the kit's print laid for this claim, without what nothing here uses (wip/shrink.py)
import Derived.Test.YtdmlkjjlgkdnlaaGreatDoorWInv
import Derived.Test.YtdmlkjjlgkdnlaaGreatDoorWFootNe
namespace Go.Proofs.YtdmlkjjlgkdnlaaGreatDoorW.PrintLast
end Go.Proofs.YtdmlkjjlgkdnlaaGreatDoorW.PrintLast
