-- What the kit's print laid for this claim, without what nothing here uses (wip/shrink.py)
import Derived.Test.YtdmlkjjlgkdnlaaGreatDoorWApart
import Derived.Test.YtdmlkjjlgkdnlaaGreatDoorWArr
namespace Go.Proofs.YtdmlkjjlgkdnlaaGreatDoorW.PrintWords
open Go.RowKit
end Go.Proofs.YtdmlkjjlgkdnlaaGreatDoorW.PrintWords
