-- What the kit's print laid for this claim, without what nothing here uses (wip/shrink.py)
import Derived.Test.YtdmlkjjlgkdnlaaGreatDoorWWords
namespace Go.Proofs.YtdmlkjjlgkdnlaaGreatDoorW.PrintWords
open Go.RowKit
end Go.Proofs.YtdmlkjjlgkdnlaaGreatDoorW.PrintWords
