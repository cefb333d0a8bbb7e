-- What the kit's print laid for this claim, without what nothing here uses (wip/shrink.py)
import Derived.Test.YtdmlkjjlgkdnlaaGreatDoorWTab
namespace Go.Proofs.YtdmlkjjlgkdnlaaGreatDoorW.PrintLast
def up (b:Nat→Bool) (i:Nat):Nat→Bool:=fun j=>if j=i then true else b j
end Go.Proofs.YtdmlkjjlgkdnlaaGreatDoorW.PrintLast
