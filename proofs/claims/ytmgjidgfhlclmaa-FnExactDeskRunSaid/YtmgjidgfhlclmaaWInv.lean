-- What the kit's print laid for this claim, without what nothing here uses (wip/shrink.py)
import Derived.Test.YtmgjidgfhlclmaaWTab
namespace Go.Proofs.YtmgjidgfhlclmaaW.PrintLast
def up (b : Nat → Bool) (i : Nat) : Nat → Bool := fun j => if j = i then true else b j
end Go.Proofs.YtmgjidgfhlclmaaW.PrintLast
