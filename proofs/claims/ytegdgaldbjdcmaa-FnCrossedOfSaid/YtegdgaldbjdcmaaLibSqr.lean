/-
  Primes that leave 3, each an even number of times, as a plain test.
-/
import Derived.Test.YtegdgaldbjdcmaaLibFac
namespace Go.Proofs.Ytegdgaldbjdcmaa.Lib
open Go.RowKit Go.Proofs.YtegdgaldbjdcmaaW.PrintWords
set_option linter.unusedVariables false
set_option linter.unusedSimpArgs false

/-- Each prime that leaves 3 divides it an even number of times. -/
def sqF (l : List (Nat × Nat)) : Bool := l.all fun x => !(x.1 % 4 == 3 && x.2 % 2 == 1)
def sqOk (n : Nat) : Bool := sqF (fac n)

end Go.Proofs.Ytegdgaldbjdcmaa.Lib
