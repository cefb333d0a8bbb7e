/-
  The sum of all divisors of all numbers up to one: each number times how often it divides one of them.
-/
import Derived.Test.YtegdgaldbjdcmaaLib
namespace Go.Proofs.Ytegdgaldbjdcmaa.Lib
open Go.RowKit Go.Proofs.YtegdgaldbjdcmaaW.PrintWords
set_option linter.unusedVariables false
set_option linter.unusedSimpArgs false

def suF (n : Nat) : Nat → Nat → Nat
  | 0, _ => 0
  | f + 1, d => d * (n / d) + suF n f (d + 1)
def su (n : Nat) : Nat := suF n n 1

end Go.Proofs.Ytegdgaldbjdcmaa.Lib
