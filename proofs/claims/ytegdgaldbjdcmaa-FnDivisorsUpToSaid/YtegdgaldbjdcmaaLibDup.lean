/-
  How many divisors all numbers up to one have together, as a plain function on whole numbers: twice the rounded quotients, less a square.
-/
import Derived.Test.YtegdgaldbjdcmaaLib
namespace Go.Proofs.Ytegdgaldbjdcmaa.Lib
open Go.RowKit Go.Proofs.YtegdgaldbjdcmaaW.PrintWords
set_option linter.unusedVariables false
set_option linter.unusedSimpArgs false

/-- The loop's value: rounds, the sum, the root, the next divisor. -/
def dupL (n : Nat) : Nat → Nat → Nat → Nat → Int
  | 0, s, r, _ => (s : Int) - (r * r : Nat)
  | f + 1, s, r, d => if d * d ≤ n then dupL n f (s + 2 * (n / d)) d (d + 1) else (s : Int) - (r * r : Nat)
def dup (n : Nat) : Int := dupL n 32 0 0 1

end Go.Proofs.Ytegdgaldbjdcmaa.Lib
