/-
  Sums over a period, at the number itself and at 1: asked of each first number by the kernel.
-/
import Derived.Test.YtijgepnmcoicgaaLibGcd
import Derived.Test.YtijgepnmcoicgaaLibUps
import Derived.Test.YtijgepnmcoicgaaLibKer
namespace Go.Proofs.Ytijgepnmcoicgaa.Lib
open Go.RowKit Go.Proofs.YtijgepnmcoicgaaW.PrintWords
set_option linter.unusedVariables false
set_option linter.unusedSimpArgs false

def rmS (q : Nat) : Int := upF (fun k => rm q (Nat.gcd q k)) q 1
theorem rmS_all : allR (fun q => rmS q == (if q = 1 then 1 else 0)) 1 60 = true := by decide +kernel
theorem rmS_eq {q : Nat} (h1 : 1 ≤ q) (h2 : q ≤ 60) : rmS q = if q = 1 then 1 else 0 := by
  have := allR_at rmS_all q h1 (by omega)
  simpa using this
theorem rmP_all : allR (fun q => rm q q == (ph q : Int)) 1 60 = true := by decide +kernel
theorem rmP_eq {q : Nat} (h1 : 1 ≤ q) (h2 : q ≤ 60) : rm q q = (ph q : Int) := by
  have := allR_at rmP_all q h1 (by omega)
  simpa using this
theorem dv_one : dv 1 = [1] := by decide +kernel
theorem rm_one (q : Nat) : rm q 1 = sg q := by
  unfold rm
  rw [dv_one]
  simp [rmL]
theorem gcd_period (q n : Nat) : Nat.gcd q (n + q) = Nat.gcd q n := by
  rw [Nat.gcd_rec q (n + q), Nat.gcd_rec q n, Nat.add_mod_right]

end Go.Proofs.Ytijgepnmcoicgaa.Lib
