/- Greatest common divisors by remainders; sums of divisors times signs.
-/
import Derived.Test.YtdmlkjjlgkdnlaaGreatDoorLibMul
import Derived.Test.YtdmlkjjlgkdnlaaGreatDoorLibDiv
namespace Go.Proofs.YtdmlkjjlgkdnlaaGreatDoor.Lib
open Go.RowKit Go.Proofs.YtdmlkjjlgkdnlaaGreatDoorW.PrintWords
set_option linter.unusedVariables false
set_option linter.unusedSimpArgs false
theorem gcd_step (a b:Nat):Nat.gcd b (a%b)=Nat.gcd a b:=by
 rw[Nat.gcd_comm b (a%b),<-Nat.gcd_rec,Nat.gcd_comm]
end Go.Proofs.YtdmlkjjlgkdnlaaGreatDoor.Lib
