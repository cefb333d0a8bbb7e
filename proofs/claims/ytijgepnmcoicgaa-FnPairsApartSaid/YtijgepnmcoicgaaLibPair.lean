/-
  How many pairs up to a number are apart, one by one: up to 30 as many as the sum of signs tells, by the kernel.
-/
import Derived.Test.YtijgepnmcoicgaaLibStep
namespace Go.Proofs.Ytijgepnmcoicgaa.Lib
open Go.RowKit Go.Proofs.YtijgepnmcoicgaaW.PrintWords
set_option linter.unusedVariables false
set_option linter.unusedSimpArgs false

def cpR (x : Nat) : Nat → Nat → Nat
  | 0, _ => 0
  | f + 1, j => (if Nat.gcd x j = 1 then 1 else 0) + cpR x f (j + 1)
def cpA (n : Nat) : Nat → Nat → Nat
  | 0, _ => 0
  | f + 1, x => cpR x n 1 + cpA n f (x + 1)
theorem cp_all : allR (fun n => ((cpA n n 1 : Nat) : Int) == prS n) 1 30 = true := by decide +kernel
theorem cp_eq {n : Nat} (h1 : 1 ≤ n) (h2 : n ≤ 30) : ((cpA n n 1 : Nat) : Int) = prS n := by
  have := allR_at cp_all n h1 (by omega)
  simpa using this
theorem cpR_le (x : Nat) : ∀ f j, cpR x f j ≤ f := by
  intro f
  induction f with
  | zero => intro j; simp [cpR]
  | succ f ih =>
    intro j
    have := ih (j + 1)
    simp only [cpR]
    split <;> omega

end Go.Proofs.Ytijgepnmcoicgaa.Lib
