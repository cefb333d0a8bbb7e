/-
  Products of two sums, added over a period.
-/
import Derived.Test.YtijgepnmcoicgaaLibGcd
namespace Go.Proofs.Ytijgepnmcoicgaa.Lib
open Go.RowKit Go.Proofs.YtijgepnmcoicgaaW.PrintWords
set_option linter.unusedVariables false
set_option linter.unusedSimpArgs false

def opT (q p n : Nat) : Int := rm q (Nat.gcd q n) * rm p (Nat.gcd p n)
def opF (q p : Nat) : Nat → Nat → Int
  | 0, _ => 0
  | f + 1, n => opT q p n + opF q p f (n + 1)
def op (q p : Nat) : Int := opF q p (q * p) 1
theorem mul_rng {a b m : Int} (h1 : -m ≤ a) (h2 : a ≤ m) (h3 : -m ≤ b) (h4 : b ≤ m) : -(m * m) ≤ a * b ∧ a * b ≤ m * m := by
  have hm : 0 ≤ m := by omega
  have ha : a.natAbs ≤ m.natAbs := by omega
  have hb : b.natAbs ≤ m.natAbs := by omega
  have h := Nat.mul_le_mul ha hb
  rw [← Int.natAbs_mul, ← Int.natAbs_mul] at h
  have hmm : 0 ≤ m * m := Int.mul_nonneg hm hm
  omega
theorem opT_rng {q p n : Nat} (h1 : 1 ≤ q) (h2 : q ≤ 30) (h3 : 1 ≤ p) (h4 : p ≤ 30) : -12960000 ≤ opT q p n ∧ opT q p n ≤ 12960000 := by
  have a1 := Nat.gcd_pos_of_pos_left n h1
  have a2 := Nat.gcd_le_left n h1
  have b1 := Nat.gcd_pos_of_pos_left n h3
  have b2 := Nat.gcd_le_left n h3
  have a := rm_rng (q := q) a1 (by omega)
  have b := rm_rng (q := p) b1 (by omega)
  exact mul_rng a.1 a.2 b.1 b.2

end Go.Proofs.Ytijgepnmcoicgaa.Lib
