/-
  Sums over all numbers up to one: of how many are apart, of signs, of signs times squares of quotients.
-/
import Derived.Test.YtgkgpmnaflaaeaaLibMul
namespace Go.Proofs.Ytgkgpmnaflaaeaa.Lib
open Go.RowKit Go.Proofs.YtgkgpmnaflaaeaaW.PrintWords
set_option linter.unusedVariables false
set_option linter.unusedSimpArgs false

/-- The sum of g over so many numbers from d on. -/
def upF (g : Nat → Int) : Nat → Nat → Int
  | 0, _ => 0
  | f + 1, d => g d + upF g f (d + 1)
def apS (n : Nat) : Int := upF (fun d => (ph d : Int)) n 1
def sgS (n : Nat) : Int := upF sg n 1
def prG (n d : Nat) : Int := sg d * ((n / d : Nat) : Int) * ((n / d : Nat) : Int)
def prS (n : Nat) : Int := upF (prG n) n 1
theorem prG_rng {n d : Nat} (hn : n ≤ 1000) : -1000000 ≤ prG n d ∧ prG n d ≤ 1000000 := by
  have hs := sg_rng d
  have hq : n / d ≤ 1000 := Nat.le_trans (Nat.div_le_self _ _) hn
  unfold prG
  generalize n / d = q at *
  have hqq : q * q ≤ 1000 * 1000 := Nat.mul_le_mul hq hq
  have hc : (q : Int) * (q : Int) = ((q * q : Nat) : Int) := by simp
  rw [Int.mul_assoc, hc]
  generalize q * q = z at *
  have x1 : sg d = -1 ∨ sg d = 0 ∨ sg d = 1 := by omega
  rcases x1 with x | x | x <;> rw [x] <;> omega
theorem upF_last (g : Nat → Int) : ∀ f d, upF g (f + 1) d = upF g f d + g (d + f) := by
  intro f
  induction f with
  | zero => intro d; simp [upF]
  | succ f ih =>
    intro d
    have := ih (d + 1)
    simp only [upF] at this ⊢
    rw [this, show d + 1 + f = d + (f + 1) by omega]
    omega

end Go.Proofs.Ytgkgpmnaflaaeaa.Lib
