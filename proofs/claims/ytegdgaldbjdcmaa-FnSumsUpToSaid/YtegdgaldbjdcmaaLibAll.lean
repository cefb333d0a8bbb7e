/-
  The sum of all divisors by primes, as the program reckons it; sums of divisors go on.
-/
import Derived.Test.YtegdgaldbjdcmaaLibDupK
import Derived.Test.YtegdgaldbjdcmaaLibMul
import Derived.Test.YtegdgaldbjdcmaaLibSums
namespace Go.Proofs.Ytegdgaldbjdcmaa.Lib
open Go.RowKit Go.Proofs.YtegdgaldbjdcmaaW.PrintWords
set_option linter.unusedVariables false
set_option linter.unusedSimpArgs false

def asP (p : Int) : Nat → Int → Int
  | 0, x => x
  | t + 1, x => asP p t (wrap64 ((wrap64 (x * p)) + 1))
def asL : Int → List (Nat × Nat) → Int
  | s, [] => s
  | s, x :: r => asL (wrap64 (s * asP (x.1 : Int) x.2 1)) r
def asW (n : Nat) : Int := asL 1 (fac n)
theorem asW_all : allR (fun n => asW n == (((dv n).sum : Nat) : Int)) 1 1000 = true := by decide +kernel
theorem asW_eq {n : Nat} (h1 : 1 ≤ n) (h2 : n ≤ 1000) : asW n = (((dvs n).sum : Nat) : Int) := by
  have := allR_at asW_all n h1 (by omega)
  rw [dv_eq h1 (by omega)] at this
  simpa using this
theorem succ_div_eq {n d : Nat} (h : 1 ≤ d) : (n + 1) / d = n / d + if (n + 1) % d = 0 then 1 else 0 := by
  have e1 := Nat.div_add_mod (n + 1) d
  have e2 := Nat.div_add_mod n d
  have l1 := Nat.mod_lt (n + 1) h
  have l2 := Nat.mod_lt n h
  generalize (n + 1) / d = q1 at *
  generalize n / d = q2 at *
  generalize (n + 1) % d = r1 at *
  generalize n % d = r2 at *
  have hle : q2 ≤ q1 := by
    refine Nat.le_of_not_lt (fun hlt => ?_)
    have : d * (q1 + 1) ≤ d * q2 := Nat.mul_le_mul_left d hlt
    rw [Nat.mul_succ] at this
    omega
  have hle2 : q1 ≤ q2 + 1 := by
    refine Nat.le_of_not_lt (fun hlt => ?_)
    have : d * (q2 + 1 + 1) ≤ d * q1 := Nat.mul_le_mul_left d hlt
    rw [Nat.mul_succ, Nat.mul_succ] at this
    omega
  have hc : q1 = q2 ∨ q1 = q2 + 1 := by omega
  rcases hc with rfl | rfl
  · rw [if_neg (by omega)]
    omega
  · rw [Nat.mul_succ] at e1
    rw [if_pos (by omega)]
theorem suF_step (n : Nat) : ∀ (f d : Nat), 1 ≤ d → suF (n + 1) f d = suF n f d + (dvF (n + 1) d f).sum := by
  intro f
  induction f with
  | zero => intro d _; simp [suF, dvF]
  | succ f ih =>
    intro d hd
    have ih := ih (d + 1) (by omega)
    simp only [suF]
    rw [dvF_succ, ih, succ_div_eq hd, Nat.mul_add]
    by_cases hm : (n + 1) % d = 0
    · rw [if_pos hm, if_pos hm, List.sum_cons]
      omega
    · rw [if_neg hm, if_neg hm]
      omega
theorem suF_last (n : Nat) : ∀ (f d : Nat), suF n (f + 1) d = suF n f d + (d + f) * (n / (d + f)) := by
  intro f
  induction f with
  | zero => intro d; simp [suF]
  | succ f ih =>
    intro d
    have := ih (d + 1)
    simp only [suF] at this ⊢
    rw [this, show d + 1 + f = d + (f + 1) by omega]
    omega
theorem su_step (n : Nat) : su (n + 1) = su n + (dvs (n + 1)).sum := by
  unfold su dvs
  rw [suF_step n (n + 1) 1 (by omega), suF_last n n 1, show (1 + n) * (n / (1 + n)) = 0 by rw [Nat.div_eq_of_lt (by omega)]; rfl]
  rfl
theorem suF_le (n : Nat) : ∀ (f d : Nat), suF n f d ≤ n * f := by
  intro f
  induction f with
  | zero => intro d; simp [suF]
  | succ f ih =>
    intro d
    have h1 := ih (d + 1)
    have h2 := Nat.mul_div_le n d
    simp only [suF]
    rw [Nat.mul_succ]
    omega
theorem su_le {n : Nat} (h : n ≤ 1000) : su n ≤ 1000000 := by
  have h1 := suF_le n n 1
  have h2 : n * n ≤ 1000 * 1000 := Nat.mul_le_mul h h
  unfold su
  omega

end Go.Proofs.Ytegdgaldbjdcmaa.Lib
