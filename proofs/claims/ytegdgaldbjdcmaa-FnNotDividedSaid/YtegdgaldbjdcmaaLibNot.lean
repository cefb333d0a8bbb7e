/-
  How many numbers none of some primes divides: one prime more takes away those of the number divided by it.
-/
import Derived.Test.YtegdgaldbjdcmaaLibPrm
namespace Go.Proofs.Ytegdgaldbjdcmaa.Lib
open Go.RowKit Go.Proofs.YtegdgaldbjdcmaaW.PrintWords
set_option linter.unusedVariables false
set_option linter.unusedSimpArgs false

def p8 : List Nat := [2, 3, 5, 7, 11, 13, 17, 19]
theorem pm24 : pm 24 = p8 ++ [23] := by decide +kernel
def nd1 (l : List Nat) (i : Nat) : Nat := if l.any (fun p => i % p == 0) = true then 0 else 1
def ndF (l : List Nat) : Nat → Nat → Nat
  | 0, _ => 0
  | f + 1, d => nd1 l d + ndF l f (d + 1)
def nd (l : List Nat) (n : Nat) : Nat := ndF l n 1
theorem nd1_le (l : List Nat) (i : Nat) : nd1 l i ≤ 1 := by unfold nd1; split <;> omega
theorem ndF_last (l : List Nat) : ∀ f d, ndF l (f + 1) d = ndF l f d + nd1 l (d + f) := by
  intro f
  induction f with
  | zero => intro d; simp [ndF]
  | succ f ih =>
    intro d
    have := ih (d + 1)
    simp only [ndF] at this ⊢
    rw [this, show d + 1 + f = d + (f + 1) by omega]
    omega
theorem nd_succ (l : List Nat) (n : Nat) : nd l (n + 1) = nd l n + nd1 l (n + 1) := by
  unfold nd
  rw [ndF_last, Nat.add_comm 1 n]
theorem nd_le (l : List Nat) : ∀ n, nd l n ≤ n := by
  intro n
  induction n with
  | zero => simp [nd, ndF]
  | succ n ih =>
    have := nd1_le l (n + 1)
    rw [nd_succ]
    omega
theorem nd_nil : ∀ n, nd [] n = n := by
  intro n
  induction n with
  | zero => rfl
  | succ n ih => rw [nd_succ, ih]; rfl
theorem nd1_snoc (l : List Nat) (p i : Nat) : nd1 (l ++ [p]) i = if i % p = 0 then 0 else nd1 l i := by
  unfold nd1
  rw [List.any_append]
  by_cases h : i % p = 0
  · simp [h]
  · simp [h]
theorem nd1_mul {l : List Nat} {p : Nat} (hc : ∀ q ∈ l, Nat.Coprime q p) (m : Nat) : nd1 l (p * m) = nd1 l m := by
  unfold nd1
  have e : l.any (fun q => p * m % q == 0) = l.any (fun q => m % q == 0) := by
    induction l with
    | nil => rfl
    | cons x l ih =>
      rw [List.any_cons, List.any_cons, ih (fun q hq => hc q (List.mem_cons_of_mem _ hq))]
      congr 1
      rw [Bool.eq_iff_iff, beq_iff_eq, beq_iff_eq]
      constructor
      · intro h
        exact Nat.mod_eq_zero_of_dvd ((hc x (List.mem_cons_self ..)).dvd_of_dvd_mul_left (Nat.dvd_of_mod_eq_zero h))
      · intro h
        exact Nat.mod_eq_zero_of_dvd (Nat.dvd_trans (Nat.dvd_of_mod_eq_zero h) (Nat.dvd_mul_left m p))
  rw [e]
theorem ndiv_eq {n d : Nat} (h : 1 ≤ d) : (n + 1) / d = n / d + if (n + 1) % d = 0 then 1 else 0 := by
  have e1 := Nat.div_add_mod (n + 1) d
  have e2 := Nat.div_add_mod n d
  have l1 := Nat.mod_lt (n + 1) h
  have l2 := Nat.mod_lt n h
  generalize (n + 1) / d = q1 at *
  generalize n / d = q2 at *
  generalize (n + 1) % d = r1 at *
  generalize n % d = r2 at *
  have hle : q2 ≤ q1 := by
    refine Nat.le_of_not_lt (fun hlt => ?_)
    have : d * (q1 + 1) ≤ d * q2 := Nat.mul_le_mul_left d hlt
    rw [Nat.mul_succ] at this
    omega
  have hle2 : q1 ≤ q2 + 1 := by
    refine Nat.le_of_not_lt (fun hlt => ?_)
    have : d * (q2 + 1 + 1) ≤ d * q1 := Nat.mul_le_mul_left d hlt
    rw [Nat.mul_succ, Nat.mul_succ] at this
    omega
  have hc : q1 = q2 ∨ q1 = q2 + 1 := by omega
  rcases hc with rfl | rfl
  · rw [if_neg (by omega)]
    omega
  · rw [Nat.mul_succ] at e1
    rw [if_pos (by omega)]
/-- One prime more. -/
theorem nd_snoc {l : List Nat} {p : Nat} (hp : 1 ≤ p) (hc : ∀ q ∈ l, Nat.Coprime q p) : ∀ n, nd l n = nd (l ++ [p]) n + nd l (n / p) := by
  intro n
  induction n with
  | zero => simp [nd, ndF]
  | succ n ih =>
    rw [nd_succ, nd_succ (l ++ [p]), nd1_snoc, ndiv_eq hp]
    by_cases h : (n + 1) % p = 0
    · have e := Nat.mul_div_cancel' (Nat.dvd_of_mod_eq_zero h)
      have e2 := ndiv_eq (n := n) hp
      rw [if_pos h] at e2
      rw [if_pos h, if_pos h, nd_succ l (n / p)]
      have e3 : nd1 l (n + 1) = nd1 l (n / p + 1) := by
        rw [← e2, ← nd1_mul hc ((n + 1) / p), e]
      omega
    · rw [if_neg h, if_neg h, show n / p + 0 = n / p from rfl]
      omega
theorem p8_step : ∀ j, j < 8 → ∃ p, p8[j]? = some p ∧ 1 ≤ p ∧ p ≤ 19 ∧ p8.take (j + 1) = p8.take j ++ [p] ∧ ∀ q ∈ p8.take j, Nat.Coprime q p := by
  intro j hj
  match j, hj with
  | 0, _ => exact ⟨2, rfl, by omega, by omega, rfl, by decide⟩
  | 1, _ => exact ⟨3, rfl, by omega, by omega, rfl, by decide⟩
  | 2, _ => exact ⟨5, rfl, by omega, by omega, rfl, by decide⟩
  | 3, _ => exact ⟨7, rfl, by omega, by omega, rfl, by decide⟩
  | 4, _ => exact ⟨11, rfl, by omega, by omega, rfl, by decide⟩
  | 5, _ => exact ⟨13, rfl, by omega, by omega, rfl, by decide⟩
  | 6, _ => exact ⟨17, rfl, by omega, by omega, rfl, by decide⟩
  | 7, _ => exact ⟨19, rfl, by omega, by omega, rfl, by decide⟩

end Go.Proofs.Ytegdgaldbjdcmaa.Lib
