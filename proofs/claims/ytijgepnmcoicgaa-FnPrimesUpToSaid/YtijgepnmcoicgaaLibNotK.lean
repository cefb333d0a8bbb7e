/-
  Primes are what smaller primes do not divide, up to 500: asked number by number by the kernel.
-/
import Derived.Test.YtijgepnmcoicgaaLibNot
import Derived.Test.YtijgepnmcoicgaaLibKer
namespace Go.Proofs.Ytijgepnmcoicgaa.Lib
open Go.RowKit Go.Proofs.YtijgepnmcoicgaaW.PrintWords
set_option linter.unusedVariables false
set_option linter.unusedSimpArgs false

def le8 (n : Nat) : Nat := (p8.filter fun p => decide (p ≤ n)).length
theorem pr_all : allR (fun n => le8 (n + 1) + nd1 p8 (n + 1) == le8 n + (if prm (n + 1) = true then 1 else 0)) 1 499 = true := by decide +kernel
theorem pmF_last : ∀ (f d : Nat), pmF d (f + 1) = pmF d f ++ (if prm (d + f) = true then [d + f] else []) := by
  intro f
  induction f with
  | zero => intro d; rw [pmF_succ]; simp [pmF]
  | succ f ih =>
    intro d
    rw [pmF_succ, ih (d + 1), pmF_succ d f, show d + 1 + f = d + (f + 1) by omega]
    split <;> simp
theorem pm_len {n : Nat} (h : 1 ≤ n) : (pm (n + 1)).length = (pm n).length + (if prm (n + 1) = true then 1 else 0) := by
  rw [← pmF_one h, ← pmF_one (show 1 ≤ n + 1 by omega), pmF_last, List.length_append, Nat.add_comm 1 n]
  split <;> rfl
theorem pr_eq : ∀ n, 1 ≤ n → n ≤ 500 → le8 n + nd p8 n = (pm n).length + 1 := by
  intro n
  induction n with
  | zero => intro h; omega
  | succ n ih =>
    intro h1 h2
    by_cases h0 : n = 0
    · subst h0
      decide +kernel
    · have h := allR_at pr_all n (by omega) (by omega)
      rw [beq_iff_eq] at h
      have hi := ih (by omega) (by omega)
      rw [nd_succ, pm_len (by omega)]
      omega
theorem pm500 : (pm 500).length = 95 := by decide +kernel
theorem pm_mono : ∀ (f : Nat), (pm 500).length ≤ (pm (500 + f)).length := by
  intro f
  induction f with
  | zero => exact Nat.le_refl _
  | succ f ih =>
    have := pm_len (n := 500 + f) (by omega)
    rw [← Nat.add_assoc, this]
    omega
theorem pm_most {n : Nat} (h : 500 < n) : 95 ≤ (pm n).length := by
  have := pm_mono (n - 500)
  rw [pm500, show 500 + (n - 500) = n by omega] at this
  exact this
theorem pm_bound {n : Nat} (h1 : 1 ≤ n) : (pm n).length ≤ n := by
  unfold pm pmF
  have := List.length_filter_le prm (List.range' 2 (n - 1))
  rw [List.length_range'] at this
  omega

end Go.Proofs.Ytijgepnmcoicgaa.Lib
