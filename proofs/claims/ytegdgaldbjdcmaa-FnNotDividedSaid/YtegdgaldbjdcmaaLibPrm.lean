/-
  Numbers with just two divisors, and the list of them up to a number.
-/
import Derived.Test.YtegdgaldbjdcmaaLibDiv
namespace Go.Proofs.Ytegdgaldbjdcmaa.Lib
open Go.RowKit Go.Proofs.YtegdgaldbjdcmaaW.PrintWords
set_option linter.unusedVariables false
set_option linter.unusedSimpArgs false

/-- A number has just two divisors. -/
def prm (n : Nat) : Bool := (dv n).length == 2
/-- Those from d on, so many numbers. -/
def pmF (d f : Nat) : List Nat := (List.range' d f).filter prm
def pm (n : Nat) : List Nat := pmF 2 (n - 1)
theorem pmF_succ (d f : Nat) : pmF d (f + 1) = if prm d = true then d :: pmF (d + 1) f else pmF (d + 1) f := by
  unfold pmF
  rw [List.range'_succ, List.filter_cons]
theorem prm_one : prm 1 = false := by decide +kernel
theorem pmF_one {n : Nat} (h : 1 ≤ n) : pmF 1 n = pm n := by
  obtain ⟨m, rfl⟩ : ∃ m, n = m + 1 := ⟨n - 1, by omega⟩
  rw [pmF_succ, prm_one]
  rfl
/-- Two divisors: the number is greater than 1, and none from 2 up to the root divides it. -/
theorem prm_iff {n : Nat} (h1 : 1 ≤ n) (h2 : n ≤ 10000) : prm n = true ↔ 2 ≤ n ∧ ∀ d, 2 ≤ d → d * d ≤ n → n % d ≠ 0 := by
  unfold prm
  rw [beq_iff_eq, dv_eq h1 h2]
  constructor
  · intro hl
    have hn : 2 ≤ n := by
      refine Nat.le_of_not_lt (fun h => ?_)
      have : n = 1 := by omega
      subst this
      simp [dvs, dvF] at hl
    refine ⟨hn, fun d hd hdd hm => ?_⟩
    have hdn : d < n := by
      have : 2 * d ≤ d * d := Nat.mul_le_mul_right d hd
      omega
    have m1 : 1 ∈ dvs n := mem_dvs.2 ⟨by omega, by omega, Nat.mod_one n⟩
    have m2 : d ∈ dvs n := mem_dvs.2 ⟨by omega, by omega, hm⟩
    have m3 : n ∈ dvs n := mem_dvs.2 ⟨by omega, by omega, Nat.mod_self n⟩
    match hq : dvs n, hl with
    | [x, y], _ =>
      rw [hq] at m1 m2 m3
      simp only [List.mem_cons, List.not_mem_nil, or_false] at m1 m2 m3
      omega
  · rintro ⟨hn, hq⟩
    have e : dvs n = [1, n] := by
      refine sorted_ext (dvs_sorted n) (by simp; omega) (fun x => ?_)
      rw [mem_dvs]
      simp only [List.mem_cons, List.not_mem_nil, or_false]
      constructor
      · rintro ⟨a, b, c⟩
        refine Classical.byContradiction (fun hne => ?_)
        have hx1 : x ≠ 1 := fun h => hne (.inl h)
        have hxn : x ≠ n := fun h => hne (.inr h)
        by_cases hxx : x * x ≤ n
        · exact hq x (by omega) hxx c
        · have e2 := mod_mul c
          generalize n / x = q at *
          have hq2 : 2 ≤ q := by
            refine Nat.le_of_not_lt (fun h => ?_)
            have : q = 0 ∨ q = 1 := by omega
            rcases this with rfl | rfl <;> omega
          have hqx : q < x := by
            refine Nat.lt_of_not_le (fun hle => ?_)
            have : x * x ≤ x * q := Nat.mul_le_mul_left x hle
            omega
          have hqq : q * q ≤ n := by
            have : q * q ≤ x * q := Nat.mul_le_mul_right q (by omega)
            omega
          exact hq q hq2 hqq (by rw [← e2]; exact Nat.mul_mod_left _ _)
      · rintro (rfl | rfl)
        · exact ⟨by omega, by omega, Nat.mod_one n⟩
        · exact ⟨by omega, by omega, Nat.mod_self x⟩
    rw [e]; rfl

end Go.Proofs.Ytegdgaldbjdcmaa.Lib
