/-
  Ways of five times and of twice a number: asked number by number by the kernel.
-/
import Derived.Test.YtegdgaldbjdcmaaLibJac
namespace Go.Proofs.Ytegdgaldbjdcmaa.Lib
open Go.RowKit Go.Proofs.YtegdgaldbjdcmaaW.PrintWords
set_option linter.unusedVariables false
set_option linter.unusedSimpArgs false

noncomputable def fiveB (n : Nat) : Bool := cond (Nat.beq (Nat.mod n 5) 0) true (Nat.beq (Nat.add (byK (Nat.mul 5 n) 101 1 0 0).1 (Nat.mul 2 (byK n 101 1 0 0).2)) (Nat.add (byK (Nat.mul 5 n) 101 1 0 0).2 (Nat.mul 2 (byK n 101 1 0 0).1)))
theorem five_all : allR fiveB 1 2000 = true := by decide +kernel
theorem byD_five {n : Nat} (h1 : 1 ≤ n) (h2 : n ≤ 2000) (h3 : n % 5 ≠ 0) : byD (5 * n) = 2 * byD n := by
  have h := allR_at five_all n h1 (by omega)
  have e : fiveB n = cond (Nat.beq (n % 5) 0) true (Nat.beq ((byK (5 * n) 101 1 0 0).1 + 2 * (byK n 101 1 0 0).2) ((byK (5 * n) 101 1 0 0).2 + 2 * (byK n 101 1 0 0).1)) := rfl
  rw [e, cond_beq, if_neg h3] at h
  have h := Nat.eq_of_beq_eq_true h
  rw [byD_eq, byD_eq]
  omega
noncomputable def twoB (n : Nat) : Bool := Nat.beq (Nat.add (byK (Nat.mul 2 n) 101 1 0 0).1 (byK n 101 1 0 0).2) (Nat.add (byK (Nat.mul 2 n) 101 1 0 0).2 (byK n 101 1 0 0).1)
theorem two_all0 : allR twoB 1 2500 = true := by decide +kernel
theorem two_all1 : allR twoB 2501 2500 = true := by decide +kernel
theorem byD_two {n : Nat} (h1 : 1 ≤ n) (h2 : n ≤ 5000) : byD (2 * n) = byD n := by
  have h : twoB n = true := by
    by_cases c : n ≤ 2500
    · exact allR_at two_all0 n h1 (by omega)
    · exact allR_at two_all1 n (by omega) (by omega)
  have e : twoB n = Nat.beq ((byK (2 * n) 101 1 0 0).1 + (byK n 101 1 0 0).2) ((byK (2 * n) 101 1 0 0).2 + (byK n 101 1 0 0).1) := rfl
  rw [e] at h
  have h := Nat.eq_of_beq_eq_true h
  rw [byD_eq, byD_eq]
  omega
theorem cs_two {n : Nat} (h1 : 1 ≤ n) (h2 : n ≤ 5000) : cs (2 * n) = cs n := by
  have a := cs_eq_byD (n := 2 * n) (by omega) (by omega)
  have b := cs_eq_byD (n := n) (by omega) (by omega)
  have c := byD_two h1 h2
  omega

end Go.Proofs.Ytegdgaldbjdcmaa.Lib
