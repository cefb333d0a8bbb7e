/-
  Both ways tell the same: asked of each first number and each divisor of it by the kernel.
-/
import Derived.Test.YtgkgpmnaflaaeaaLibGcd
import Derived.Test.YtgkgpmnaflaaeaaLibKer
namespace Go.Proofs.Ytgkgpmnaflaaeaa.Lib
open Go.RowKit Go.Proofs.YtgkgpmnaflaaeaaW.PrintWords
set_option linter.unusedVariables false
set_option linter.unusedSimpArgs false

noncomputable def baB (q g : Nat) : Bool := cond (Nat.beq (q % g) 0) (and (Nat.ble 1 (ph (q / g))) (Int.tdiv (sg (q / g) * (ph q : Int)) (ph (q / g) : Int) == rm q g)) true
theorem baB_all : allR (fun q => allR (fun g => baB q g) 1 60) 1 60 = true := by decide +kernel
theorem ba_eq {q g : Nat} (h1 : 1 ≤ q) (h2 : q ≤ 60) (h3 : 1 ≤ g) (h4 : g ∣ q) : 1 ≤ ph (q / g) ∧ Int.tdiv (sg (q / g) * (ph q : Int)) (ph (q / g) : Int) = rm q g := by
  have hg := Nat.le_of_dvd h1 h4
  have h := allR_at (allR_at baB_all q h1 (by omega)) g h3 (by omega)
  unfold baB at h
  rw [cond_beq, if_pos (Nat.mod_eq_zero_of_dvd h4), Bool.and_eq_true, beq_iff_eq] at h
  exact ⟨Nat.le_of_ble_eq_true h.1, h.2⟩

end Go.Proofs.Ytgkgpmnaflaaeaa.Lib
