/-
  For every whole number the program's DeskNew and the reference's answer the same, and what is handed back is its own; the eight names are asked of the kernel.
-/
import Derived.Test.YtgkgpmnaflaaeaaPFnExactDeskNewx7
import Derived.Test.YtgkgpmnaflaaeaaLib
namespace Go.Proofs.Ytgkgpmnaflaaeaa.Pure
open Go.RowKit Go.Proofs.Ytgkgpmnaflaaeaa.PFnExactDeskNew Go.Proofs.YtgkgpmnaflaaeaaW.PrintWords Go.Proofs.YtgkgpmnaflaaeaaW.PrintLast Go.Proofs.YtgkgpmnaflaaeaaW.PrintMore Go.Proofs.Ytgkgpmnaflaaeaa.Lib
set_option linter.unusedVariables false
set_option linter.unusedSimpArgs false

theorem l1In_eq (a b c : Int) : spec_l1In.f a b c = some (decide (b ≤ a ∧ a ≤ c)) := by
  unfold spec_l1In.f
  by_cases h : a ≥ b
  · rw [if_pos h]; simp [h]
  · rw [if_neg h]; congr 1; symm; simp; intro h2; omega

theorem names_all : (List.range 8).all (fun n => laws_FnExactDeskNew.f 200 (n : Int) == some true) = true := by decide +kernel
theorem FnExactDeskNew : laws_FnExactDeskNew.Pure := by
  intro a _
  by_cases hr : 0 ≤ a ∧ a ≤ 7
  · obtain ⟨n, rfl⟩ : ∃ n : Nat, a = n := ⟨a.toNat, by omega⟩
    have h := List.all_eq_true.1 names_all n (List.mem_range.2 (by omega))
    exact ⟨200, by simpa using h⟩
  · have hi : ∀ k, impl_DeskNew.f k a = some ([], [], false) := by
      intro k
      have e : impl_NamedRow.f k a = some [] := by
        unfold impl_NamedRow.f
        by_cases h0 : a < 0
        · rw [if_pos h0]
        · rw [if_neg h0, if_pos (by omega)]
      unfold impl_DeskNew.f
      rw [e]
      rfl
    have hs : ∀ k, spec_DeskNew.f (k + 1) a = some ([], [], false) := by
      intro k
      have e : spec_NamedRow.f (k + 1) a = some [] := by
        unfold spec_NamedRow.f
        simp only [spec_NamedRow.l0, l1In_eq, Option.bind_some]
        rw [if_pos (by omega), if_neg (by simpa using hr)]
      unfold spec_DeskNew.f
      rw [e]
      rfl
    refine ⟨10, ?_⟩
    unfold laws_FnExactDeskNew.f
    rw [hs 9, hi]
    simp only [Option.bind_some]
    rw [show laws_eqDesk.f 10 [] [] [] [] = some true by decide +kernel]
    simp only [Option.bind_some, if_true]
    have e2 : laws_FnExactDeskNew.j0 (9 + 1) a false (false != false) [] [] [] [] = some true := by
      simp only [laws_FnExactDeskNew.j0, hi, Option.bind_some]
      rw [show laws_markDesk.f 9 [] [] 1 = some (1, []) by decide +kernel]
      simp only [Option.bind_some]
      rw [show laws_heldDesk.f 9 [] [] 1 = some 1 by decide +kernel]
      simp only [Option.bind_some]
      rw [show laws_eqDesk.f 9 [] [] [] [] = some true by decide +kernel]
      decide +kernel
    exact e2

end Go.Proofs.Ytgkgpmnaflaaeaa.Pure
