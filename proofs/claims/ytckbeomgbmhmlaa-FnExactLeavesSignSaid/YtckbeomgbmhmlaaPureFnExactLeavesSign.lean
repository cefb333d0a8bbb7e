/-
  For every whole number the program's LeavesSign and the reference's answer the same.
-/
import Derived.Test.YtckbeomgbmhmlaaPFnExactLeavesSignx1
import Derived.Test.YtckbeomgbmhmlaaLib
namespace Go.Proofs.Ytckbeomgbmhmlaa.Pure
open Go.RowKit Go.Proofs.Ytckbeomgbmhmlaa.PFnExactLeavesSign Go.Proofs.YtckbeomgbmhmlaaW.PrintWords Go.Proofs.YtckbeomgbmhmlaaW.PrintLast Go.Proofs.Ytckbeomgbmhmlaa.Lib

theorem l1In_eq (a b c : Int) : spec_l1In.f a b c = some (decide (b ≤ a ∧ a ≤ c)) := by
  unfold spec_l1In.f
  by_cases h : a ≥ b
  · rw [if_pos h]; simp [h]
  · rw [if_neg h]; congr 1; symm; simp; intro h2; omega

theorem numberOk_eq (a : Int) : impl_numberOk.f a = some (decide (1 ≤ a ∧ a ≤ 10000)) := by
  unfold impl_numberOk.f
  by_cases h : a ≥ 1
  · rw [if_pos h]; simp [h]
  · rw [if_neg h]; congr 1; symm; simp; intro h2; omega

theorem FnExactLeavesSign : laws_FnExactLeavesSign.Pure := by
  intro a h
  have hb := int_bounds h
  unfold laws_FnExactLeavesSign.f spec_LeavesSign.f impl_LeavesSign.f impl_leavesSign.f
  rw [l1In_eq, numberOk_eq]
  simp only [Option.bind_some]
  by_cases hr : 1 ≤ a ∧ a ≤ 10000
  · simp only [hr, decide_true, if_true, and_self]
    rw [tmod_pos (by omega), tmod_pos (by omega)]
    have h4 : a % 4 = 0 ∨ a % 4 = 1 ∨ a % 4 = 2 ∨ a % 4 = 3 := by omega
    rcases h4 with h4 | h4 | h4 | h4
    · rw [if_pos (by omega), if_neg (by omega), if_neg (by omega)]; rfl
    · rw [if_neg (by omega), if_pos (by omega), h4, w64 (by omega) (by omega)]; rfl
    · rw [if_pos (by omega), if_neg (by omega), if_neg (by omega)]; rfl
    · rw [if_neg (by omega), if_neg (by omega), if_pos (by omega), h4, w64 (by omega) (by omega)]; rfl
  · simp [hr]

end Go.Proofs.Ytckbeomgbmhmlaa.Pure
