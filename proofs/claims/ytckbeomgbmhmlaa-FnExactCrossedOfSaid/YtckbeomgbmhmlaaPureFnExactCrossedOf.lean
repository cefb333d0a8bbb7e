/-
  For every four whole numbers the program's CrossedOf and the reference's answer the same.
-/
import Derived.Test.YtckbeomgbmhmlaaPFnExactCrossedOfx1
import Derived.Test.YtckbeomgbmhmlaaLib
namespace Go.Proofs.Ytckbeomgbmhmlaa.Pure
open Go.RowKit Go.Proofs.Ytckbeomgbmhmlaa.PFnExactCrossedOf Go.Proofs.YtckbeomgbmhmlaaW.PrintWords Go.Proofs.YtckbeomgbmhmlaaW.PrintLast Go.Proofs.Ytckbeomgbmhmlaa.Lib

theorem l1In_eq (a b c : Int) : spec_l1In.f a b c = some (decide (b ≤ a ∧ a ≤ c)) := by
  unfold spec_l1In.f
  by_cases h : a ≥ b
  · rw [if_pos h]; simp [h]
  · rw [if_neg h]; congr 1; symm; simp; intro h2; omega

theorem FnExactCrossedOf : laws_FnExactCrossedOf.Pure := by
  intro a b c d ha hb hc hd
  refine ⟨8, ?_⟩
  unfold laws_FnExactCrossedOf.f spec_CrossedOf.f impl_CrossedOf.f
  have w1 : wrap64 (0 + 1) = 1 := w64 (by omega) (by omega)
  have w2 : wrap64 (1 + 1) = 2 := w64 (by omega) (by omega)
  have w3 : wrap64 (2 + 1) = 3 := w64 (by omega) (by omega)
  have w4 : wrap64 (3 + 1) = 4 := w64 (by omega) (by omega)
  simp only [l1In_eq, Option.bind_some, impl_CrossedOf.l0, rd, List.length_cons, List.length_nil, w1, w2, w3, w4]
  by_cases h1 : 0 ≤ a ∧ a ≤ 100
  · by_cases h2 : 0 ≤ b ∧ b ≤ 100
    · by_cases h3 : 0 ≤ c ∧ c ≤ 100
      · by_cases h4 : 0 ≤ d ∧ d ≤ 100
        · simp [h1, h2, h3, h4, show ¬ a < 0 by omega, show ¬ b < 0 by omega, show ¬ c < 0 by omega, show ¬ d < 0 by omega, show ¬ 100 < a by omega, show ¬ 100 < b by omega, show ¬ 100 < c by omega, show ¬ 100 < d by omega]
        · simp [h1, h2, h3, h4, show ¬ a < 0 by omega, show ¬ b < 0 by omega, show ¬ c < 0 by omega, show ¬ 100 < a by omega, show ¬ 100 < b by omega, show ¬ 100 < c by omega]
          by_cases h5 : d < 0
          · simp [h5]
          · simp [h5, show 100 < d by omega]
      · simp [h1, h2, h3, show ¬ a < 0 by omega, show ¬ b < 0 by omega, show ¬ 100 < a by omega, show ¬ 100 < b by omega]
        by_cases h5 : c < 0
        · simp [h5]
        · simp [h5, show 100 < c by omega]
    · simp [h1, h2, show ¬ a < 0 by omega, show ¬ 100 < a by omega]
      by_cases h5 : b < 0
      · simp [h5]
      · simp [h5, show 100 < b by omega]
  · simp [h1]
    by_cases h5 : a < 0
    · simp [h5]
    · simp [h5, show 100 < a by omega]

end Go.Proofs.Ytckbeomgbmhmlaa.Pure
