/-
  For every whole number the program's DivisorsUpTo and the reference's answer the same.
-/
import Derived.Test.YtckbeomgbmhmlaaPFnExactDivisorsUpTox1
import Derived.Test.YtckbeomgbmhmlaaLib
import Derived.Test.YtckbeomgbmhmlaaLibDup
namespace Go.Proofs.Ytckbeomgbmhmlaa.Pure
open Go.RowKit Go.Proofs.Ytckbeomgbmhmlaa.PFnExactDivisorsUpTo Go.Proofs.YtckbeomgbmhmlaaW.PrintWords Go.Proofs.YtckbeomgbmhmlaaW.PrintLast Go.Proofs.Ytckbeomgbmhmlaa.Lib

theorem l1In_eq (a b c : Int) : spec_l1In.f a b c = some (decide (b ≤ a ∧ a ≤ c)) := by
  unfold spec_l1In.f
  by_cases h : a ≥ b
  · rw [if_pos h]; simp [h]
  · rw [if_neg h]; congr 1; symm; simp; intro h2; omega

theorem upToOk_eq (a : Int) : impl_upToOk.f a = some (decide (1 ≤ a ∧ a ≤ 1000)) := by
  unfold impl_upToOk.f
  by_cases h : a ≥ 1
  · rw [if_pos h]; simp [h]
  · rw [if_neg h]; congr 1; symm; simp; intro h2; omega

theorem spec_dupL (n : Nat) (h1 : 1 ≤ n) (h2 : n ≤ 1000) : ∀ (f s r d : Nat), d + f = 33 → 1 ≤ d → s ≤ 2000 * d → r ≤ 33 →
    Ev (fun k => spec_DivisorsUpTo.l0 k (n : Int) (s : Int) (r : Int) (d : Int)) (dupL n f s r d) := by
  intro f
  induction f with
  | zero =>
    intro s r d hd h3 h4 h5
    have e : d = 33 := by omega
    subst e
    refine Ev.step (f := fun _ => some ((s : Int) - (r * r : Nat))) (fun k => ?_) (Ev.now _)
    have hq : r * r ≤ 33 * 33 := Nat.mul_le_mul h5 h5
    simp only [spec_DivisorsUpTo.l0]
    rw [w64 (n := ((33 : Nat) : Int) * ((33 : Nat) : Int)) (by omega) (by omega), if_neg (by omega), w64 (n := (r : Int) * (r : Int)) (by omega) (by omega), w64 (by omega) (by omega)]
    rfl
  | succ f ih =>
    intro s r d hd h3 h4 h5
    have hdd : d * d ≤ 33 * 33 := Nat.mul_le_mul (by omega) (by omega)
    have hq : r * r ≤ 33 * 33 := Nat.mul_le_mul h5 h5
    have hdi : (d : Int) * (d : Int) = ((d * d : Nat) : Int) := by simp
    have hri : (r : Int) * (r : Int) = ((r * r : Nat) : Int) := by simp
    have hdv : n / d ≤ 1000 := Nat.le_trans (Nat.div_le_self n d) h2
    by_cases hc : d * d ≤ n
    · have := ih (s + 2 * (n / d)) d (d + 1) (by omega) (by omega) (by omega) (by omega)
      simp only [dupL, if_pos hc]
      refine Ev.step (fun k => ?_) this
      simp only [spec_DivisorsUpTo.l0]
      rw [hdi, w64 (n := ((d * d : Nat) : Int)) (by omega) (by omega), if_pos (by omega), if_neg (by omega), tdiv_nat]
      generalize n / d = q at *
      rw [w64 (n := (q : Int)) (by omega) (by omega), w64 (n := 2 * (q : Int)) (by omega) (by omega), w64 (n := (s : Int) + 2 * (q : Int)) (by omega) (by omega), w64 (n := (d : Int) + 1) (by omega) (by omega)]
      simp
    · simp only [dupL, if_neg hc]
      refine Ev.step (f := fun _ => some ((s : Int) - (r * r : Nat))) (fun k => ?_) (Ev.now _)
      simp only [spec_DivisorsUpTo.l0]
      rw [hdi, w64 (n := ((d * d : Nat) : Int)) (by omega) (by omega), if_neg (by omega), hri, w64 (n := ((r * r : Nat) : Int)) (by omega) (by omega), w64 (by omega) (by omega)]

theorem impl_dupL (n : Nat) (h1 : 1 ≤ n) (h2 : n ≤ 1000) : ∀ (f s r d : Nat), d + f = 33 → 1 ≤ d → s ≤ 2000 * d → r ≤ 33 →
    Ev (fun k => impl_DivisorsUpTo.l0 k (n : Int) (s : Int) (r : Int) (d : Int)) (dupL n f s r d) := by
  intro f
  induction f with
  | zero =>
    intro s r d hd h3 h4 h5
    have e : d = 33 := by omega
    subst e
    refine Ev.step (f := fun _ => some ((s : Int) - (r * r : Nat))) (fun k => ?_) (Ev.now _)
    have hq : r * r ≤ 33 * 33 := Nat.mul_le_mul h5 h5
    simp only [impl_DivisorsUpTo.l0]
    rw [w64 (n := ((33 : Nat) : Int) * ((33 : Nat) : Int)) (by omega) (by omega), if_neg (by omega), w64 (n := (r : Int) * (r : Int)) (by omega) (by omega), w64 (by omega) (by omega)]
    rfl
  | succ f ih =>
    intro s r d hd h3 h4 h5
    have hdd : d * d ≤ 33 * 33 := Nat.mul_le_mul (by omega) (by omega)
    have hq : r * r ≤ 33 * 33 := Nat.mul_le_mul h5 h5
    have hdi : (d : Int) * (d : Int) = ((d * d : Nat) : Int) := by simp
    have hri : (r : Int) * (r : Int) = ((r * r : Nat) : Int) := by simp
    have hdv : n / d ≤ 1000 := Nat.le_trans (Nat.div_le_self n d) h2
    by_cases hc : d * d ≤ n
    · have := ih (s + 2 * (n / d)) d (d + 1) (by omega) (by omega) (by omega) (by omega)
      simp only [dupL, if_pos hc]
      refine Ev.step (fun k => ?_) this
      simp only [impl_DivisorsUpTo.l0]
      rw [hdi, w64 (n := ((d * d : Nat) : Int)) (by omega) (by omega), if_pos (by omega), if_neg (by omega), tdiv_nat]
      generalize n / d = q at *
      rw [w64 (n := (q : Int)) (by omega) (by omega), w64 (n := 2 * (q : Int)) (by omega) (by omega), w64 (n := (s : Int) + 2 * (q : Int)) (by omega) (by omega), w64 (n := (d : Int) + 1) (by omega) (by omega)]
      simp
    · simp only [dupL, if_neg hc]
      refine Ev.step (f := fun _ => some ((s : Int) - (r * r : Nat))) (fun k => ?_) (Ev.now _)
      simp only [impl_DivisorsUpTo.l0]
      rw [hdi, w64 (n := ((d * d : Nat) : Int)) (by omega) (by omega), if_neg (by omega), hri, w64 (n := ((r * r : Nat) : Int)) (by omega) (by omega), w64 (by omega) (by omega)]

theorem spec_dup (n : Nat) (h1 : 1 ≤ n) (h2 : n ≤ 1000) : Ev (fun k => spec_DivisorsUpTo.f k (n : Int)) (dup n) := by
  unfold spec_DivisorsUpTo.f
  simp only [l1In_eq, Option.bind_some, show (1 : Int) ≤ n ∧ (n : Int) ≤ 1000 from ⟨by omega, by omega⟩, and_self, decide_true, if_true]
  exact spec_dupL n h1 h2 32 0 0 1 (by omega) (by omega) (by omega) (by omega)
theorem impl_dup (n : Nat) (h1 : 1 ≤ n) (h2 : n ≤ 1000) : Ev (fun k => impl_DivisorsUpTo.f k (n : Int)) (dup n) := by
  unfold impl_DivisorsUpTo.f
  simp only [upToOk_eq, Option.bind_some, show (1 : Int) ≤ n ∧ (n : Int) ≤ 1000 from ⟨by omega, by omega⟩, and_self, decide_true, if_true]
  exact impl_dupL n h1 h2 32 0 0 1 (by omega) (by omega) (by omega) (by omega)
theorem spec_dup_no (a : Int) (h : ¬ (1 ≤ a ∧ a ≤ 1000)) : Ev (fun k => spec_DivisorsUpTo.f k a) (-1) := by
  unfold spec_DivisorsUpTo.f
  simp only [l1In_eq, Option.bind_some, h, decide_false]
  exact Ev.now _
theorem impl_dup_no (a : Int) (h : ¬ (1 ≤ a ∧ a ≤ 1000)) : Ev (fun k => impl_DivisorsUpTo.f k a) (-1) := by
  unfold impl_DivisorsUpTo.f
  simp only [upToOk_eq, Option.bind_some, h, decide_false]
  exact Ev.now _

theorem FnExactDivisorsUpTo : laws_FnExactDivisorsUpTo.Pure := by
  intro a h
  refine Ev.rounds ?_
  by_cases hr : 1 ≤ a ∧ a ≤ 1000
  · obtain ⟨n, rfl⟩ : ∃ n : Nat, a = n := ⟨a.toNat, by omega⟩
    refine Ev.bind (spec_dup n (by omega) (by omega)) (Ev.bind (impl_dup n (by omega) (by omega)) ?_)
    simp only [if_true]
    exact Ev.now _
  · refine Ev.bind (spec_dup_no a hr) (Ev.bind (impl_dup_no a hr) ?_)
    simp only [if_true]
    exact Ev.now _

end Go.Proofs.Ytckbeomgbmhmlaa.Pure
