/-
  For every whole number the program's SumsUpTo and the reference's answer the same.
-/
import Derived.Test.YtckbeomgbmhmlaaPFnExactSumsUpTox1
import Derived.Test.YtckbeomgbmhmlaaLib
import Derived.Test.YtckbeomgbmhmlaaLibSums
namespace Go.Proofs.Ytckbeomgbmhmlaa.Pure
open Go.RowKit Go.Proofs.Ytckbeomgbmhmlaa.PFnExactSumsUpTo Go.Proofs.YtckbeomgbmhmlaaW.PrintWords Go.Proofs.YtckbeomgbmhmlaaW.PrintLast Go.Proofs.Ytckbeomgbmhmlaa.Lib
set_option linter.unusedVariables false
set_option linter.unusedSimpArgs false

theorem l1In_eq (a b c : Int) : spec_l1In.f a b c = some (decide (b ≤ a ∧ a ≤ c)) := by
  unfold spec_l1In.f
  by_cases h : a ≥ b
  · rw [if_pos h]; simp [h]
  · rw [if_neg h]; congr 1; symm; simp; intro h2; omega

theorem upToOk_eq (a : Int) : impl_upToOk.f a = some (decide (1 ≤ a ∧ a ≤ 1000)) := by
  unfold impl_upToOk.f
  by_cases h : a ≥ 1
  · rw [if_pos h]; simp [h]
  · rw [if_neg h]; congr 1; symm; simp; intro h2; omega

theorem spec_suL (n : Nat) (h1 : 1 ≤ n) (h2 : n ≤ 1000) : ∀ (f d s : Nat), d + f = n + 1 → 1 ≤ d → s ≤ 1000 * d →
    Ev (fun k => spec_SumsUpTo.l0 k (n : Int) (s : Int) (d : Int)) ((s + suF n f d : Nat) : Int) := by
  intro f
  induction f with
  | zero =>
    intro d s hd h3 h4
    refine Ev.step (fun k => ?_) (Ev.now _)
    simp only [spec_SumsUpTo.l0]
    rw [if_neg (by omega)]
    simp [suF]
  | succ f ih =>
    intro d s hd h3 h4
    have hm : d * (n / d) ≤ n := Nat.mul_div_le n d
    have hq : n / d ≤ n := Nat.div_le_self n d
    have ih := ih (d + 1) (s + d * (n / d)) (by omega) (by omega) (by omega)
    simp only [suF]
    rw [← Nat.add_assoc]
    refine Ev.step (fun k => ?_) ih
    have e : (d : Int) * ((n / d : Nat) : Int) = ((d * (n / d) : Nat) : Int) := by push_cast; rfl
    simp only [spec_SumsUpTo.l0, tdiv_nat]
    generalize n / d = q at *
    rw [if_pos (by omega), if_neg (by omega), w64 (n := (q : Int)) (by omega) (by omega), e]
    generalize d * q = z at *
    rw [w64 (n := (z : Int)) (by omega) (by omega), w64 (n := (s : Int) + (z : Int)) (by omega) (by omega), w64 (n := (d : Int) + 1) (by omega) (by omega)]
    rfl
theorem spec_su {n : Nat} (h1 : 1 ≤ n) (h2 : n ≤ 1000) : Ev (fun k => spec_SumsUpTo.f k (n : Int)) ((su n : Nat) : Int) := by
  unfold spec_SumsUpTo.f
  simp only [l1In_eq, Option.bind_some, show (1 : Int) ≤ n ∧ (n : Int) ≤ 1000 from ⟨by omega, by omega⟩, and_self, decide_true, if_true]
  have h := spec_suL n h1 h2 n 1 0 (by omega) (by omega) (by omega)
  rw [Nat.zero_add] at h
  exact h
theorem spec_su_no {a : Int} (h : ¬ (1 ≤ a ∧ a ≤ 1000)) : Ev (fun k => spec_SumsUpTo.f k a) (-1) := by
  unfold spec_SumsUpTo.f
  simp only [l1In_eq, Option.bind_some, h, decide_false]
  exact Ev.now _
theorem impl_suL (n : Nat) (h1 : 1 ≤ n) (h2 : n ≤ 1000) : ∀ (f d s : Nat), d + f = n + 1 → 1 ≤ d → s ≤ 1000 * d →
    Ev (fun k => impl_SumsUpTo_s.l0 k (n : Int) (n : Int) (s : Int) (d : Int)) ((s + suF n f d : Nat) : Int) := by
  intro f
  induction f with
  | zero =>
    intro d s hd h3 h4
    refine Ev.step (fun k => ?_) (Ev.now _)
    simp only [impl_SumsUpTo_s.l0]
    rw [if_neg (by omega)]
    simp [suF]
  | succ f ih =>
    intro d s hd h3 h4
    have hm : d * (n / d) ≤ n := Nat.mul_div_le n d
    have hq : n / d ≤ n := Nat.div_le_self n d
    have ih := ih (d + 1) (s + d * (n / d)) (by omega) (by omega) (by omega)
    simp only [suF]
    rw [← Nat.add_assoc]
    refine Ev.step (fun k => ?_) ih
    have e : (d : Int) * ((n / d : Nat) : Int) = ((d * (n / d) : Nat) : Int) := by push_cast; rfl
    simp only [impl_SumsUpTo_s.l0, impl_SumsUpTo_1.f, tdiv_nat]
    generalize n / d = q at *
    rw [if_pos (by omega), if_neg (by omega), w64 (n := (q : Int)) (by omega) (by omega), e]
    generalize d * q = z at *
    simp only [Option.bind_some]
    rw [w64 (n := (z : Int)) (by omega) (by omega), w64 (n := (s : Int) + (z : Int)) (by omega) (by omega), w64 (n := (d : Int) + 1) (by omega) (by omega)]
    rfl
theorem impl_su {n : Nat} (h1 : 1 ≤ n) (h2 : n ≤ 1000) : Ev (fun k => impl_SumsUpTo.f k (n : Int)) ((su n : Nat) : Int) := by
  unfold impl_SumsUpTo.f
  simp only [upToOk_eq, Option.bind_some, show (1 : Int) ≤ n ∧ (n : Int) ≤ 1000 from ⟨by omega, by omega⟩, and_self, decide_true, if_true]
  have h := impl_suL n h1 h2 n 1 0 (by omega) (by omega) (by omega)
  rw [Nat.zero_add] at h
  exact h
theorem impl_su_no {a : Int} (h : ¬ (1 ≤ a ∧ a ≤ 1000)) : Ev (fun k => impl_SumsUpTo.f k a) (-1) := by
  unfold impl_SumsUpTo.f
  simp only [upToOk_eq, Option.bind_some, h, decide_false]
  exact Ev.now _

theorem FnExactSumsUpTo : laws_FnExactSumsUpTo.Pure := by
  intro a h
  refine Ev.rounds ?_
  by_cases hr : 1 ≤ a ∧ a ≤ 1000
  · obtain ⟨n, rfl⟩ : ∃ n : Nat, a = n := ⟨a.toNat, by omega⟩
    refine Ev.bind (spec_su (by omega) (by omega)) (Ev.bind (impl_su (by omega) (by omega)) ?_)
    simp only [if_true]
    exact Ev.now _
  · refine Ev.bind (spec_su_no hr) (Ev.bind (impl_su_no hr) ?_)
    simp only [if_true]
    exact Ev.now _

end Go.Proofs.Ytckbeomgbmhmlaa.Pure
