/-
  For every whole number the program's FirstSquares and the reference's answer the same.
-/
import Derived.Test.YtckbeomgbmhmlaaPFnExactFirstSquaresx1
import Derived.Test.YtckbeomgbmhmlaaLib
import Derived.Test.YtckbeomgbmhmlaaLibFs
namespace Go.Proofs.Ytckbeomgbmhmlaa.Pure
open Go.RowKit Go.Proofs.Ytckbeomgbmhmlaa.PFnExactFirstSquares Go.Proofs.YtckbeomgbmhmlaaW.PrintWords Go.Proofs.YtckbeomgbmhmlaaW.PrintLast Go.Proofs.Ytckbeomgbmhmlaa.Lib

theorem numberOk_eq (a : Int) : impl_numberOk.f a = some (decide (1 ≤ a ∧ a ≤ 10000)) := by
  unfold impl_numberOk.f
  by_cases h : a ≥ 1
  · rw [if_pos h]; simp [h]
  · rw [if_neg h]; congr 1; symm; simp; intro h2; omega

theorem sq_cast (a : Nat) : (a : Int) * (a : Int) = ((a * a : Nat) : Int) := by simp
theorem sq_le {a m : Nat} (h : a ≤ m) : a * a ≤ m * m := Nat.mul_le_mul h h

theorem spec_fsIn (n a : Nat) (h1 : 1 ≤ n) (h2 : n ≤ 10000) (ha : a ≤ 102) (R : Int × Int × Bool) (hR : Ev (fun k => spec_FirstSquares.l0 k (n : Int) ((a : Int) + 1)) R) :
    ∀ (f b : Nat), b + f = 102 → Ev (fun k => spec_FirstSquares.l1 k (n : Int) (a : Int) (b : Int)) (match fsIn n a f b with | some b => ((a : Int), (b : Int), true) | none => R) := by
  intro f
  have haa := sq_le ha
  induction f with
  | zero =>
    intro b hb
    have e : b = 102 := by omega
    subst e
    refine Ev.step (fun k => ?_) hR
    simp only [spec_FirstSquares.l1, sq_cast]
    rw [w64 (n := ((a * a : Nat) : Int)) (by omega) (by omega), w64 (n := ((102 * 102 : Nat) : Int)) (by omega) (by omega), w64 (n := ((a * a : Nat) : Int) + ((102 * 102 : Nat) : Int)) (by omega) (by omega), if_neg (by omega), w64 (by omega) (by omega)]
  | succ f ih =>
    intro b hb
    have hbb := sq_le (show b ≤ 102 by omega)
    by_cases hc : a * a + b * b ≤ n
    · by_cases he : a * a + b * b = n
      · simp only [fsIn, if_pos hc, if_pos he]
        refine Ev.step (fun k => ?_) (Ev.now _)
        simp only [spec_FirstSquares.l1, sq_cast]
        rw [w64 (n := ((a * a : Nat) : Int)) (by omega) (by omega), w64 (n := ((b * b : Nat) : Int)) (by omega) (by omega), w64 (n := ((a * a : Nat) : Int) + ((b * b : Nat) : Int)) (by omega) (by omega), if_pos (by omega), if_pos (by omega), if_pos (by omega)]
      · simp only [fsIn, if_pos hc, if_neg he]
        refine Ev.step (fun k => ?_) (ih (b + 1) (by omega))
        simp only [spec_FirstSquares.l1, sq_cast]
        rw [w64 (n := ((a * a : Nat) : Int)) (by omega) (by omega), w64 (n := ((b * b : Nat) : Int)) (by omega) (by omega), w64 (n := ((a * a : Nat) : Int) + ((b * b : Nat) : Int)) (by omega) (by omega), if_pos (by omega), if_neg (by omega), w64 (by omega) (by omega)]
        rfl
    · simp only [fsIn, if_neg hc]
      refine Ev.step (fun k => ?_) hR
      simp only [spec_FirstSquares.l1, sq_cast]
      rw [w64 (n := ((a * a : Nat) : Int)) (by omega) (by omega), w64 (n := ((b * b : Nat) : Int)) (by omega) (by omega), w64 (n := ((a * a : Nat) : Int) + ((b * b : Nat) : Int)) (by omega) (by omega), if_neg (by omega), w64 (by omega) (by omega)]
theorem impl_fsIn (n a : Nat) (h1 : 1 ≤ n) (h2 : n ≤ 10000) (ha : a ≤ 102) (R : Int × Int × Bool) (hR : Ev (fun k => impl_FirstSquares.l0 k (n : Int) ((a : Int) + 1)) R) :
    ∀ (f b : Nat), b + f = 102 → Ev (fun k => impl_FirstSquares.l1 k (n : Int) (a : Int) (b : Int)) (match fsIn n a f b with | some b => ((a : Int), (b : Int), true) | none => R) := by
  intro f
  have haa := sq_le ha
  induction f with
  | zero =>
    intro b hb
    have e : b = 102 := by omega
    subst e
    refine Ev.step (fun k => ?_) hR
    simp only [impl_FirstSquares.l1, sq_cast]
    rw [w64 (n := ((a * a : Nat) : Int)) (by omega) (by omega), w64 (n := ((102 * 102 : Nat) : Int)) (by omega) (by omega), w64 (n := ((a * a : Nat) : Int) + ((102 * 102 : Nat) : Int)) (by omega) (by omega), if_neg (by omega), w64 (by omega) (by omega)]
  | succ f ih =>
    intro b hb
    have hbb := sq_le (show b ≤ 102 by omega)
    by_cases hc : a * a + b * b ≤ n
    · by_cases he : a * a + b * b = n
      · simp only [fsIn, if_pos hc, if_pos he]
        refine Ev.step (fun k => ?_) (Ev.now _)
        simp only [impl_FirstSquares.l1, sq_cast]
        rw [w64 (n := ((a * a : Nat) : Int)) (by omega) (by omega), w64 (n := ((b * b : Nat) : Int)) (by omega) (by omega), w64 (n := ((a * a : Nat) : Int) + ((b * b : Nat) : Int)) (by omega) (by omega), if_pos (by omega), if_pos (by omega)]
      · simp only [fsIn, if_pos hc, if_neg he]
        refine Ev.step (fun k => ?_) (ih (b + 1) (by omega))
        simp only [impl_FirstSquares.l1, sq_cast]
        rw [w64 (n := ((a * a : Nat) : Int)) (by omega) (by omega), w64 (n := ((b * b : Nat) : Int)) (by omega) (by omega), w64 (n := ((a * a : Nat) : Int) + ((b * b : Nat) : Int)) (by omega) (by omega), if_pos (by omega), if_neg (by omega), w64 (by omega) (by omega)]
        rfl
    · simp only [fsIn, if_neg hc]
      refine Ev.step (fun k => ?_) hR
      simp only [impl_FirstSquares.l1, sq_cast]
      rw [w64 (n := ((a * a : Nat) : Int)) (by omega) (by omega), w64 (n := ((b * b : Nat) : Int)) (by omega) (by omega), w64 (n := ((a * a : Nat) : Int) + ((b * b : Nat) : Int)) (by omega) (by omega), if_neg (by omega), w64 (by omega) (by omega)]
theorem two_cast (a : Nat) : 2 * (a : Int) * (a : Int) = ((2 * a * a : Nat) : Int) := by simp
theorem spec_fsL (n : Nat) (h1 : 1 ≤ n) (h2 : n ≤ 10000) : ∀ (f a : Nat), a + f = 72 → Ev (fun k => spec_FirstSquares.l0 k (n : Int) (a : Int)) (trip (fsL n f a)) := by
  intro f
  induction f with
  | zero =>
    intro a ha
    have e : a = 72 := by omega
    subst e
    refine Ev.step (f := fun k => spec_FirstSquares.j1 k (n : Int) ((72 : Nat) : Int) false) (fun k => ?_) (Ev.step (fun k => ?_) (Ev.now _))
    · simp only [spec_FirstSquares.l0]
      rw [w64 (n := 2 * ((72 : Nat) : Int)) (by omega) (by omega), w64 (n := 2 * ((72 : Nat) : Int) * ((72 : Nat) : Int)) (by omega) (by omega), if_neg (by omega)]
    · simp only [spec_FirstSquares.j1]
      rw [if_neg (by simp)]
      rfl
  | succ f ih =>
    intro a ha
    have haa := sq_le (show a ≤ 72 by omega)
    have h2a : 2 * a * a = 2 * (a * a) := Nat.mul_assoc _ _ _
    by_cases hc : 2 * a * a ≤ n
    · have := spec_fsIn n a h1 h2 (by omega) _ (ih (a + 1) (by omega)) (102 - a) a (by omega)
      simp only [fsL, if_pos hc]
      refine Ev.step (f := fun k => spec_FirstSquares.j1 k (n : Int) (a : Int) true) (fun k => ?_) (Ev.step (f := fun k => spec_FirstSquares.l1 k (n : Int) (a : Int) (a : Int)) (fun k => ?_) ?_)
      · simp only [spec_FirstSquares.l0]
        rw [w64 (n := 2 * (a : Int)) (by omega) (by omega), two_cast, w64 (n := ((2 * a * a : Nat) : Int)) (by omega) (by omega), if_pos (by omega), decide_eq_true (by omega)]
      · simp only [spec_FirstSquares.j1, if_true]
      · cases hf : fsIn n a (102 - a) a with
        | none => rw [hf] at this; exact this
        | some b => rw [hf] at this; exact this
    · simp only [fsL, if_neg hc]
      refine Ev.step (f := fun k => spec_FirstSquares.j1 k (n : Int) (a : Int) false) (fun k => ?_) (Ev.step (fun k => ?_) (Ev.now _))
      · simp only [spec_FirstSquares.l0]
        rw [w64 (n := 2 * (a : Int)) (by omega) (by omega), two_cast, w64 (n := ((2 * a * a : Nat) : Int)) (by omega) (by omega), if_neg (by omega)]
      · simp only [spec_FirstSquares.j1]
        rw [if_neg (by simp)]
        rfl
theorem impl_fsL (n : Nat) (h1 : 1 ≤ n) (h2 : n ≤ 10000) : ∀ (f a : Nat), a + f = 72 → Ev (fun k => impl_FirstSquares.l0 k (n : Int) (a : Int)) (trip (fsL n f a)) := by
  intro f
  induction f with
  | zero =>
    intro a ha
    have e : a = 72 := by omega
    subst e
    refine Ev.step (fun k => ?_) (Ev.now _)
    simp only [impl_FirstSquares.l0]
    rw [w64 (n := 2 * ((72 : Nat) : Int)) (by omega) (by omega), w64 (n := 2 * ((72 : Nat) : Int) * ((72 : Nat) : Int)) (by omega) (by omega), if_neg (by omega)]
    rfl
  | succ f ih =>
    intro a ha
    have haa := sq_le (show a ≤ 72 by omega)
    have h2a : 2 * a * a = 2 * (a * a) := Nat.mul_assoc _ _ _
    by_cases hc : 2 * a * a ≤ n
    · have := impl_fsIn n a h1 h2 (by omega) _ (ih (a + 1) (by omega)) (102 - a) a (by omega)
      simp only [fsL, if_pos hc]
      refine Ev.step (f := fun k => impl_FirstSquares.l1 k (n : Int) (a : Int) (a : Int)) (fun k => ?_) ?_
      · simp only [impl_FirstSquares.l0]
        rw [w64 (n := 2 * (a : Int)) (by omega) (by omega), two_cast, w64 (n := ((2 * a * a : Nat) : Int)) (by omega) (by omega), if_pos (by omega)]
      · cases hf : fsIn n a (102 - a) a with
        | none => rw [hf] at this; exact this
        | some b => rw [hf] at this; exact this
    · simp only [fsL, if_neg hc]
      refine Ev.step (fun k => ?_) (Ev.now _)
      simp only [impl_FirstSquares.l0]
      rw [w64 (n := 2 * (a : Int)) (by omega) (by omega), two_cast, w64 (n := ((2 * a * a : Nat) : Int)) (by omega) (by omega), if_neg (by omega)]
      rfl
theorem spec_fs (n : Nat) (h1 : 1 ≤ n) (h2 : n ≤ 10000) : Ev (fun k => spec_FirstSquares.f k (n : Int)) (trip (fs n)) := by
  unfold spec_FirstSquares.f
  exact spec_fsL n h1 h2 72 0 (by omega)
theorem impl_fs (n : Nat) (h1 : 1 ≤ n) (h2 : n ≤ 10000) : Ev (fun k => impl_FirstSquares.f k (n : Int)) (trip (fs n)) := by
  unfold impl_FirstSquares.f
  simp only [numberOk_eq, Option.bind_some, show (1 : Int) ≤ n ∧ (n : Int) ≤ 10000 from ⟨by omega, by omega⟩, and_self, decide_true, if_true]
  exact impl_fsL n h1 h2 72 0 (by omega)
theorem impl_fs_no (a : Int) (h : ¬ (1 ≤ a ∧ a ≤ 10000)) : Ev (fun k => impl_FirstSquares.f k a) (-1, -1, false) := by
  unfold impl_FirstSquares.f
  simp only [numberOk_eq, Option.bind_some, h, decide_false]
  exact Ev.now _
theorem spec_fs_no (a : Int) (h : ¬ (1 ≤ a ∧ a ≤ 10000)) : Ev (fun k => spec_FirstSquares.f k a) (-1, -1, false) := by
  unfold spec_FirstSquares.f
  by_cases h0 : a < 0
  · refine Ev.step (f := fun k => spec_FirstSquares.j1 k a 0 false) (fun k => ?_) (Ev.step (fun k => ?_) (Ev.now _))
    · simp only [spec_FirstSquares.l0]
      rw [show wrap64 ((wrap64 (2 * 0)) * 0) = 0 by decide +kernel, if_neg (by omega)]
    · simp only [spec_FirstSquares.j1]
      rw [if_neg (by simp)]
  · by_cases h1 : a = 0
    · subst h1
      refine ⟨8, fun k hk => ?_⟩
      obtain ⟨k, rfl⟩ : ∃ m, k = m + 8 := ⟨k - 8, by omega⟩
      simp [spec_FirstSquares.l0, spec_FirstSquares.j1, spec_FirstSquares.l1, show wrap64 0 = 0 by decide +kernel, show wrap64 1 = 1 by decide +kernel, show wrap64 2 = 2 by decide +kernel]
    · refine Ev.step (f := fun k => spec_FirstSquares.j1 k a 0 false) (fun k => ?_) (Ev.step (fun k => ?_) (Ev.now _))
      · simp only [spec_FirstSquares.l0]
        rw [show wrap64 ((wrap64 (2 * 0)) * 0) = 0 by decide +kernel, if_pos (by omega), decide_eq_false (by omega)]
      · simp only [spec_FirstSquares.j1]
        rw [if_neg (by simp)]

theorem FnExactFirstSquares : laws_FnExactFirstSquares.Pure := by
  intro a h
  refine Ev.rounds ?_
  by_cases hr : 1 ≤ a ∧ a ≤ 10000
  · obtain ⟨n, rfl⟩ : ∃ n : Nat, a = n := ⟨a.toNat, by omega⟩
    refine Ev.bind (spec_fs n (by omega) (by omega)) (Ev.bind (impl_fs n (by omega) (by omega)) ?_)
    simp only [if_true, bne_self_eq_false, Bool.false_eq_true, if_false]
    exact Ev.now _
  · refine Ev.bind (spec_fs_no a hr) (Ev.bind (impl_fs_no a hr) ?_)
    simp only [if_true, bne_self_eq_false, Bool.false_eq_true, if_false]
    exact Ev.now _

end Go.Proofs.Ytckbeomgbmhmlaa.Pure
