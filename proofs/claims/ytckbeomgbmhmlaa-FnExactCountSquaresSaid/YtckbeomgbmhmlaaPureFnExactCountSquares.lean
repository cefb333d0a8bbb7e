/-
  For every whole number the program's CountSquares and the reference's answer the same.
-/
import Derived.Test.YtckbeomgbmhmlaaPFnExactCountSquaresx1
import Derived.Test.YtckbeomgbmhmlaaLib
import Derived.Test.YtckbeomgbmhmlaaLibCs
namespace Go.Proofs.Ytckbeomgbmhmlaa.Pure
open Go.RowKit Go.Proofs.Ytckbeomgbmhmlaa.PFnExactCountSquares Go.Proofs.YtckbeomgbmhmlaaW.PrintWords Go.Proofs.YtckbeomgbmhmlaaW.PrintLast Go.Proofs.Ytckbeomgbmhmlaa.Lib

theorem l1In_eq (a b c : Int) : spec_l1In.f a b c = some (decide (b ≤ a ∧ a ≤ c)) := by
  unfold spec_l1In.f
  by_cases h : a ≥ b
  · rw [if_pos h]; simp [h]
  · rw [if_neg h]; congr 1; symm; simp; intro h2; omega

theorem numberOk_eq (a : Int) : impl_numberOk.f a = some (decide (1 ≤ a ∧ a ≤ 10000)) := by
  unfold impl_numberOk.f
  by_cases h : a ≥ 1
  · rw [if_pos h]; simp [h]
  · rw [if_neg h]; congr 1; symm; simp; intro h2; omega

theorem sq_cast (a : Nat) : (a : Int) * (a : Int) = ((a * a : Nat) : Int) := by simp
theorem sq_le {a m : Nat} (h : a ≤ m) : a * a ≤ m * m := Nat.mul_le_mul h h

theorem zsq (z : Int) : z * z = ((z.natAbs * z.natAbs : Nat) : Int) := by rw [← Int.natAbs_mul_self' z]; rfl
/-- The reference's inner loop. -/
theorem spec_csIn (n : Nat) (hn : n ≤ 10000) (a : Int) (ha : -100 ≤ a ∧ a ≤ 100) (R : Int) : ∀ (f : Nat) (b : Int) (s : Nat), b + f = 101 → -100 ≤ b → s + f ≤ 100000 →
    Ev (fun k => spec_CountSquares.l0 k (n : Int) ((s + zsum (fun z => if a.natAbs * a.natAbs + z.natAbs * z.natAbs = n then 1 else 0) f b : Nat) : Int) (a + 1)) R →
    Ev (fun k => spec_CountSquares.l1 k (n : Int) (s : Int) a b) R := by
  intro f
  have haa := sq_le (show a.natAbs ≤ 100 by omega)
  induction f with
  | zero =>
    intro b s hb hb2 hs hR
    refine Ev.step (fun k => ?_) hR
    simp only [spec_CountSquares.l1, zsum]
    rw [if_neg (by omega), w64 (by omega) (by omega)]
    simp
  | succ f ih =>
    intro b s hb hb2 hs hR
    have hbb := sq_le (show b.natAbs ≤ 100 by omega)
    simp only [zsum] at hR
    by_cases he : a.natAbs * a.natAbs + b.natAbs * b.natAbs = n
    · rw [if_pos he] at hR
      refine Ev.step (fun k => ?_) (ih (b + 1) (s + 1) (by omega) (by omega) (by omega) (by rw [show s + 1 + zsum (fun z => if a.natAbs * a.natAbs + z.natAbs * z.natAbs = n then 1 else 0) f (b + 1) = s + (1 + zsum (fun z => if a.natAbs * a.natAbs + z.natAbs * z.natAbs = n then 1 else 0) f (b + 1)) by omega]; exact hR))
      simp only [spec_CountSquares.l1]
      rw [if_pos (by omega), zsq a, zsq b, w64 (n := ((a.natAbs * a.natAbs : Nat) : Int)) (by omega) (by omega), w64 (n := ((b.natAbs * b.natAbs : Nat) : Int)) (by omega) (by omega), w64 (n := ((a.natAbs * a.natAbs : Nat) : Int) + ((b.natAbs * b.natAbs : Nat) : Int)) (by omega) (by omega), if_pos (by omega), w64 (n := (s : Int) + 1) (by omega) (by omega), w64 (n := b + 1) (by omega) (by omega)]
      rfl
    · rw [if_neg he] at hR
      refine Ev.step (fun k => ?_) (ih (b + 1) s (by omega) (by omega) (by omega) (by rw [Nat.zero_add] at hR; exact hR))
      simp only [spec_CountSquares.l1]
      rw [if_pos (by omega), zsq a, zsq b, w64 (n := ((a.natAbs * a.natAbs : Nat) : Int)) (by omega) (by omega), w64 (n := ((b.natAbs * b.natAbs : Nat) : Int)) (by omega) (by omega), w64 (n := ((a.natAbs * a.natAbs : Nat) : Int) + ((b.natAbs * b.natAbs : Nat) : Int)) (by omega) (by omega), if_neg (by omega), w64 (n := b + 1) (by omega) (by omega)]
theorem spec_csIn_eq (n x : Nat) : zsum (fun z => if x + z.natAbs * z.natAbs = n then 1 else 0) 201 (-100) = csIn n x := by
  have := zsum_abs (fun b => if x + b * b = n then 1 else 0) 100
  refine Eq.trans this ?_
  unfold csIn
  refine tsum_congr _ _ (fun j _ _ => ?_)
  unfold csG
  split <;> omega
theorem spec_csOut (n : Nat) (hn : n ≤ 10000) : ∀ (f : Nat) (a : Int) (s : Nat), a + f = 101 → -100 ≤ a → s + 202 * f ≤ 100000 - 202 →
    Ev (fun k => spec_CountSquares.l0 k (n : Int) (s : Int) a) ((s + zsum (fun z => csIn n (z.natAbs * z.natAbs)) f a : Nat) : Int) := by
  intro f
  induction f with
  | zero =>
    intro a s ha ha2 hs
    refine Ev.step (fun k => ?_) (Ev.now _)
    simp only [spec_CountSquares.l0, zsum]
    rw [if_neg (by omega)]
    simp
  | succ f ih =>
    intro a s ha ha2 hs
    rw [Nat.mul_succ, ← Nat.add_assoc] at hs
    have hle := csIn_le n (a.natAbs * a.natAbs)
    have h := spec_csIn n hn a ⟨by omega, by omega⟩ _ 201 (-100) s (by omega) (by omega) (by omega)
      (by rw [spec_csIn_eq]; exact ih (a + 1) (s + csIn n (a.natAbs * a.natAbs)) (by omega) (by omega) (by omega))
    simp only [zsum]
    rw [← Nat.add_assoc]
    refine Ev.step (fun k => ?_) h
    simp only [spec_CountSquares.l0]
    rw [if_pos (by omega)]
theorem spec_cs (n : Nat) (h1 : 1 ≤ n) (h2 : n ≤ 10000) : Ev (fun k => spec_CountSquares.f k (n : Int)) ((cs n : Nat) : Int) := by
  unfold spec_CountSquares.f
  simp only [l1In_eq, Option.bind_some, show (1 : Int) ≤ n ∧ (n : Int) ≤ 10000 from ⟨by omega, by omega⟩, and_self, decide_true, if_true]
  have h := spec_csOut n h2 201 (-100) 0 (by omega) (by omega) (by omega)
  rw [Nat.zero_add] at h
  have e := zsum_abs (fun a => csIn n (a * a)) 100
  have e2 : zsum (fun z => csIn n (z.natAbs * z.natAbs)) 201 (-100) = cs n := e
  rw [e2] at h
  exact h
theorem spec_cs_no (a : Int) (h : ¬ (1 ≤ a ∧ a ≤ 10000)) : Ev (fun k => spec_CountSquares.f k a) (-1) := by
  unfold spec_CountSquares.f
  simp only [l1In_eq, Option.bind_some, h, decide_false]
  exact Ev.now _
/-- The program's inner loop. -/
theorem impl_csIn (n a : Nat) (hn : n ≤ 10000) (ha : a ≤ 101) (R : Int) : ∀ (f b s : Nat), b + f = 101 → s + 4 * f ≤ 100000 →
    Ev (fun k => impl_CountSquares.l0 k (n : Int) ((s + wt a * tsum (csG n (a * a)) f b : Nat) : Int) ((a : Int) + 1)) R →
    Ev (fun k => impl_CountSquares.l1 k (n : Int) (s : Int) (a : Int) (b : Int)) R := by
  intro f
  have haa := sq_le ha
  induction f with
  | zero =>
    intro b s hb hs hR
    have e : b = 101 := by omega
    subst e
    refine Ev.step (fun k => ?_) hR
    simp only [impl_CountSquares.l1, tsum, sq_cast]
    rw [w64 (n := ((a * a : Nat) : Int)) (by omega) (by omega), w64 (n := ((101 * 101 : Nat) : Int)) (by omega) (by omega), w64 (n := ((a * a : Nat) : Int) + ((101 * 101 : Nat) : Int)) (by omega) (by omega), if_neg (by omega), w64 (by omega) (by omega)]
    simp
  | succ f ih =>
    intro b s hb hs hR
    have hbb := sq_le (show b ≤ 101 by omega)
    by_cases hc : a * a + b * b ≤ n
    · by_cases he : a * a + b * b = n
      · simp only [tsum, csG, if_pos he] at hR
        rw [Nat.mul_add, ← Nat.add_assoc] at hR
        have hw : wt a * wt b ≤ 2 * 2 := Nat.mul_le_mul (wt_le a) (wt_le b)
        refine Ev.step (fun k => ?_) (ih (b + 1) (s + wt a * wt b) (by omega) (by omega) hR)
        simp only [impl_CountSquares.l1, sq_cast]
        rw [w64 (n := ((a * a : Nat) : Int)) (by omega) (by omega), w64 (n := ((b * b : Nat) : Int)) (by omega) (by omega), w64 (n := ((a * a : Nat) : Int) + ((b * b : Nat) : Int)) (by omega) (by omega), if_pos (by omega), if_pos (by omega), w64 (n := (b : Int) + 1) (by omega) (by omega)]
        by_cases h1 : a = 0
        · by_cases h2 : b = 0
          · subst h1 h2
            rw [if_neg (by omega), if_neg (by omega), w64 (by omega) (by omega)]; rfl
          · rw [if_neg (by omega), if_pos (by omega), w64 (by omega) (by omega)]
            simp [wt, h1, h2]
        · by_cases h2 : b = 0
          · rw [if_pos (by omega), if_neg (by omega), w64 (by omega) (by omega)]
            simp [wt, h1, h2]
          · rw [if_pos (by omega), if_pos (by omega), w64 (by omega) (by omega)]
            simp [wt, h1, h2]
      · simp only [tsum, csG, if_neg he] at hR
        rw [Nat.zero_add] at hR
        refine Ev.step (fun k => ?_) (ih (b + 1) s (by omega) (by omega) hR)
        simp only [impl_CountSquares.l1, sq_cast]
        rw [w64 (n := ((a * a : Nat) : Int)) (by omega) (by omega), w64 (n := ((b * b : Nat) : Int)) (by omega) (by omega), w64 (n := ((a * a : Nat) : Int) + ((b * b : Nat) : Int)) (by omega) (by omega), if_pos (by omega), if_neg (by omega), w64 (n := (b : Int) + 1) (by omega) (by omega)]
        rfl
    · have hz : tsum (csG n (a * a)) (f + 1) b = 0 := by
        refine tsum_zero _ _ (fun j hj => ?_)
        have : b * b ≤ j * j := Nat.mul_le_mul hj hj
        unfold csG
        rw [if_neg (by omega)]
      rw [hz] at hR
      refine Ev.step (fun k => ?_) hR
      simp only [impl_CountSquares.l1, sq_cast]
      rw [w64 (n := ((a * a : Nat) : Int)) (by omega) (by omega), w64 (n := ((b * b : Nat) : Int)) (by omega) (by omega), w64 (n := ((a * a : Nat) : Int) + ((b * b : Nat) : Int)) (by omega) (by omega), if_neg (by omega), w64 (n := (a : Int) + 1) (by omega) (by omega)]
      simp
theorem impl_csOut (n : Nat) (hn : n ≤ 10000) : ∀ (f a s : Nat), a + f = 101 → s + 404 * f ≤ 90000 →
    Ev (fun k => impl_CountSquares.l0 k (n : Int) (s : Int) (a : Int)) ((s + tsum (fun a => wt a * csIn n (a * a)) f a : Nat) : Int) := by
  intro f
  induction f with
  | zero =>
    intro a s ha hs
    have e : a = 101 := by omega
    subst e
    refine Ev.step (fun k => ?_) (Ev.now _)
    simp only [impl_CountSquares.l0, tsum, sq_cast]
    rw [w64 (n := ((101 * 101 : Nat) : Int)) (by omega) (by omega), if_neg (by omega)]
    simp
  | succ f ih =>
    intro a s ha hs
    have haa := sq_le (show a ≤ 101 by omega)
    rw [Nat.mul_succ, ← Nat.add_assoc] at hs
    have hq1 : s + 404 ≤ 100000 := by omega
    have hq2 : a ≤ 101 := by omega
    have hq3 : 0 + 101 = 101 := rfl
    have hle : wt a * csIn n (a * a) ≤ 2 * 202 := Nat.mul_le_mul (wt_le a) (csIn_le _ _)
    by_cases hc : a * a ≤ n
    · have hh := ih (a + 1) (s + wt a * csIn n (a * a)) (by omega) (by generalize wt a * csIn n (a * a) = z at *; omega)
      have e : csIn n (a * a) = tsum (csG n (a * a)) 101 0 := by unfold csIn; rfl
      rw [show ((a + 1 : Nat) : Int) = (a : Int) + 1 by omega, e] at hh
      have h := impl_csIn n a hn hq2 _ 101 0 s hq3 hq1 hh
      rw [← e] at h
      simp only [tsum]
      rw [← Nat.add_assoc]
      refine Ev.step (fun k => ?_) h
      simp only [impl_CountSquares.l0, sq_cast]
      rw [w64 (n := ((a * a : Nat) : Int)) (by omega) (by omega), if_pos (by omega)]
      rfl
    · have hz : tsum (fun a => wt a * csIn n (a * a)) (f + 1) a = 0 := by
        refine tsum_zero _ _ (fun j hj => ?_)
        have : a * a ≤ j * j := Nat.mul_le_mul hj hj
        have : csIn n (j * j) = 0 := tsum_zero _ _ (fun b _ => by unfold csG; rw [if_neg (by omega)])
        simp only [this, Nat.mul_zero]
      rw [hz]
      refine Ev.step (fun k => ?_) (Ev.now _)
      simp only [impl_CountSquares.l0, sq_cast]
      rw [w64 (n := ((a * a : Nat) : Int)) (by omega) (by omega), if_neg (by omega)]
      rfl
theorem impl_cs (n : Nat) (h1 : 1 ≤ n) (h2 : n ≤ 10000) : Ev (fun k => impl_CountSquares.f k (n : Int)) ((cs n : Nat) : Int) := by
  unfold impl_CountSquares.f
  simp only [numberOk_eq, Option.bind_some, show (1 : Int) ≤ n ∧ (n : Int) ≤ 10000 from ⟨by omega, by omega⟩, and_self, decide_true, if_true]
  have h := impl_csOut n h2 101 0 0 (by omega) (by omega)
  rw [Nat.zero_add] at h
  exact h
theorem impl_cs_no (a : Int) (h : ¬ (1 ≤ a ∧ a ≤ 10000)) : Ev (fun k => impl_CountSquares.f k a) (-1) := by
  unfold impl_CountSquares.f
  simp only [numberOk_eq, Option.bind_some, h, decide_false]
  exact Ev.now _

theorem FnExactCountSquares : laws_FnExactCountSquares.Pure := by
  intro a h
  refine Ev.rounds ?_
  by_cases hr : 1 ≤ a ∧ a ≤ 10000
  · obtain ⟨n, rfl⟩ : ∃ n : Nat, a = n := ⟨a.toNat, by omega⟩
    refine Ev.bind (spec_cs n (by omega) (by omega)) (Ev.bind (impl_cs n (by omega) (by omega)) ?_)
    simp only [if_true]
    exact Ev.now _
  · refine Ev.bind (spec_cs_no a hr) (Ev.bind (impl_cs_no a hr) ?_)
    simp only [if_true]
    exact Ev.now _

end Go.Proofs.Ytckbeomgbmhmlaa.Pure
