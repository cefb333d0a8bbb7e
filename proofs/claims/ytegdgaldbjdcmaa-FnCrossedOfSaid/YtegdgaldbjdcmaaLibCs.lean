/-
  In how many ways a number is a sum of two squares, as a plain sum over whole numbers from 0 on; the sum from below 0 is the same.
-/
import Derived.Test.YtegdgaldbjdcmaaLib
namespace Go.Proofs.Ytegdgaldbjdcmaa.Lib
open Go.RowKit Go.Proofs.YtegdgaldbjdcmaaW.PrintWords
set_option linter.unusedVariables false
set_option linter.unusedSimpArgs false

/-- The sum of g over so many numbers from one on. -/
def tsum (g : Nat → Nat) : Nat → Nat → Nat
  | 0, _ => 0
  | f + 1, b => g b + tsum g f (b + 1)
/-- The same over whole numbers. -/
def zsum (g : Int → Nat) : Nat → Int → Nat
  | 0, _ => 0
  | f + 1, b => g b + zsum g f (b + 1)
theorem tsum_le {g : Nat → Nat} {m : Nat} (h : ∀ b, g b ≤ m) : ∀ f b, tsum g f b ≤ m * f := by
  intro f
  induction f with
  | zero => intro b; simp [tsum]
  | succ f ih =>
    intro b
    have h1 := h b
    have h2 := ih (b + 1)
    simp only [tsum, Nat.mul_succ]
    omega
theorem zsum_le {g : Int → Nat} {m : Nat} (h : ∀ b, g b ≤ m) : ∀ f b, zsum g f b ≤ m * f := by
  intro f
  induction f with
  | zero => intro b; simp [zsum]
  | succ f ih =>
    intro b
    have h1 := h b
    have h2 := ih (b + 1)
    simp only [zsum, Nat.mul_succ]
    omega
theorem tsum_zero {g : Nat → Nat} : ∀ f b, (∀ j, b ≤ j → g j = 0) → tsum g f b = 0 := by
  intro f
  induction f with
  | zero => intro b _; rfl
  | succ f ih =>
    intro b h
    simp only [tsum]
    rw [h b (Nat.le_refl _), ih (b + 1) (fun j hj => h j (by omega))]
theorem tsum_congr {g g' : Nat → Nat} : ∀ f b, (∀ j, b ≤ j → j < b + f → g j = g' j) → tsum g f b = tsum g' f b := by
  intro f
  induction f with
  | zero => intro b _; rfl
  | succ f ih =>
    intro b h
    simp only [tsum]
    rw [h b (Nat.le_refl _) (by omega), ih (b + 1) (fun j hj hj2 => h j (by omega) (by omega))]
theorem zsum_congr {g g' : Int → Nat} (h : ∀ j, g j = g' j) : ∀ f b, zsum g f b = zsum g' f b := by
  intro f
  induction f with
  | zero => intro b; rfl
  | succ f ih =>
    intro b
    simp only [zsum]
    rw [h b, ih (b + 1)]
theorem tsum_last (g : Nat → Nat) : ∀ f b, tsum g (f + 1) b = tsum g f b + g (b + f) := by
  intro f
  induction f with
  | zero => intro b; simp [tsum]
  | succ f ih =>
    intro b
    have := ih (b + 1)
    simp only [tsum] at this ⊢
    rw [this, show b + 1 + f = b + (f + 1) by omega]
    omega
theorem zsum_last (g : Int → Nat) : ∀ (f : Nat) (b : Int), zsum g (f + 1) b = zsum g f b + g (b + f) := by
  intro f
  induction f with
  | zero => intro b; simp [zsum]
  | succ f ih =>
    intro b
    have := ih (b + 1)
    simp only [zsum] at this ⊢
    rw [this, show b + 1 + (f : Int) = b + ((f + 1 : Nat) : Int) by omega]
    omega
/-- A weight of 1 for 0, of 2 for others. -/
def wt (b : Nat) : Nat := if b = 0 then 1 else 2
theorem zsum_abs (g : Nat → Nat) : ∀ m : Nat, zsum (fun z => g z.natAbs) (2 * m + 1) (-(m : Int)) = tsum (fun b => wt b * g b) (m + 1) 0 := by
  intro m
  induction m with
  | zero => simp [zsum, tsum, wt]
  | succ m ih =>
    have e : 2 * (m + 1) + 1 = (2 * m + 1 + 1) + 1 := by omega
    rw [e, zsum_last]
    have e1 : zsum (fun z => g z.natAbs) (2 * m + 1 + 1) (-((m + 1 : Nat) : Int)) = g (-((m + 1 : Nat) : Int)).natAbs + zsum (fun z => g z.natAbs) (2 * m + 1) (-((m + 1 : Nat) : Int) + 1) := rfl
    rw [e1, show -((m + 1 : Nat) : Int) + 1 = -(m : Int) by omega, ih, tsum_last _ (m + 1) 0]
    have h1 : (-((m + 1 : Nat) : Int)).natAbs = m + 1 := by omega
    have h2 : (-((m + 1 : Nat) : Int) + ((2 * m + 1 + 1 : Nat) : Int)).natAbs = m + 1 := by omega
    have h3 : wt (0 + (m + 1)) = 2 := by simp [wt]
    rw [h1, h2, h3, show 0 + (m + 1) = m + 1 by omega]
    omega
/-- One pair's ways, all pairs with a, all pairs. -/
def csG (n x b : Nat) : Nat := if x + b * b = n then wt b else 0
def csIn (n x : Nat) : Nat := tsum (csG n x) 101 0
def cs (n : Nat) : Nat := tsum (fun a => wt a * csIn n (a * a)) 101 0
theorem wt_le (b : Nat) : wt b ≤ 2 := by unfold wt; split <;> omega
theorem csG_le (n x b : Nat) : csG n x b ≤ 2 := by
  unfold csG; split
  · exact wt_le b
  · omega
theorem csIn_le (n x : Nat) : csIn n x ≤ 202 := tsum_le (csG_le n x) 101 0
theorem cs_le (n : Nat) : cs n ≤ 40804 := by
  unfold cs
  have h := tsum_le (g := fun a => wt a * csIn n (a * a)) (m := 404) (fun b => Nat.le_trans (Nat.mul_le_mul (wt_le b) (csIn_le n (b * b))) (by decide)) 101 0
  omega

end Go.Proofs.Ytegdgaldbjdcmaa.Lib
