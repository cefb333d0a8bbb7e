/-
  The first two squares that are together a number, as plain functions on whole numbers; what they tell.
-/
import Derived.Test.YtijgepnmcoicgaaLib
namespace Go.Proofs.Ytijgepnmcoicgaa.Lib
open Go.RowKit Go.Proofs.YtijgepnmcoicgaaW.PrintWords
set_option linter.unusedVariables false
set_option linter.unusedSimpArgs false

def fsIn (n a : Nat) : Nat → Nat → Option Nat
  | 0, _ => none
  | f + 1, b => if a * a + b * b ≤ n then (if a * a + b * b = n then some b else fsIn n a f (b + 1)) else none
def fsL (n : Nat) : Nat → Nat → Option (Nat × Nat)
  | 0, _ => none
  | f + 1, a => if 2 * a * a ≤ n then (match fsIn n a (102 - a) a with | some b => some (a, b) | none => fsL n f (a + 1)) else none
def fs (n : Nat) : Option (Nat × Nat) := fsL n 72 0
def trip : Option (Nat × Nat) → Int × Int × Bool
  | some (a, b) => ((a : Int), (b : Int), true)
  | none => (-1, -1, false)

theorem fsIn_some (n a : Nat) : ∀ (f b r : Nat), fsIn n a f b = some r → a * a + r * r = n ∧ b ≤ r := by
  intro f
  induction f with
  | zero => intro b r h; simp [fsIn] at h
  | succ f ih =>
    intro b r h
    simp only [fsIn] at h
    split at h
    · split at h
      · cases h; exact ⟨by assumption, Nat.le_refl _⟩
      · have := ih _ _ h; exact ⟨this.1, by omega⟩
    · cases h
theorem fsIn_none (n a : Nat) (hn : n ≤ 10000) : ∀ (f b : Nat), b + f = 102 → fsIn n a f b = none → ∀ r, b ≤ r → a * a + r * r ≠ n := by
  intro f
  induction f with
  | zero =>
    intro b hb _ r hr e
    have : 102 * 102 ≤ r * r := Nat.mul_le_mul (by omega) (by omega)
    omega
  | succ f ih =>
    intro b hb h r hr e
    simp only [fsIn] at h
    have hbr : b * b ≤ r * r := Nat.mul_le_mul hr hr
    split at h
    · split at h
      · cases h
      · rename_i hne
        rcases Nat.eq_or_lt_of_le hr with e' | hlt
        · subst e'; exact hne e
        · exact ih _ (by omega) h r hlt e
    · omega
theorem fsL_some (n : Nat) : ∀ (f a x y : Nat), fsL n f a = some (x, y) → x * x + y * y = n ∧ x ≤ y := by
  intro f
  induction f with
  | zero => intro a x y h; simp [fsL] at h
  | succ f ih =>
    intro a x y h
    simp only [fsL] at h
    split at h
    · split at h
      · rename_i b hb
        cases h
        exact fsIn_some n _ _ _ _ hb
      · exact ih _ _ _ h
    · cases h
theorem fsL_none (n : Nat) (hn : n ≤ 10000) : ∀ (f a : Nat), a + f = 72 → fsL n f a = none → ∀ x y, a ≤ x → x ≤ y → x * x + y * y ≠ n := by
  intro f
  induction f with
  | zero =>
    intro a ha _ x y hx hy e
    have h1 : 72 * 72 ≤ x * x := Nat.mul_le_mul (by omega) (by omega)
    have h2 : 72 * 72 ≤ y * y := Nat.mul_le_mul (by omega) (by omega)
    omega
  | succ f ih =>
    intro a ha h x y hx hy e
    simp only [fsL] at h
    have hax : a * a ≤ x * x := Nat.mul_le_mul hx hx
    have hxy : x * x ≤ y * y := Nat.mul_le_mul hy hy
    have h2 : 2 * a * a = 2 * (a * a) := Nat.mul_assoc _ _ _
    split at h
    · split at h
      · cases h
      · rename_i hb
        rcases Nat.eq_or_lt_of_le hx with e' | hlt
        · subst e'
          exact fsIn_none n _ hn _ _ (by omega) hb y hy e
        · exact ih _ (by omega) h x y hlt hy e
    · omega
theorem fs_some {n x y : Nat} (h : fs n = some (x, y)) : x * x + y * y = n ∧ x ≤ y := fsL_some n _ _ _ _ h
theorem fs_none {n : Nat} (hn : n ≤ 10000) (h : fs n = none) (x y : Nat) : x * x + y * y ≠ n := by
  rcases Nat.le_total x y with hxy | hxy
  · exact fsL_none n hn 72 0 (by omega) h x y (by omega) hxy
  · rw [Nat.add_comm]; exact fsL_none n hn 72 0 (by omega) h y x (by omega) hxy

end Go.Proofs.Ytijgepnmcoicgaa.Lib
