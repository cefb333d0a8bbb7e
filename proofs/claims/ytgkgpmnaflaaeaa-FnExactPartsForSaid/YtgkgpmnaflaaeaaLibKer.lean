/-
  Small words for what the kernel asks number by number.
-/
import Derived.Test.YtgkgpmnaflaaeaaLib
namespace Go.Proofs.Ytgkgpmnaflaaeaa.Lib
open Go.RowKit Go.Proofs.YtgkgpmnaflaaeaaW.PrintWords
set_option linter.unusedVariables false
set_option linter.unusedSimpArgs false

noncomputable def allR (f : Nat → Bool) (s N : Nat) : Bool := Nat.rec (motive := fun _ => Bool) true (fun n ih => f (Nat.add s n) && ih) N
theorem allR_at {f : Nat → Bool} {s N : Nat} (h : allR f s N = true) : ∀ i, s ≤ i → i < s + N → f i = true := by
  induction N with
  | zero => intro i h1 h2; omega
  | succ N ih =>
    intro i h1 h2
    have h3 : (f (s + N) && allR f s N) = true := h
    rw [Bool.and_eq_true] at h3
    by_cases e : i = s + N
    · rw [e]; exact h3.1
    · exact ih h3.2 i h1 (by omega)
theorem cond_ble {α : Type} (a b : Nat) (x y : α) : cond (Nat.ble a b) x y = if a ≤ b then x else y := by
  by_cases h : a ≤ b
  · rw [if_pos h, Nat.ble_eq_true_of_le h]; rfl
  · rw [if_neg h]
    cases hb : Nat.ble a b with
    | true => exact absurd (Nat.le_of_ble_eq_true hb) h
    | false => rfl
theorem cond_beq {α : Type} (a b : Nat) (x y : α) : cond (Nat.beq a b) x y = if a = b then x else y := by
  by_cases h : a = b
  · subst h; rw [if_pos rfl, Nat.beq_refl]; rfl
  · rw [if_neg h]
    cases hb : Nat.beq a b with
    | true => exact absurd (Nat.eq_of_beq_eq_true hb) h
    | false => rfl

end Go.Proofs.Ytgkgpmnaflaaeaa.Lib
