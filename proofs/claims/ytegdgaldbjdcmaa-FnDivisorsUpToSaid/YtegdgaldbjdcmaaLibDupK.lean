/-
  Pairs count divisors, up to 1000: asked number by number by the kernel.
-/
import Derived.Test.YtegdgaldbjdcmaaLibDup
import Derived.Test.YtegdgaldbjdcmaaLibDiv
namespace Go.Proofs.Ytegdgaldbjdcmaa.Lib
open Go.RowKit Go.Proofs.YtegdgaldbjdcmaaW.PrintWords
set_option linter.unusedVariables false
set_option linter.unusedSimpArgs false

noncomputable def allR (f : Nat → Bool) (s N : Nat) : Bool := Nat.rec (motive := fun _ => Bool) true (fun n ih => f (Nat.add s n) && ih) N
theorem allR_at {f : Nat → Bool} {s N : Nat} (h : allR f s N = true) : ∀ i, s ≤ i → i < s + N → f i = true := by
  induction N with
  | zero => intro i h1 h2; omega
  | succ N ih =>
    intro i h1 h2
    have h3 : (f (s + N) && allR f s N) = true := h
    rw [Bool.and_eq_true] at h3
    by_cases e : i = s + N
    · rw [e]; exact h3.1
    · exact ih h3.2 i h1 (by omega)
noncomputable def dcnt (n : Nat) (f : Nat) : Nat → Nat → Nat :=
  Nat.rec (motive := fun _ => Nat → Nat → Nat) (fun _ c => c) (fun _ ih d c => cond (Nat.ble (Nat.mul d d) n) (ih (Nat.succ d) (cond (Nat.beq (Nat.mod n d) 0) (cond (Nat.beq (Nat.mul d d) n) (Nat.succ c) (Nat.add c 2)) c)) c) f
noncomputable def dupK (n : Nat) (f : Nat) : Nat → Nat → Nat → Nat × Nat :=
  Nat.rec (motive := fun _ => Nat → Nat → Nat → Nat × Nat) (fun s r _ => (s, Nat.mul r r)) (fun _ ih s r d => cond (Nat.ble (Nat.mul d d) n) (ih (Nat.add s (Nat.mul 2 (Nat.div n d))) d (Nat.succ d)) (s, Nat.mul r r)) f
theorem cond_ble {α : Type} (a b : Nat) (x y : α) : cond (Nat.ble a b) x y = if a ≤ b then x else y := by
  by_cases h : a ≤ b
  · rw [if_pos h, Nat.ble_eq_true_of_le h]; rfl
  · rw [if_neg h]
    cases hb : Nat.ble a b with
    | true => exact absurd (Nat.le_of_ble_eq_true hb) h
    | false => rfl
theorem cond_beq {α : Type} (a b : Nat) (x y : α) : cond (Nat.beq a b) x y = if a = b then x else y := by
  by_cases h : a = b
  · subst h; rw [if_pos rfl, Nat.beq_refl]; rfl
  · rw [if_neg h]
    cases hb : Nat.beq a b with
    | true => exact absurd (Nat.eq_of_beq_eq_true hb) h
    | false => rfl
theorem dupK_eq (n : Nat) : ∀ (f s r d : Nat), dupL n f s r d = ((dupK n f s r d).1 : Int) - ((dupK n f s r d).2 : Int) := by
  intro f
  induction f with
  | zero => intro s r d; rfl
  | succ f ih =>
    intro s r d
    have e : dupK n (f + 1) s r d = cond (Nat.ble (Nat.mul d d) n) (dupK n f (Nat.add s (Nat.mul 2 (Nat.div n d))) d (Nat.succ d)) (s, Nat.mul r r) := rfl
    rw [e, cond_ble]
    simp only [dupL]
    by_cases h : d * d ≤ n
    · rw [if_pos h, if_pos (show Nat.mul d d ≤ n from h)]
      exact ih _ _ _
    · rw [if_neg h, if_neg (show ¬ Nat.mul d d ≤ n from h)]
      rfl
theorem dcnt_eq (n : Nat) : ∀ (f d c : Nat), dcnt n f d c = c + ((sm n f d).length + (bk n f d).length) := by
  intro f
  induction f with
  | zero => intro d c; rfl
  | succ f ih =>
    intro d c
    have e : dcnt n (f + 1) d c = cond (Nat.ble (Nat.mul d d) n) (dcnt n f (Nat.succ d) (cond (Nat.beq (Nat.mod n d) 0) (cond (Nat.beq (Nat.mul d d) n) (Nat.succ c) (Nat.add c 2)) c)) c := rfl
    rw [e, cond_ble, cond_beq, cond_beq]
    simp only [sm, bk]
    by_cases h : d * d ≤ n
    · rw [if_pos h, if_pos h, if_pos (show Nat.mul d d ≤ n from h), ih]
      by_cases hm : n % d = 0
      · rw [if_pos hm, if_pos hm, if_pos (show Nat.mod n d = 0 from hm)]
        by_cases hl : d * d < n
        · rw [if_pos hl, if_neg (show ¬ Nat.mul d d = n from fun h => by have h : d * d = n := h; omega)]
          simp only [List.length_cons, Nat.succ_eq_add_one, Nat.add_eq]
          omega
        · rw [if_neg hl, if_pos (show Nat.mul d d = n from by show d * d = n; omega)]
          simp only [List.length_cons, Nat.succ_eq_add_one, Nat.add_eq]
          omega
      · rw [if_neg hm, if_neg hm, if_neg (show ¬ Nat.mod n d = 0 from hm)]
    · rw [if_neg h, if_neg h, if_neg (show ¬ Nat.mul d d ≤ n from h)]
      simp
noncomputable def dupB (n : Nat) : Bool := Nat.beq (Nat.add (Nat.add (dupK n 32 0 0 1).1 (dcnt (n + 1) 101 1 0)) (dupK (n + 1) 32 0 0 1).2) (Nat.add (dupK (n + 1) 32 0 0 1).1 (dupK n 32 0 0 1).2)
theorem dupB_all : allR dupB 1 999 = true := by decide +kernel
theorem dup_step {n : Nat} (h1 : 1 ≤ n) (h2 : n < 1000) : dup n + ((dv (n + 1)).length : Int) = dup (n + 1) := by
  have h := Nat.eq_of_beq_eq_true (allR_at dupB_all n h1 (by omega))
  unfold dup
  rw [dupK_eq, dupK_eq]
  have hl : (dv (n + 1)).length = dcnt (n + 1) 101 1 0 := by rw [dcnt_eq]; simp [dv]
  rw [hl]
  simp only [Nat.add_eq] at h
  omega
theorem dup_one : dup 1 = 1 := by decide +kernel
theorem dup_pos : ∀ n, 1 ≤ n → n ≤ 1000 → 1 ≤ dup n := by
  intro n
  induction n with
  | zero => intro h; omega
  | succ n ih =>
    intro h1 h2
    by_cases h0 : n = 0
    · subst h0; rw [dup_one]; decide
    · have := ih (by omega) (by omega)
      have := dup_step (n := n) (by omega) (by omega)
      omega
theorem dupL_le (n : Nat) (hn : n ≤ 1000) : ∀ (f s r d : Nat), dupL n f s r d ≤ (s : Int) + 2000 * (f : Int) := by
  intro f
  induction f with
  | zero => intro s r d; simp only [dupL]; omega
  | succ f ih =>
    intro s r d
    simp only [dupL]
    have hq : n / d ≤ n := Nat.div_le_self _ _
    split
    · have := ih (s + 2 * (n / d)) d (d + 1)
      generalize n / d = q at *
      omega
    · omega
theorem dup_bound {n : Nat} (hn : n ≤ 1000) : dup n ≤ 100000 := by
  have := dupL_le n hn 32 0 0 1
  unfold dup
  omega

end Go.Proofs.Ytegdgaldbjdcmaa.Lib
