/-
  Different sums cancel over a period: asked of each two first numbers up to 30 by the kernel, over a table of the sums.
-/
import Derived.Test.YtijgepnmcoicgaaLibOver
import Derived.Test.YtijgepnmcoicgaaLibRam
namespace Go.Proofs.Ytijgepnmcoicgaa.Lib
open Go.RowKit Go.Proofs.YtijgepnmcoicgaaW.PrintWords
set_option linter.unusedVariables false
set_option linter.unusedSimpArgs false

def rmTabs : List (List Int) :=
  [[],
   [1],
   [-1, 1],
   [-1, -1, 2],
   [0, -2, 0, 2],
   [-1, -1, -1, -1, 4],
   [1, -1, -2, -1, 1, 2],
   [-1, -1, -1, -1, -1, -1, 6],
   [0, 0, 0, -4, 0, 0, 0, 4],
   [0, 0, -3, 0, 0, -3, 0, 0, 6],
   [1, -1, 1, -1, -4, -1, 1, -1, 1, 4],
   [-1, -1, -1, -1, -1, -1, -1, -1, -1, -1, 10],
   [0, 2, 0, -2, 0, -4, 0, -2, 0, 2, 0, 4],
   [-1, -1, -1, -1, -1, -1, -1, -1, -1, -1, -1, -1, 12],
   [1, -1, 1, -1, 1, -1, -6, -1, 1, -1, 1, -1, 1, 6],
   [1, 1, -2, 1, -4, -2, 1, 1, -2, -4, 1, -2, 1, 1, 8],
   [0, 0, 0, 0, 0, 0, 0, -8, 0, 0, 0, 0, 0, 0, 0, 8],
   [-1, -1, -1, -1, -1, -1, -1, -1, -1, -1, -1, -1, -1, -1, -1, -1, 16],
   [0, 0, 3, 0, 0, -3, 0, 0, -6, 0, 0, -3, 0, 0, 3, 0, 0, 6],
   [-1, -1, -1, -1, -1, -1, -1, -1, -1, -1, -1, -1, -1, -1, -1, -1, -1, -1, 18],
   [0, 2, 0, -2, 0, 2, 0, -2, 0, -8, 0, -2, 0, 2, 0, -2, 0, 2, 0, 8],
   [1, 1, -2, 1, 1, -2, -6, 1, -2, 1, 1, -2, 1, -6, -2, 1, 1, -2, 1, 1, 12],
   [1, -1, 1, -1, 1, -1, 1, -1, 1, -1, -10, -1, 1, -1, 1, -1, 1, -1, 1, -1, 1, 10],
   [-1, -1, -1, -1, -1, -1, -1, -1, -1, -1, -1, -1, -1, -1, -1, -1, -1, -1, -1, -1, -1, -1, 22],
   [0, 0, 0, 4, 0, 0, 0, -4, 0, 0, 0, -8, 0, 0, 0, -4, 0, 0, 0, 4, 0, 0, 0, 8],
   [0, 0, 0, 0, -5, 0, 0, 0, 0, -5, 0, 0, 0, 0, -5, 0, 0, 0, 0, -5, 0, 0, 0, 0, 20],
   [1, -1, 1, -1, 1, -1, 1, -1, 1, -1, 1, -1, -12, -1, 1, -1, 1, -1, 1, -1, 1, -1, 1, -1, 1, 12],
   [0, 0, 0, 0, 0, 0, 0, 0, -9, 0, 0, 0, 0, 0, 0, 0, 0, -9, 0, 0, 0, 0, 0, 0, 0, 0, 18],
   [0, 2, 0, -2, 0, 2, 0, -2, 0, 2, 0, -2, 0, -12, 0, -2, 0, 2, 0, -2, 0, 2, 0, -2, 0, 2, 0, 12],
   [-1, -1, -1, -1, -1, -1, -1, -1, -1, -1, -1, -1, -1, -1, -1, -1, -1, -1, -1, -1, -1, -1, -1, -1, -1, -1, -1, -1, 28],
   [-1, 1, 2, 1, 4, -2, -1, 1, 2, -4, -1, -2, -1, 1, -8, 1, -1, -2, -1, -4, 2, 1, -1, -2, 4, 1, 2, 1, -1, 8]]
def rmTab (q : Nat) : List Int := rmTabs.getD q []
def rmT (q n : Nat) : Int := rm q (Nat.gcd q n)
theorem rmTab_all : allR (fun q => rmTab q == (List.range' 1 q).map (rmT q)) 1 30 = true := by decide +kernel
theorem rmTab_eq {q : Nat} (h1 : 1 ≤ q) (h2 : q ≤ 30) : rmTab q = (List.range' 1 q).map (rmT q) := by
  have := allR_at rmTab_all q h1 (by omega)
  simpa using this
theorem rmT_period (q n : Nat) : rmT q (n + q) = rmT q n := by unfold rmT; rw [gcd_period]
theorem rmT_periods (q n : Nat) : ∀ k, rmT q (n + q * k) = rmT q n := by
  intro k
  induction k with
  | zero => rfl
  | succ k ih => rw [Nat.mul_succ, ← Nat.add_assoc, rmT_period, ih]
theorem rmTab_from {q : Nat} (h1 : 1 ≤ q) (h2 : q ≤ 30) (n : Nat) (h : n % q = 0) : rmTab q = (List.range' (n + 1) q).map (rmT q) := by
  rw [rmTab_eq h1 h2]
  obtain ⟨k, rfl⟩ := Nat.dvd_of_mod_eq_zero h
  have key : ∀ (f a : Nat), (List.range' a f).map (rmT q) = (List.range' (a + q * k) f).map (rmT q) := by
    intro f
    induction f with
    | zero => intro a; rfl
    | succ f ih =>
      intro a
      rw [List.range'_succ, List.range'_succ, List.map_cons, List.map_cons, rmT_periods, ih (a + 1)]
      congr 3
      omega
  rw [key q 1, Nat.add_comm 1]
noncomputable def opK (F1 F2 : List Int) (f : Nat) : List Int → List Int → Int → Int :=
  Nat.rec (motive := fun _ => List Int → List Int → Int → Int) (fun _ _ s => s)
    (fun _ ih l1 l2 s => List.rec (motive := fun _ => Int) s (fun a r1 _ => List.rec (motive := fun _ => Int) s (fun b r2 _ => ih (cond r1.isEmpty F1 r1) (cond r2.isEmpty F2 r2) (Int.add s (Int.mul a b))) l2) l1) f
theorem map_range_cons (g : Nat → Int) (n j : Nat) (h : 1 ≤ j) : (List.range' n j).map g = g n :: (List.range' (n + 1) (j - 1)).map g := by
  obtain ⟨m, rfl⟩ : ∃ m, j = m + 1 := ⟨j - 1, by omega⟩
  rw [List.range'_succ, List.map_cons, Nat.add_sub_cancel]
theorem next_row {q : Nat} (h1 : 1 ≤ q) (h2 : q ≤ 30) (n j : Nat) (hj : 1 ≤ j) (hm : (n + j - 1) % q = 0) :
    ∃ j', 1 ≤ j' ∧ (n + 1 + j' - 1) % q = 0 ∧ cond ((List.range' (n + 1) (j - 1)).map (rmT q)).isEmpty (rmTab q) ((List.range' (n + 1) (j - 1)).map (rmT q)) = (List.range' (n + 1) j').map (rmT q) := by
  by_cases e : j = 1
  · subst e
    refine ⟨q, h1, ?_, ?_⟩
    · rw [show n + 1 + q - 1 = n + q by omega, Nat.add_mod_right]
      simpa using hm
    · simp only [Nat.sub_self, List.range'_zero, List.map_nil, List.isEmpty_nil, cond_true]
      exact rmTab_from h1 h2 n (by simpa using hm)
  · refine ⟨j - 1, by omega, by rw [show n + 1 + (j - 1) - 1 = n + j - 1 by omega]; exact hm, ?_⟩
    obtain ⟨m, rfl⟩ : ∃ m, j = m + 2 := ⟨j - 2, by omega⟩
    simp only [Nat.add_sub_cancel, show m + 2 - 1 = m + 1 by omega, List.range'_succ, List.map_cons, List.isEmpty_cons, cond_false]
theorem opK_eq {q p : Nat} (h1 : 1 ≤ q) (h2 : q ≤ 30) (h3 : 1 ≤ p) (h4 : p ≤ 30) : ∀ (f n j i : Nat) (s : Int), 1 ≤ j → (n + j - 1) % q = 0 → 1 ≤ i → (n + i - 1) % p = 0 →
    opK (rmTab q) (rmTab p) f ((List.range' n j).map (rmT q)) ((List.range' n i).map (rmT p)) s = s + opF q p f n := by
  intro f
  induction f with
  | zero => intro n j i s _ _ _ _; simp [opF]; rfl
  | succ f ih =>
    intro n j i s hj hjm hi him
    obtain ⟨j', a1, a2, a3⟩ := next_row h1 h2 n j hj hjm
    obtain ⟨i', b1, b2, b3⟩ := next_row h3 h4 n i hi him
    have e : opK (rmTab q) (rmTab p) (f + 1) (rmT q n :: (List.range' (n + 1) (j - 1)).map (rmT q)) (rmT p n :: (List.range' (n + 1) (i - 1)).map (rmT p)) s
        = opK (rmTab q) (rmTab p) f (cond ((List.range' (n + 1) (j - 1)).map (rmT q)).isEmpty (rmTab q) ((List.range' (n + 1) (j - 1)).map (rmT q))) (cond ((List.range' (n + 1) (i - 1)).map (rmT p)).isEmpty (rmTab p) ((List.range' (n + 1) (i - 1)).map (rmT p))) (s + rmT q n * rmT p n) := rfl
    rw [map_range_cons _ n j hj, map_range_cons _ n i hi, e, a3, b3, ih (n + 1) j' i' _ a1 a2 b1 b2]
    simp only [opF]
    have e2 : rmT q n * rmT p n = opT q p n := rfl
    rw [e2]
    omega
noncomputable def opB (q p : Nat) : Bool := (opK (rmTab q) (rmTab p) (Nat.mul q p) (rmTab q) (rmTab p) 0) == (if q = p then ((q * q * ph q : Nat) : Int) else 0)
theorem opB_all : allR (fun q => allR (fun p => opB q p) 1 30) 1 30 = true := by decide +kernel
theorem op_val {q p : Nat} (h1 : 1 ≤ q) (h2 : q ≤ 30) (h3 : 1 ≤ p) (h4 : p ≤ 30) : op q p = if q = p then ((q * q * ph q : Nat) : Int) else 0 := by
  have h := allR_at (allR_at opB_all q h1 (by omega)) p h3 (by omega)
  unfold opB at h
  rw [beq_iff_eq] at h
  rw [← h]
  have e := opK_eq h1 h2 h3 h4 (q * p) 1 q p 0 h1 (by simp) h3 (by simp)
  rw [← rmTab_eq h1 h2, ← rmTab_eq h3 h4, Int.zero_add] at e
  exact e.symm

end Go.Proofs.Ytijgepnmcoicgaa.Lib
