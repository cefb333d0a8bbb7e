/-
  Greatest common divisors by remainders; sums of divisors times signs.
-/
import Derived.Test.YtgkgpmnaflaaeaaLibMul
import Derived.Test.YtgkgpmnaflaaeaaLibDiv
namespace Go.Proofs.Ytgkgpmnaflaaeaa.Lib
open Go.RowKit Go.Proofs.YtgkgpmnaflaaeaaW.PrintWords
set_option linter.unusedVariables false
set_option linter.unusedSimpArgs false

theorem gcd_step (a b : Nat) : Nat.gcd b (a % b) = Nat.gcd a b := by
  rw [Nat.gcd_comm b (a % b), ← Nat.gcd_rec, Nat.gcd_comm]
theorem ints_get {l : List Nat} {i : Nat} {x : Nat} (h : l[i]? = some x) : rd (ints l) (i : Int) = (x : Int) := by
  rw [rd_ints, List.getD_eq_getElem?_getD, h]; rfl
/-- The sum of the divisors in a list, each times the sign of what is left of q. -/
def rmL (q : Nat) : List Nat → Int
  | [] => 0
  | d :: r => (d : Int) * sg (q / d) + rmL q r
def rm (q g : Nat) : Int := rmL q (dv g)
theorem rm_term {q d : Nat} (hd : d ≤ 60) : -60 ≤ (d : Int) * sg (q / d) ∧ (d : Int) * sg (q / d) ≤ 60 := by
  have h := sg_rng (q / d)
  generalize sg (q / d) = s at *
  have x1 : s = -1 ∨ s = 0 ∨ s = 1 := by omega
  rcases x1 with x | x | x <;> rw [x] <;> omega
theorem rmL_rng {q : Nat} : ∀ (l : List Nat), (∀ d ∈ l, d ≤ 60) → -(60 * (l.length : Int)) ≤ rmL q l ∧ rmL q l ≤ 60 * (l.length : Int)
  | [], _ => by simp [rmL]
  | d :: r, h => by
    have h1 := rm_term (q := q) (h d (List.mem_cons_self ..))
    have h2 := rmL_rng (q := q) r (fun x hx => h x (List.mem_cons_of_mem _ hx))
    simp only [rmL, List.length_cons]
    generalize (d : Int) * sg (q / d) = z at *
    omega
theorem dv_small {g : Nat} (h1 : 1 ≤ g) (h2 : g ≤ 60) : (∀ d ∈ dv g, 1 ≤ d ∧ d ≤ 60 ∧ g % d = 0) ∧ (dv g).length ≤ 60 := by
  rw [dv_eq h1 (by omega)]
  refine ⟨fun d hd => ?_, ?_⟩
  · have := mem_dvs.1 hd
    exact ⟨this.1, by omega, this.2.2⟩
  · have := dvF_length g 1 g
    unfold dvs
    omega
theorem rm_rng {q g : Nat} (h1 : 1 ≤ g) (h2 : g ≤ 60) : -3600 ≤ rm q g ∧ rm q g ≤ 3600 := by
  obtain ⟨a, b⟩ := dv_small h1 h2
  have := rmL_rng (q := q) (dv g) (fun d hd => (a d hd).2.1)
  unfold rm
  omega

end Go.Proofs.Ytgkgpmnaflaaeaa.Lib
