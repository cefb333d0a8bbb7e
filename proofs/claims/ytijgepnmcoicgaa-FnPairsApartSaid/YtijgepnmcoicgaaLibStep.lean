/-
  Sums over quotients go on by divisors; what follows for signs, for pairs that are apart, up to 1000. What is asked number by number, the kernel is asked.
-/
import Derived.Test.YtijgepnmcoicgaaLibUps
import Derived.Test.YtijgepnmcoicgaaLibDiv
import Derived.Test.YtijgepnmcoicgaaLibKer
namespace Go.Proofs.Ytijgepnmcoicgaa.Lib
open Go.RowKit Go.Proofs.YtijgepnmcoicgaaW.PrintWords
set_option linter.unusedVariables false
set_option linter.unusedSimpArgs false

def dsum (h : Nat → Int) : List Nat → Int
  | [] => 0
  | d :: r => h d + dsum h r
theorem dsum_congr {h h' : Nat → Int} : ∀ (l : List Nat), (∀ d ∈ l, h d = h' d) → dsum h l = dsum h' l
  | [], _ => rfl
  | d :: r, H => by
    simp only [dsum]
    rw [H d (List.mem_cons_self ..), dsum_congr r (fun x hx => H x (List.mem_cons_of_mem _ hx))]
theorem sdiv_eq {n d : Nat} (h : 1 ≤ d) : (n + 1) / d = n / d + if (n + 1) % d = 0 then 1 else 0 := by
  have e1 := Nat.div_add_mod (n + 1) d
  have e2 := Nat.div_add_mod n d
  have l1 := Nat.mod_lt (n + 1) h
  have l2 := Nat.mod_lt n h
  generalize (n + 1) / d = q1 at *
  generalize n / d = q2 at *
  generalize (n + 1) % d = r1 at *
  generalize n % d = r2 at *
  have hle : q2 ≤ q1 := by
    refine Nat.le_of_not_lt (fun hlt => ?_)
    have : d * (q1 + 1) ≤ d * q2 := Nat.mul_le_mul_left d hlt
    rw [Nat.mul_succ] at this
    omega
  have hle2 : q1 ≤ q2 + 1 := by
    refine Nat.le_of_not_lt (fun hlt => ?_)
    have : d * (q2 + 1 + 1) ≤ d * q1 := Nat.mul_le_mul_left d hlt
    rw [Nat.mul_succ, Nat.mul_succ] at this
    omega
  have hc : q1 = q2 ∨ q1 = q2 + 1 := by omega
  rcases hc with rfl | rfl
  · rw [if_neg (by omega)]
    omega
  · rw [Nat.mul_succ] at e1
    rw [if_pos (by omega)]
theorem upF_step (c : Nat → Nat → Int) (n : Nat) : ∀ (f d : Nat), 1 ≤ d → upF (fun k => c k ((n + 1) / k)) f d = upF (fun k => c k (n / k)) f d + dsum (fun k => c k ((n + 1) / k) - c k ((n + 1) / k - 1)) (dvF (n + 1) d f) := by
  intro f
  induction f with
  | zero => intro d _; simp [upF, dvF, dsum]
  | succ f ih =>
    intro d hd
    have ih := ih (d + 1) (by omega)
    simp only [upF]
    rw [dvF_succ, ih]
    have e := sdiv_eq (n := n) hd
    by_cases hm : (n + 1) % d = 0
    · rw [if_pos hm] at e
      rw [if_pos hm]
      simp only [dsum]
      have e3 : (n + 1) / d - 1 = n / d := by rw [e, Nat.add_sub_cancel]
      rw [e3]
      omega
    · rw [if_neg hm] at e
      rw [if_neg hm, e, Nat.add_zero]
      omega
theorem up_step (c : Nat → Nat → Int) (h0 : ∀ k, c k 0 = 0) (n : Nat) : upF (fun k => c k ((n + 1) / k)) (n + 1) 1 = upF (fun k => c k (n / k)) n 1 + dsum (fun k => c k ((n + 1) / k) - c k ((n + 1) / k - 1)) (dvs (n + 1)) := by
  rw [upF_step c n (n + 1) 1 (by omega), upF_last]
  have e : n / (1 + n) = 0 := Nat.div_eq_of_lt (by omega)
  simp only [e, h0]
  unfold dvs
  omega
-- signs
theorem sgS_succ (n : Nat) : sgS (n + 1) = sgS n + sg (n + 1) := by
  unfold sgS
  rw [upF_last, Nat.add_comm 1 n]
theorem sgS_rng : ∀ n : Nat, -(n : Int) ≤ sgS n ∧ sgS n ≤ n := by
  intro n
  induction n with
  | zero => simp [sgS, upF]
  | succ n ih =>
    have h := sg_rng (n + 1)
    rw [sgS_succ]
    omega
theorem sg_div_all : allR (fun n => dsum (fun k => sg (n / k)) (dv n) == if n = 1 then 1 else 0) 1 120 = true := by decide +kernel
def sgQ (n : Nat) : Int := upF (fun k => sgS (n / k)) n 1
theorem sgQ_one : ∀ n, 1 ≤ n → n ≤ 120 → sgQ n = 1 := by
  intro n
  induction n with
  | zero => intro h; omega
  | succ n ih =>
    intro h1 h2
    have e := up_step (fun _ q => sgS q) (fun _ => rfl) n
    have hd := allR_at sg_div_all (n + 1) (by omega) (by omega)
    rw [dv_eq (by omega) (by omega), beq_iff_eq] at hd
    have hc : dsum (fun k => sgS ((n + 1) / k) - sgS ((n + 1) / k - 1)) (dvs (n + 1)) = dsum (fun k => sg ((n + 1) / k)) (dvs (n + 1)) := by
      refine dsum_congr _ (fun d hd => ?_)
      have hm := mem_dvs.1 hd
      have hq : 1 ≤ (n + 1) / d := Nat.div_pos hm.2.1 hm.1
      obtain ⟨m, hm⟩ : ∃ m, (n + 1) / d = m + 1 := ⟨(n + 1) / d - 1, by omega⟩
      rw [hm, sgS_succ, Nat.add_sub_cancel]
      omega
    have e2 : sgQ (n + 1) = sgQ n + dsum (fun k => sg ((n + 1) / k)) (dvs (n + 1)) := by rw [← hc]; exact e
    rw [e2, hd]
    by_cases h0 : n = 0
    · subst h0; rfl
    · rw [ih (by omega) (by omega), if_neg (by omega)]; rfl
-- pairs
def prC (d q : Nat) : Int := sg d * (q : Int) * (q : Int)
theorem prC_diff {d q : Nat} (h : 1 ≤ q) : prC d q - prC d (q - 1) = sg d * (2 * (q : Int) - 1) := by
  obtain ⟨m, rfl⟩ : ∃ m, q = m + 1 := ⟨q - 1, by omega⟩
  rw [Nat.add_sub_cancel]
  unfold prC
  have hs := sg_rng d
  have x1 : sg d = -1 ∨ sg d = 0 ∨ sg d = 1 := by omega
  have e : ((m + 1 : Nat) : Int) * ((m + 1 : Nat) : Int) = (m : Int) * (m : Int) + 2 * (m : Int) + 1 := by push_cast; grind
  rw [Int.mul_assoc, Int.mul_assoc, e]
  generalize (m : Int) * (m : Int) = z
  rcases x1 with x | x | x <;> rw [x] <;> omega
theorem pr_div_all : allR (fun n => dsum (fun d => sg d * (2 * ((n / d : Nat) : Int) - 1)) (dv n) == 2 * (ph n : Int) - if n = 1 then 1 else 0) 1 1000 = true := by decide +kernel
theorem prS_succ {n : Nat} (h : n + 1 ≤ 1000) : prS (n + 1) = prS n + (2 * (ph (n + 1) : Int) - if n + 1 = 1 then 1 else 0) := by
  have e := up_step prC (fun k => by simp [prC]) n
  have hd := allR_at pr_div_all (n + 1) (by omega) (by omega)
  rw [dv_eq (by omega) (by omega), beq_iff_eq] at hd
  have hc : dsum (fun k => prC k ((n + 1) / k) - prC k ((n + 1) / k - 1)) (dvs (n + 1)) = dsum (fun d => sg d * (2 * (((n + 1) / d : Nat) : Int) - 1)) (dvs (n + 1)) := by
    refine dsum_congr _ (fun d hd => ?_)
    have hm := mem_dvs.1 hd
    exact prC_diff (Nat.div_pos hm.2.1 hm.1)
  rw [hc, hd] at e
  exact e
theorem apS_succ (n : Nat) : apS (n + 1) = apS n + (ph (n + 1) : Int) := by
  unfold apS
  rw [upF_last, Nat.add_comm 1 n]
theorem ap_pr : ∀ n, 1 ≤ n → n ≤ 1000 → 2 * apS n - 1 = prS n := by
  intro n
  induction n with
  | zero => intro h; omega
  | succ n ih =>
    intro h1 h2
    rw [apS_succ, prS_succ h2]
    by_cases h0 : n = 0
    · subst h0
      have a : apS 0 = 0 := rfl
      have b : prS 0 = 0 := rfl
      rw [a, b, if_pos rfl]
      omega
    · have := ih (by omega) (by omega)
      rw [if_neg (by omega)]
      omega
theorem ph_lt_all : allR (fun n => Nat.ble (ph n + 1) n) 2 999 = true := by decide +kernel
theorem prS_rng : ∀ n, 1 ≤ n → n ≤ 1000 → 1 ≤ prS n ∧ prS n ≤ (n : Int) * (n : Int) := by
  intro n
  induction n with
  | zero => intro h; omega
  | succ n ih =>
    intro h1 h2
    rw [prS_succ h2]
    by_cases h0 : n = 0
    · subst h0
      have b : prS 0 = 0 := rfl
      have c : ph (0 + 1) = 1 := by decide +kernel
      rw [b, c, if_pos rfl]
      decide
    · have := ih (by omega) (by omega)
      have hl := Nat.le_of_ble_eq_true (allR_at ph_lt_all (n + 1) (by omega) (by omega))
      have e : ((n + 1 : Nat) : Int) * ((n + 1 : Nat) : Int) = (n : Int) * (n : Int) + 2 * (n : Int) + 1 := by push_cast; grind
      rw [if_neg (by omega), e]
      generalize (n : Int) * (n : Int) = z at *
      omega
theorem ph_div_all : allR (fun n => dsum (fun k => 2 * (ph (n / k) : Int) - if n / k = 1 then 1 else 0) (dv n) == 2 * (n : Int) - 1) 1 120 = true := by decide +kernel
def prQ (n : Nat) : Int := upF (fun k => prS (n / k)) n 1
theorem prQ_sq : ∀ n, n ≤ 120 → prQ n = (n : Int) * (n : Int) := by
  intro n
  induction n with
  | zero => intro _; rfl
  | succ n ih =>
    intro h2
    have e := up_step (fun _ q => prS q) (fun _ => rfl) n
    have hd := allR_at ph_div_all (n + 1) (by omega) (by omega)
    rw [dv_eq (by omega) (by omega), beq_iff_eq] at hd
    have hc : dsum (fun k => prS ((n + 1) / k) - prS ((n + 1) / k - 1)) (dvs (n + 1)) = dsum (fun k => 2 * (ph ((n + 1) / k) : Int) - if (n + 1) / k = 1 then 1 else 0) (dvs (n + 1)) := by
      refine dsum_congr _ (fun d hd => ?_)
      have hm := mem_dvs.1 hd
      have hq : 1 ≤ (n + 1) / d := Nat.div_pos hm.2.1 hm.1
      have hq2 : (n + 1) / d ≤ n + 1 := Nat.div_le_self _ _
      obtain ⟨m, hm⟩ : ∃ m, (n + 1) / d = m + 1 := ⟨(n + 1) / d - 1, by omega⟩
      rw [hm, prS_succ (by omega), Nat.add_sub_cancel]
      omega
    rw [hc, hd] at e
    have e2 : prQ (n + 1) = prQ n + (2 * ((n + 1 : Nat) : Int) - 1) := e
    have e3 : ((n + 1 : Nat) : Int) * ((n + 1 : Nat) : Int) = (n : Int) * (n : Int) + 2 * (n : Int) + 1 := by push_cast; grind
    rw [e2, ih (by omega), e3]
    omega

end Go.Proofs.Ytijgepnmcoicgaa.Lib
