/-
  For every whole number the program's PairsApart and the reference's answer the same.
-/
import Derived.Test.YtijgepnmcoicgaaPFnExactPairsApartx4
import Derived.Test.YtijgepnmcoicgaaLib
import Derived.Test.YtijgepnmcoicgaaLibFac
import Derived.Test.YtijgepnmcoicgaaLibMul
import Derived.Test.YtijgepnmcoicgaaLibUps
import Derived.Test.YtijgepnmcoicgaaLibDiv
namespace Go.Proofs.Ytijgepnmcoicgaa.Pure
open Go.RowKit Go.Proofs.Ytijgepnmcoicgaa.PFnExactPairsApart Go.Proofs.YtijgepnmcoicgaaW.PrintWords Go.Proofs.YtijgepnmcoicgaaW.PrintLast Go.Proofs.Ytijgepnmcoicgaa.Lib
set_option linter.unusedVariables false
set_option linter.unusedSimpArgs false

theorem sq_cast (a : Nat) : (a : Int) * (a : Int) = ((a * a : Nat) : Int) := by simp
theorem sq_le {a m : Nat} (h : a ≤ m) : a * a ≤ m * m := Nat.mul_le_mul h h
theorem sq_le' {a m : Nat} (h : a ≤ m) : a * a ≤ m * m := Nat.mul_le_mul h h

theorem impl_strip (x : List (List Int)) (hx : x.length ≤ 1000) (p : Nat) (hp : 2 ≤ p) (hp2 : p ≤ 10000) (R : List (List Int)) : ∀ (f n c : Nat), 1 ≤ n → n ≤ 10000 → n < 2 ^ f → c + f ≤ 1000 →
    Ev (fun k => impl_factors.l0 k ((strip f n p c).1 : Int) (if 0 < (strip f n p c).2 then x ++ [[(p : Int), ((strip f n p c).2 : Int)]] else x) ((p : Int) + 1)) R →
    Ev (fun k => impl_factors.l1 k (n : Int) x (p : Int) (c : Int)) R := by
  intro f
  induction f with
  | zero => intro n c h1 _ h2; simp at h2; omega
  | succ f ih =>
    intro n c h1 h3 h2 hc hR
    by_cases h : n % p = 0
    · have e := Nat.mul_div_cancel' (Nat.dvd_of_mod_eq_zero h)
      have hq1 : 1 ≤ n / p := by
        refine Nat.pos_of_ne_zero (fun hz => ?_)
        rw [hz] at e; omega
      have hq2 : n / p < 2 ^ f := by
        have : 2 * (n / p) ≤ p * (n / p) := Nat.mul_le_mul_right _ hp
        rw [Nat.pow_succ] at h2
        omega
      have hq3 : n / p ≤ 10000 := Nat.le_trans (Nat.div_le_self _ _) h3
      simp only [strip, if_pos h] at hR
      refine Ev.step (fun k => ?_) (ih (n / p) (c + 1) hq1 hq3 hq2 (by omega) hR)
      simp only [impl_factors.l1, tmod_nat, tdiv_nat]
      generalize n / p = q at *
      rw [if_neg (by omega), if_pos (by omega), w64 (n := (q : Int)) (by omega) (by omega), w64 (n := (c : Int) + 1) (by omega) (by omega)]
      rfl
    · simp only [strip, if_neg h] at hR
      refine Ev.step (fun k => ?_) hR
      simp only [impl_factors.l1, tmod_nat]
      rw [if_neg (by omega), if_neg (by omega)]
      by_cases hc0 : 0 < c
      · rw [if_pos (by omega), if_pos (by omega), if_pos hc0, w64 (by omega) (by omega)]
      · rw [if_neg (by omega), if_neg hc0, w64 (by omega) (by omega)]
theorem impl_facL : ∀ (f n p : Nat) (x : List (List Int)), 1 ≤ n → n ≤ 10000 → 2 ≤ p → p ≤ 10001 → (n ≤ 1 ∨ (103 ≤ p + f ∧ 1 ≤ f)) → x.length + f ≤ 500 →
    Ev (fun k => impl_factors.l0 k (n : Int) x (p : Int)) (x ++ fints (facI f n p)) := by
  intro f
  induction f with
  | zero =>
    intro n p x h1 h2 h3 h4 h5 h6
    have hn : n = 1 := by omega
    subst hn
    refine Ev.step (fun k => ?_) (Ev.now _)
    simp only [impl_factors.l0]
    rw [if_neg (by omega)]
    simp [facI, fints]
  | succ f ih =>
    intro n p x h1 h2 h3 h4 h5 h6
    by_cases hn : 1 < n
    · have hpp : p * p ≤ 10001 * 10001 := sq_le h4
      by_cases hc : p * p > n
      · -- the number itself
        have hs := strip_self (show 2 ≤ n by omega)
        have ih := ih 1 (n + 1) (x ++ [[(n : Int), 1]]) (by omega) (by omega) (by omega) (by omega) (by omega) (by simp; omega)
        have h := impl_strip x (by omega) n (by omega) h2 (x ++ [[(n : Int), 1]] ++ fints (facI f 1 (n + 1))) 14 n 0 h1 h2 (by omega) (by omega) (by rw [hs]; exact ih)
        have e : x ++ fints (facI (f + 1) n p) = x ++ [[(n : Int), 1]] ++ fints (facI f 1 (n + 1)) := by
          rw [facI_prime f p hn hc, facI_one f _ (Nat.le_refl _)]; simp [fints]
        rw [e]
        refine Ev.step (f := fun k => impl_factors.j1 k (n : Int) x (n : Int)) (fun k => ?_) (Ev.step (fun k => ?_) h)
        · simp only [impl_factors.l0, sq_cast]
          rw [if_pos (by omega), w64 (n := ((p * p : Nat) : Int)) (by omega) (by omega), if_pos (by omega)]
        · simp only [impl_factors.j1]
          rfl
      · have hp100 : p ≤ 100 := by
          refine Nat.le_of_not_lt (fun hp => ?_)
          have : 101 * 101 ≤ p * p := sq_le hp
          omega
        obtain ⟨s1, s2, s3, s4, s5, s6, s7⟩ := strip_spec p h3 14 n 0 h1 (by omega)
        have e : x ++ fints (facI (f + 1) n p) = (if 0 < (strip 14 n p 0).2 then x ++ [[(p : Int), ((strip 14 n p 0).2 : Int)]] else x) ++ fints (facI f (strip 14 n p 0).1 (p + 1)) := by
          rw [facI_succ, if_pos hn]
          simp only [if_neg hc]
          split <;> simp [fints]
        rw [e]
        have hlen : (if 0 < (strip 14 n p 0).2 then x ++ [[(p : Int), ((strip 14 n p 0).2 : Int)]] else x).length + f ≤ 500 := by
          by_cases hcc : 0 < (strip 14 n p 0).2
          · rw [if_pos hcc]; simp; omega
          · rw [if_neg hcc]; omega
        have ih := ih (strip 14 n p 0).1 (p + 1) (if 0 < (strip 14 n p 0).2 then x ++ [[(p : Int), ((strip 14 n p 0).2 : Int)]] else x) s1 (by omega) (by omega) (by omega) (.inr ⟨by omega, by omega⟩) hlen
        have h := impl_strip x (by omega) p h3 (by omega) _ 14 n 0 h1 h2 (by omega) (by omega) ih
        refine Ev.step (f := fun k => impl_factors.j1 k (n : Int) x (p : Int)) (fun k => ?_) (Ev.step (fun k => ?_) h)
        · simp only [impl_factors.l0, sq_cast]
          rw [if_pos (by omega), w64 (n := ((p * p : Nat) : Int)) (by omega) (by omega), if_neg (by omega)]
        · simp only [impl_factors.j1]
          rfl
    · rw [facI_one _ _ (by omega)]
      refine Ev.step (fun k => ?_) (Ev.now _)
      simp only [impl_factors.l0]
      rw [if_neg (by omega)]
      simp [fints]
theorem impl_fac {n : Nat} (h1 : 1 ≤ n) (h2 : n ≤ 10000) : Ev (fun k => impl_factors.f k (n : Int)) (fints (fac n)) := by
  unfold impl_factors.f
  have h := impl_facL 101 n 2 [] h1 h2 (by omega) (by omega) (.inr ⟨by omega, by omega⟩) (by simp)
  rw [List.nil_append] at h
  exact h

theorem fints_at (l : List (Nat × Nat)) (i : Nat) (x : Nat × Nat) (h : l[i]? = some x) : rd_L1 (fints l) (i : Int) = [(x.1 : Int), (x.2 : Int)] := by
  unfold rd_L1 fints
  rw [Int.toNat_natCast, List.getD_eq_getElem?_getD, List.getElem?_map, h]
  rfl

theorem impl_sgL (l : List (Nat × Nat)) (hl : l.length ≤ 1000) : ∀ (r : List (Nat × Nat)) (i : Nat) (s : Int), l.drop i = r → i ≤ l.length → -1 ≤ s → s ≤ 1 →
    Ev (fun k => impl_sign.l0 k s (fints l) (l.length : Int) (i : Int)) (sgL s r) := by
  intro r
  induction r with
  | nil =>
    intro i s hd hi _ _
    have : l.length ≤ i := List.drop_eq_nil_iff.1 hd
    refine Ev.step (fun k => ?_) (Ev.now _)
    simp only [impl_sign.l0]
    rw [if_neg (by omega)]
    rfl
  | cons x r ih =>
    intro i s hd hi hs1 hs2
    obtain ⟨hlt, hx, hr⟩ := drop_at hd
    simp only [sgL]
    by_cases hc : 1 < x.2
    · rw [if_pos hc]
      refine Ev.step (fun k => ?_) (Ev.now _)
      simp only [impl_sign.l0, fints_at l i x hx, fints_length, rd_p0, rd_p1, len_p]
      rw [if_pos (by omega), if_pos (by omega), if_pos (by omega), if_pos (by omega), if_pos (by omega)]
    · rw [if_neg hc]
      refine Ev.step (fun k => ?_) (ih (i + 1) (-s) hr hlt (by omega) (by omega))
      simp only [impl_sign.l0, fints_at l i x hx, fints_length, rd_p0, rd_p1, len_p]
      rw [if_pos (by omega), if_pos (by omega), if_pos (by omega), if_pos (by omega), if_neg (by omega), w64 (by omega) (by omega), w64 (by omega) (by omega)]
      rfl
theorem impl_sg {n : Nat} (h1 : 1 ≤ n) (h2 : n ≤ 10000) : Ev (fun k => impl_sign.f k (n : Int)) (sg n) := by
  unfold impl_sign.f
  refine Ev.bind (impl_fac h1 h2) ?_
  rw [fints_length]
  exact impl_sgL (fac n) (fac_length n) (fac n) 0 1 rfl (Nat.zero_le _) (by omega) (by omega)

theorem upToOk_eq (a : Int) : impl_upToOk.f a = some (decide (1 ≤ a ∧ a ≤ 1000)) := by
  unfold impl_upToOk.f
  by_cases h : a ≥ 1
  · rw [if_pos h]; simp [h]
  · rw [if_neg h]; congr 1; symm; simp; intro h2; omega

theorem prG_wraps {n d : Nat} (hn : n ≤ 1000) : wrap64 ((wrap64 (sg d * ((n / d : Nat) : Int))) * ((n / d : Nat) : Int)) = prG n d := by
  have hs := sg_rng d
  have hq : n / d ≤ 1000 := Nat.le_trans (Nat.div_le_self _ _) hn
  have hr := prG_rng (d := d) hn
  have e1 : wrap64 (sg d * ((n / d : Nat) : Int)) = sg d * ((n / d : Nat) : Int) := by
    generalize n / d = q at *
    have x1 : sg d = -1 ∨ sg d = 0 ∨ sg d = 1 := by omega
    rcases x1 with x | x | x <;> rw [x] <;> exact w64 (by omega) (by omega)
  rw [e1]
  exact w64 (n := prG n d) (by omega) (by omega)
theorem impl_prL {n : Nat} (h2 : n ≤ 1000) : ∀ (f d : Nat) (s : Int), d + f = n + 1 → 1 ≤ d → -(1000000 * (d : Int)) ≤ s → s ≤ 1000000 * (d : Int) →
    Ev (fun k => impl_PairsApart_s.l0 k (n : Int) (n : Int) s (d : Int)) (s + upF (prG n) f d) := by
  intro f
  induction f with
  | zero =>
    intro d s hd h3 h4 h5
    refine Ev.step (fun k => ?_) (Ev.now _)
    simp only [impl_PairsApart_s.l0]
    rw [if_neg (by omega)]
    simp [upF]
  | succ f ih =>
    intro d s hd h3 h4 h5
    have hp := prG_rng (d := d) h2
    have hq : n / d ≤ 1000 := Nat.le_trans (Nat.div_le_self _ _) h2
    have ih := ih (d + 1) (s + prG n d) (by omega) (by omega) (by omega) (by omega)
    have ha : Ev (fun k => impl_PairsApart_1.f k (n : Int) (d : Int)) (prG n d) := by
      unfold impl_PairsApart_1.f
      refine Ev.bind (impl_sg (by omega) (by omega)) (Ev.ite_neg (by omega) (Ev.const ?_))
      have e0 : wrap64 ((n / d : Nat) : Int) = ((n / d : Nat) : Int) := by
        generalize n / d = q at *
        exact w64 (by omega) (by omega)
      rw [tdiv_nat, e0, prG_wraps h2]
    simp only [upF]
    rw [← Int.add_assoc]
    refine Ev.step (f := fun k => (impl_PairsApart_1.f k (n : Int) (d : Int)).bind fun t => (impl_PairsApart_s.l0 k (n : Int) (n : Int) (wrap64 (s + t)) (wrap64 ((d : Int) + 1)))) (fun k => ?_) (Ev.bind ha ?_)
    · simp only [impl_PairsApart_s.l0]
      rw [if_pos (by omega)]
    · rw [w64 (n := s + prG n d) (by omega) (by omega), w64 (by omega) (by omega)]
      exact ih
theorem impl_pr {n : Nat} (h1 : 1 ≤ n) (h2 : n ≤ 1000) : Ev (fun k => impl_PairsApart.f k (n : Int)) (prS n) := by
  unfold impl_PairsApart.f
  simp only [upToOk_eq, Option.bind_some, show (1 : Int) ≤ n ∧ (n : Int) ≤ 1000 from ⟨by omega, by omega⟩, and_self, decide_true, if_true]
  have h := impl_prL h2 n 1 0 (by omega) (by omega) (by omega) (by omega)
  rw [Int.zero_add] at h
  exact h
theorem impl_pr_no {a : Int} (h : ¬ (1 ≤ a ∧ a ≤ 1000)) : Ev (fun k => impl_PairsApart.f k a) (-1) := by
  unfold impl_PairsApart.f
  simp only [upToOk_eq, Option.bind_some, h, decide_false]
  exact Ev.now _

theorem l1In_eq (a b c : Int) : spec_l1In.f a b c = some (decide (b ≤ a ∧ a ≤ c)) := by
  unfold spec_l1In.f
  by_cases h : a ≥ b
  · rw [if_pos h]; simp [h]
  · rw [if_neg h]; congr 1; symm; simp; intro h2; omega

theorem spec_strip (z : Int) (x : List (List Int)) (hx : x.length ≤ 1000) (p : Nat) (hp : 2 ≤ p) (hp2 : p ≤ 10000) (R : List (List Int)) : ∀ (f n c : Nat), 1 ≤ n → n ≤ 10000 → n < 2 ^ f → c + f ≤ 1000 →
    Ev (fun k => spec_FactorsOf.l0 k z (if 0 < (strip f n p c).2 then x ++ [[(p : Int), ((strip f n p c).2 : Int)]] else x) ((strip f n p c).1 : Int) ((p : Int) + 1)) R →
    Ev (fun k => spec_FactorsOf.l1 k z x (n : Int) (p : Int) (c : Int)) R := by
  intro f
  induction f with
  | zero => intro n c h1 _ h2; simp at h2; omega
  | succ f ih =>
    intro n c h1 h3 h2 hc hR
    by_cases h : n % p = 0
    · have e := Nat.mul_div_cancel' (Nat.dvd_of_mod_eq_zero h)
      have hq1 : 1 ≤ n / p := by
        refine Nat.pos_of_ne_zero (fun hz => ?_)
        rw [hz] at e; omega
      have hq2 : n / p < 2 ^ f := by
        have : 2 * (n / p) ≤ p * (n / p) := Nat.mul_le_mul_right _ hp
        rw [Nat.pow_succ] at h2
        omega
      have hq3 : n / p ≤ 10000 := Nat.le_trans (Nat.div_le_self _ _) h3
      simp only [strip, if_pos h] at hR
      refine Ev.step (fun k => ?_) (ih (n / p) (c + 1) hq1 hq3 hq2 (by omega) hR)
      simp only [spec_FactorsOf.l1, tmod_nat, tdiv_nat]
      generalize n / p = q at *
      rw [if_neg (by omega), if_pos (by omega), w64 (n := (q : Int)) (by omega) (by omega), w64 (n := (c : Int) + 1) (by omega) (by omega)]
      rfl
    · simp only [strip, if_neg h] at hR
      refine Ev.step (fun k => ?_) hR
      simp only [spec_FactorsOf.l1, tmod_nat]
      rw [if_neg (by omega), if_neg (by omega)]
      by_cases hc0 : 0 < c
      · rw [if_pos (by omega), if_pos (by omega), if_pos hc0, w64 (by omega) (by omega)]
      · rw [if_neg (by omega), if_neg hc0, w64 (by omega) (by omega)]
theorem spec_fac_step {z : Int} (hz : 1 ≤ z ∧ z ≤ 10000) (x R : List (List Int)) (n p : Nat) (h : p ≤ n) (k : Ev (fun k => spec_FactorsOf.l1 k z x (n : Int) (p : Int) 0) R) :
    Ev (fun k => spec_FactorsOf.l0 k z x (n : Int) (p : Int)) R := by
  refine Ev.step (f := fun k => spec_FactorsOf.j1 k z x (n : Int) (p : Int) true) (fun k => ?_) (Ev.step (fun k => ?_) k)
  · simp only [spec_FactorsOf.l0]
    rw [if_pos (by omega), l1In_eq, decide_eq_true hz]
    rfl
  · simp only [spec_FactorsOf.j1, if_true]
theorem spec_fac_end (z : Int) (x : List (List Int)) (n p : Nat) (h : n < p) : Ev (fun k => spec_FactorsOf.l0 k z x (n : Int) (p : Int)) x := by
  refine Ev.step (f := fun k => spec_FactorsOf.j1 k z x (n : Int) (p : Int) false) (fun k => ?_) (Ev.step (fun k => ?_) (Ev.now _))
  · simp only [spec_FactorsOf.l0]
    rw [if_neg (by omega)]
  · simp only [spec_FactorsOf.j1]
    rw [if_neg (by simp)]
/-- What is left is a prime: no smaller number from p on divides it. -/
theorem spec_fac_tail {z : Int} (hz : 1 ≤ z ∧ z ≤ 10000) (x : List (List Int)) (hx : x.length ≤ 900) (n : Nat) (h1 : 1 < n) (h2 : n ≤ 10000) : ∀ (m p : Nat), p + m = n → 2 ≤ p → n < p * p → (∀ q, 2 ≤ q → q < p → n % q ≠ 0) →
    Ev (fun k => spec_FactorsOf.l0 k z x (n : Int) (p : Int)) (x ++ [[(n : Int), 1]]) := by
  intro m
  induction m with
  | zero =>
    intro p hp hp2 hpp hq
    have e : p = n := by omega
    subst e
    have hs := strip_self (show 2 ≤ p by omega)
    refine spec_fac_step hz x _ p p (Nat.le_refl _) (spec_strip z x (by omega) p (by omega) h2 _ 14 p 0 (by omega) h2 (by omega) (by omega) ?_)
    rw [hs]
    exact spec_fac_end z _ 1 (p + 1) (by omega)
  | succ m ih =>
    intro p hp hp2 hpp hq
    have hnd : n % p ≠ 0 := by
      intro h0
      have e := Nat.mul_div_cancel' (Nat.dvd_of_mod_eq_zero h0)
      generalize n / p = q at *
      have hq2 : 2 ≤ q := by
        refine Nat.le_of_not_lt (fun h => ?_)
        have : q = 0 ∨ q = 1 := by omega
        rcases this with rfl | rfl <;> omega
      have hqp : q < p := by
        refine Nat.lt_of_not_le (fun h => ?_)
        have : p * p ≤ p * q := Nat.mul_le_mul_left p h
        omega
      exact hq q hq2 hqp (by rw [← e]; exact Nat.mul_mod_left _ _)
    refine spec_fac_step hz x _ n p (by omega) (spec_strip z x (by omega) p (by omega) (by omega) _ 14 n 0 (by omega) h2 (by omega) (by omega) ?_)
    rw [strip_none hnd]
    refine ih (p + 1) (by omega) (by omega) ?_ (fun q hq1 hq2 => ?_)
    · have : p * p ≤ (p + 1) * (p + 1) := Nat.mul_le_mul (by omega) (by omega)
      omega
    · by_cases e : q = p
      · subst e; exact hnd
      · exact hq q hq1 (by omega)
theorem spec_facL {z : Int} (hz : 1 ≤ z ∧ z ≤ 10000) : ∀ (m f n p : Nat) (x : List (List Int)), n + 1 - p ≤ m → 1 ≤ n → n ≤ 10000 → 2 ≤ p → (∀ q, 2 ≤ q → q < p → n % q ≠ 0) → (n ≤ 1 ∨ (103 ≤ p + f ∧ 1 ≤ f)) → x.length + f ≤ 500 →
    Ev (fun k => spec_FactorsOf.l0 k z x (n : Int) (p : Int)) (x ++ fints (facI f n p)) := by
  intro m
  induction m with
  | zero =>
    intro f n p x hm h1 h2 h3 hq h5 h6
    have hn : ¬ 1 < n := fun hn => hq n (by omega) (by omega) (Nat.mod_self n)
    rw [facI_one _ _ (by omega)]
    rw [show x ++ fints [] = x by simp [fints]]
    exact spec_fac_end z x n p (by omega)
  | succ m ih =>
    intro f n p x hm h1 h2 h3 hq h5 h6
    by_cases hn : 1 < n
    · by_cases hc : n < p * p
      · obtain ⟨f, rfl⟩ : ∃ g, f = g + 1 := ⟨f - 1, by omega⟩
        rw [facI_prime f p hn hc]
        have hpn : p ≤ n := Nat.le_of_not_lt (fun h => hq n (by omega) h (Nat.mod_self n))
        exact spec_fac_tail hz x (by omega) n hn h2 (n - p) p (by omega) h3 hc hq
      · have hp100 : p ≤ 100 := by
          refine Nat.le_of_not_lt (fun hp => ?_)
          have : 101 * 101 ≤ p * p := sq_le hp
          omega
        have hpn : p * 2 ≤ p * p := Nat.mul_le_mul_left p h3
        obtain ⟨f, rfl⟩ : ∃ g, f = g + 1 := ⟨f - 1, by omega⟩
        obtain ⟨s1, s2, s3, s4, s5, s6, s7⟩ := strip_spec p h3 14 n 0 h1 (by omega)
        have e : x ++ fints (facI (f + 1) n p) = (if 0 < (strip 14 n p 0).2 then x ++ [[(p : Int), ((strip 14 n p 0).2 : Int)]] else x) ++ fints (facI f (strip 14 n p 0).1 (p + 1)) := by
          have hc' : ¬ (p * p > n) := hc
          rw [facI_succ, if_pos hn]
          simp only [if_neg hc']
          split <;> simp [fints]
        rw [e]
        have hlen : (if 0 < (strip 14 n p 0).2 then x ++ [[(p : Int), ((strip 14 n p 0).2 : Int)]] else x).length + f ≤ 500 := by
          by_cases hcc : 0 < (strip 14 n p 0).2
          · rw [if_pos hcc]; simp; omega
          · rw [if_neg hcc]; omega
        refine spec_fac_step hz x _ n p (by omega) (spec_strip z x (by omega) p h3 (by omega) _ 14 n 0 h1 h2 (by omega) (by omega) ?_)
        refine ih f (strip 14 n p 0).1 (p + 1) _ (by omega) s1 (by omega) (by omega) (fun q hq1 hq2 h0 => ?_) (.inr ⟨by omega, by omega⟩) hlen
        by_cases e : q = p
        · subst e; exact s4 h0
        · refine hq q hq1 (by omega) (Nat.mod_eq_zero_of_dvd (Nat.dvd_trans (Nat.dvd_of_mod_eq_zero h0) s3))
    · rw [facI_one _ _ (by omega), show x ++ fints [] = x by simp [fints]]
      exact spec_fac_end z x n p (by omega)
theorem spec_fac {n : Nat} (h1 : 1 ≤ n) (h2 : n ≤ 10000) : Ev (fun k => spec_FactorsOf.f k (n : Int)) (fints (fac n)) := by
  unfold spec_FactorsOf.f
  have h := spec_facL (z := (n : Int)) ⟨by omega, by omega⟩ n 101 n 2 [] (by omega) h1 h2 (by omega) (fun q h1 h2 => by omega) (.inr ⟨by omega, by omega⟩) (by simp)
  rw [List.nil_append] at h
  exact h
theorem spec_fac_no {a : Int} (h : ¬ (1 ≤ a ∧ a ≤ 10000)) : Ev (fun k => spec_FactorsOf.f k a) [] := by
  unfold spec_FactorsOf.f
  refine Ev.step (f := fun k => spec_FactorsOf.j1 k a [] a 2 false) (fun k => ?_) (Ev.step (fun k => ?_) (Ev.now _))
  · simp only [spec_FactorsOf.l0]
    by_cases h1 : 2 ≤ a
    · rw [if_pos h1, l1In_eq, decide_eq_false h]
      rfl
    · rw [if_neg h1]
  · simp only [spec_FactorsOf.j1]
    rw [if_neg (by simp)]

theorem spec_dvL {n : Nat} (h2 : n ≤ 10000) : ∀ (f d : Nat) (x : List Int), d + f = n + 1 → 1 ≤ d → x.length < d →
    Ev (fun k => spec_DivisorsOf.l0 k (n : Int) x (d : Int)) (x ++ ints (dvF n d f)) := by
  intro f
  induction f with
  | zero =>
    intro d x hd hd1 hx
    simp only [dvF, List.range'_zero, List.filter_nil, ints, List.map_nil, List.append_nil]
    refine Ev.step (f := fun k => spec_DivisorsOf.j1 k (n : Int) x (d : Int) false) (fun k => ?_) (Ev.step (fun k => ?_) (Ev.now _))
    · simp only [spec_DivisorsOf.l0]
      rw [if_neg (by omega)]
    · simp only [spec_DivisorsOf.j1]
      rw [if_neg (by simp)]
  | succ f ih =>
    intro d x hd hd1 hx
    rw [dvF_succ]
    by_cases hm : n % d = 0
    · have ih := ih (d + 1) (x ++ [(d : Int)]) (by omega) (by omega) (by simp; omega)
      rw [if_pos hm, show x ++ ints (d :: dvF n (d + 1) f) = x ++ [(d : Int)] ++ ints (dvF n (d + 1) f) by simp [ints]]
      refine Ev.step (f := fun k => spec_DivisorsOf.j1 k (n : Int) x (d : Int) true) (fun k => ?_) (Ev.step (fun k => ?_) ih)
      · simp only [spec_DivisorsOf.l0]
        rw [if_pos (by omega), decide_eq_true (by omega)]
      · simp only [spec_DivisorsOf.j1, if_true, tmod_nat]
        rw [if_neg (by omega), if_pos (by omega), if_pos (by omega), w64 (by omega) (by omega)]
        rfl
    · have ih := ih (d + 1) x (by omega) (by omega) (by omega)
      rw [if_neg hm]
      refine Ev.step (f := fun k => spec_DivisorsOf.j1 k (n : Int) x (d : Int) true) (fun k => ?_) (Ev.step (fun k => ?_) ih)
      · simp only [spec_DivisorsOf.l0]
        rw [if_pos (by omega), decide_eq_true (by omega)]
      · simp only [spec_DivisorsOf.j1, if_true, tmod_nat]
        rw [if_neg (by omega), if_neg (by omega), w64 (by omega) (by omega)]
        rfl
theorem spec_dv {n : Nat} (h1 : 1 ≤ n) (h2 : n ≤ 10000) : Ev (fun k => spec_DivisorsOf.f k (n : Int)) (ints (dv n)) := by
  unfold spec_DivisorsOf.f
  have h := spec_dvL h2 n 1 [] (by omega) (by omega) (by simp)
  rw [List.nil_append] at h
  rw [dv_eq h1 h2]
  exact h
theorem spec_dv_no {a : Int} (h : ¬ (1 ≤ a ∧ a ≤ 10000)) : Ev (fun k => spec_DivisorsOf.f k a) [] := by
  unfold spec_DivisorsOf.f
  refine Ev.step (f := fun k => spec_DivisorsOf.j1 k a [] 1 false) (fun k => ?_) (Ev.step (fun k => ?_) (Ev.now _))
  · simp only [spec_DivisorsOf.l0]
    by_cases h1 : 1 ≤ a
    · rw [if_pos h1, decide_eq_false (by omega)]
    · rw [if_neg h1]
  · simp only [spec_DivisorsOf.j1]
    rw [if_neg (by simp)]

theorem spec_sgL (l : List (Nat × Nat)) (hl : l.length ≤ 1000) (hm : ∀ x ∈ l, 2 ≤ x.1 ∧ x.1 ≤ 10000 ∧ 1 ≤ x.2 ∧ x.2 ≤ 14) : ∀ (r : List (Nat × Nat)) (i : Nat) (s : Int), l.drop i = r → i ≤ l.length → -1 ≤ s → s ≤ 1 →
    Ev (fun k => spec_l2Named.l2 k 6 (fints l) s (i : Int)) (sgL s r) := by
  intro r
  induction r with
  | nil =>
    intro i s hd hi _ _
    have : l.length ≤ i := List.drop_eq_nil_iff.1 hd
    refine Ev.step (fun k => ?_) (Ev.now _)
    simp only [spec_l2Named.l2, fints_length]
    rw [if_neg (by omega)]
    rfl
  | cons x r ih =>
    intro i s hd hi hs1 hs2
    obtain ⟨hlt, hx, hr⟩ := drop_at hd
    have hxm := hm x (List.mem_of_getElem? hx)
    have t2 : Int.tmod (x.2 : Int) 2 = ((x.2 % 2 : Nat) : Int) := tmod_nat _ 2
    simp only [sgL]
    by_cases hc : 1 < x.2
    · rw [if_pos hc]
      refine Ev.step (f := fun k => spec_l2Named.j3 k 6 (fints l) s (i : Int) true) (fun k => ?_) (Ev.step (fun k => ?_) (Ev.now _))
      · simp only [spec_l2Named.l2, fints_at l i x hx, fints_length, rd_p0, rd_p1, len_p]
        rw [if_pos (by omega), if_pos trivial, if_pos (by omega), if_pos (by omega), decide_eq_true (by omega)]
      · simp only [spec_l2Named.j3, if_true]
    · rw [if_neg hc]
      refine Ev.step (f := fun k => spec_l2Named.j3 k 6 (fints l) s (i : Int) false) (fun k => ?_) (Ev.step (fun k => ?_) (ih (i + 1) (-s) hr hlt (by omega) (by omega)))
      · simp only [spec_l2Named.l2, fints_at l i x hx, fints_length, rd_p0, rd_p1, len_p]
        rw [if_pos (by omega), if_pos trivial, if_pos (by omega), if_pos (by omega), decide_eq_false (by omega)]
      · simp only [spec_l2Named.j3, fints_at l i x hx, fints_length, rd_p0, rd_p1, len_p, t2]
        rw [if_neg (by simp), if_pos (by omega), if_pos (by omega), if_pos (by omega), if_pos (by omega), w64 (by omega) (by omega), w64 (by omega) (by omega)]
        rfl
theorem spec_named6 {n : Nat} (h1 : 1 ≤ n) (h2 : n ≤ 10000) : Ev (fun k => spec_l2Named.f k 6 (n : Int)) (sg n) := by
  unfold spec_l2Named.f
  refine Ev.bind (spec_fac h1 h2) (Ev.bind (spec_dv h1 h2) ?_)
  refine Ev.ite_neg (by decide) (Ev.ite_neg (by decide) (Ev.ite_neg (by decide) (Ev.ite_neg (by decide) (Ev.ite_neg (by decide) (Ev.ite_neg (by decide) ?_)))))
  exact spec_sgL (fac n) (fac_length n) (fac_mem h1 h2) (fac n) 0 1 rfl (Nat.zero_le _) (by omega) (by omega)
theorem spec_sg {n : Nat} (h1 : 1 ≤ n) (h2 : n ≤ 10000) : Ev (fun k => spec_SignOf.f k (n : Int)) (sg n) := by
  unfold spec_SignOf.f
  simp only [l1In_eq, Option.bind_some, show (1 : Int) ≤ n ∧ (n : Int) ≤ 10000 from ⟨by omega, by omega⟩, and_self, decide_true, if_true]
  exact Ev.bind (spec_named6 h1 h2) (Ev.now _)
theorem spec_sg_no {a : Int} (h : ¬ (1 ≤ a ∧ a ≤ 10000)) : Ev (fun k => spec_SignOf.f k a) 0 := by
  unfold spec_SignOf.f
  simp only [l1In_eq, Option.bind_some, h, decide_false]
  exact Ev.now _

theorem spec_prL {n : Nat} (h2 : n ≤ 1000) : ∀ (f d : Nat) (s : Int), d + f = n + 1 → 1 ≤ d → -(1000000 * (d : Int)) ≤ s → s ≤ 1000000 * (d : Int) →
    Ev (fun k => spec_PairsApart.l0 k (n : Int) s (d : Int)) (s + upF (prG n) f d) := by
  intro f
  induction f with
  | zero =>
    intro d s hd h3 h4 h5
    refine Ev.step (fun k => ?_) (Ev.now _)
    simp only [spec_PairsApart.l0]
    rw [if_neg (by omega)]
    simp [upF]
  | succ f ih =>
    intro d s hd h3 h4 h5
    have hp := prG_rng (d := d) h2
    have hq : n / d ≤ 1000 := Nat.le_trans (Nat.div_le_self _ _) h2
    have ih := ih (d + 1) (s + prG n d) (by omega) (by omega) (by omega) (by omega)
    have e0 : wrap64 ((n / d : Nat) : Int) = ((n / d : Nat) : Int) := by
      generalize n / d = q at *
      exact w64 (by omega) (by omega)
    simp only [upF]
    rw [← Int.add_assoc]
    refine Ev.step (f := fun k => (spec_SignOf.f k (d : Int)).bind fun t => (if (d : Int) = 0 then none else spec_PairsApart.l0 k (n : Int) (wrap64 (s + (wrap64 ((wrap64 (t * (wrap64 (Int.tdiv (n : Int) (d : Int))))) * (wrap64 (Int.tdiv (n : Int) (d : Int))))))) (wrap64 ((d : Int) + 1)))) (fun k => ?_) (Ev.bind (spec_sg (by omega) (by omega)) (Ev.ite_neg (by omega) ?_))
    · simp only [spec_PairsApart.l0]
      rw [if_pos (by omega)]
    · rw [tdiv_nat, e0, prG_wraps h2, w64 (n := s + prG n d) (by omega) (by omega), w64 (by omega) (by omega)]
      exact ih
theorem spec_pr {n : Nat} (h1 : 1 ≤ n) (h2 : n ≤ 1000) : Ev (fun k => spec_PairsApart.f k (n : Int)) (prS n) := by
  unfold spec_PairsApart.f
  simp only [l1In_eq, Option.bind_some, show (1 : Int) ≤ n ∧ (n : Int) ≤ 1000 from ⟨by omega, by omega⟩, and_self, decide_true, if_true]
  have h := spec_prL h2 n 1 0 (by omega) (by omega) (by omega) (by omega)
  rw [Int.zero_add] at h
  exact h
theorem spec_pr_no {a : Int} (h : ¬ (1 ≤ a ∧ a ≤ 1000)) : Ev (fun k => spec_PairsApart.f k a) (-1) := by
  unfold spec_PairsApart.f
  simp only [l1In_eq, Option.bind_some, h, decide_false]
  exact Ev.now _

theorem FnExactPairsApart : laws_FnExactPairsApart.Pure := by
  intro a h
  refine Ev.rounds ?_
  by_cases hr : 1 ≤ a ∧ a ≤ 1000
  · obtain ⟨n, rfl⟩ : ∃ n : Nat, a = n := ⟨a.toNat, by omega⟩
    refine Ev.bind (spec_pr (by omega) (by omega)) (Ev.bind (impl_pr (by omega) (by omega)) ?_)
    simp only [if_true]
    exact Ev.now _
  · refine Ev.bind (spec_pr_no hr) (Ev.bind (impl_pr_no hr) ?_)
    simp only [if_true]
    exact Ev.now _

end Go.Proofs.Ytijgepnmcoicgaa.Pure
