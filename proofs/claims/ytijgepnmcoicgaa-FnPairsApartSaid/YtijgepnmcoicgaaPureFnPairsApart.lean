/-
  The pairs that are apart up to all quotients of a number are together all pairs; and the program and the reference agree.
-/
import Derived.Test.YtijgepnmcoicgaaPFnPairsApartx6
import Derived.Test.YtijgepnmcoicgaaLib
import Derived.Test.YtijgepnmcoicgaaLibFac
import Derived.Test.YtijgepnmcoicgaaLibMul
import Derived.Test.YtijgepnmcoicgaaLibUps
import Derived.Test.YtijgepnmcoicgaaLibDiv
import Derived.Test.YtijgepnmcoicgaaLibDraw
import Derived.Test.YtijgepnmcoicgaaLibGcd
import Derived.Test.YtijgepnmcoicgaaLibPair
namespace Go.Proofs.Ytijgepnmcoicgaa.Pure
open Go.RowKit Go.Proofs.Ytijgepnmcoicgaa.PFnPairsApart Go.Proofs.YtijgepnmcoicgaaW.PrintWords Go.Proofs.YtijgepnmcoicgaaW.PrintLast Go.Proofs.YtijgepnmcoicgaaW.PrintMore Go.Proofs.Ytijgepnmcoicgaa.Lib
set_option linter.unusedVariables false
set_option linter.unusedSimpArgs false

theorem sq_cast (a : Nat) : (a : Int) * (a : Int) = ((a * a : Nat) : Int) := by simp
theorem sq_le {a m : Nat} (h : a ≤ m) : a * a ≤ m * m := Nat.mul_le_mul h h
theorem sq_le' {a m : Nat} (h : a ≤ m) : a * a ≤ m * m := Nat.mul_le_mul h h

theorem impl_strip (x : List (List Int)) (hx : x.length ≤ 1000) (p : Nat) (hp : 2 ≤ p) (hp2 : p ≤ 10000) (R : List (List Int)) : ∀ (f n c : Nat), 1 ≤ n → n ≤ 10000 → n < 2 ^ f → c + f ≤ 1000 →
    Ev (fun k => impl_factors.l0 k ((strip f n p c).1 : Int) (if 0 < (strip f n p c).2 then x ++ [[(p : Int), ((strip f n p c).2 : Int)]] else x) ((p : Int) + 1)) R →
    Ev (fun k => impl_factors.l1 k (n : Int) x (p : Int) (c : Int)) R := by
  intro f
  induction f with
  | zero => intro n c h1 _ h2; simp at h2; omega
  | succ f ih =>
    intro n c h1 h3 h2 hc hR
    by_cases h : n % p = 0
    · have e := Nat.mul_div_cancel' (Nat.dvd_of_mod_eq_zero h)
      have hq1 : 1 ≤ n / p := by
        refine Nat.pos_of_ne_zero (fun hz => ?_)
        rw [hz] at e; omega
      have hq2 : n / p < 2 ^ f := by
        have : 2 * (n / p) ≤ p * (n / p) := Nat.mul_le_mul_right _ hp
        rw [Nat.pow_succ] at h2
        omega
      have hq3 : n / p ≤ 10000 := Nat.le_trans (Nat.div_le_self _ _) h3
      simp only [strip, if_pos h] at hR
      refine Ev.step (fun k => ?_) (ih (n / p) (c + 1) hq1 hq3 hq2 (by omega) hR)
      simp only [impl_factors.l1, tmod_nat, tdiv_nat]
      generalize n / p = q at *
      rw [if_neg (by omega), if_pos (by omega), w64 (n := (q : Int)) (by omega) (by omega), w64 (n := (c : Int) + 1) (by omega) (by omega)]
      rfl
    · simp only [strip, if_neg h] at hR
      refine Ev.step (fun k => ?_) hR
      simp only [impl_factors.l1, tmod_nat]
      rw [if_neg (by omega), if_neg (by omega)]
      by_cases hc0 : 0 < c
      · rw [if_pos (by omega), if_pos (by omega), if_pos hc0, w64 (by omega) (by omega)]
      · rw [if_neg (by omega), if_neg hc0, w64 (by omega) (by omega)]
theorem impl_facL : ∀ (f n p : Nat) (x : List (List Int)), 1 ≤ n → n ≤ 10000 → 2 ≤ p → p ≤ 10001 → (n ≤ 1 ∨ (103 ≤ p + f ∧ 1 ≤ f)) → x.length + f ≤ 500 →
    Ev (fun k => impl_factors.l0 k (n : Int) x (p : Int)) (x ++ fints (facI f n p)) := by
  intro f
  induction f with
  | zero =>
    intro n p x h1 h2 h3 h4 h5 h6
    have hn : n = 1 := by omega
    subst hn
    refine Ev.step (fun k => ?_) (Ev.now _)
    simp only [impl_factors.l0]
    rw [if_neg (by omega)]
    simp [facI, fints]
  | succ f ih =>
    intro n p x h1 h2 h3 h4 h5 h6
    by_cases hn : 1 < n
    · have hpp : p * p ≤ 10001 * 10001 := sq_le h4
      by_cases hc : p * p > n
      · -- the number itself
        have hs := strip_self (show 2 ≤ n by omega)
        have ih := ih 1 (n + 1) (x ++ [[(n : Int), 1]]) (by omega) (by omega) (by omega) (by omega) (by omega) (by simp; omega)
        have h := impl_strip x (by omega) n (by omega) h2 (x ++ [[(n : Int), 1]] ++ fints (facI f 1 (n + 1))) 14 n 0 h1 h2 (by omega) (by omega) (by rw [hs]; exact ih)
        have e : x ++ fints (facI (f + 1) n p) = x ++ [[(n : Int), 1]] ++ fints (facI f 1 (n + 1)) := by
          rw [facI_prime f p hn hc, facI_one f _ (Nat.le_refl _)]; simp [fints]
        rw [e]
        refine Ev.step (f := fun k => impl_factors.j1 k (n : Int) x (n : Int)) (fun k => ?_) (Ev.step (fun k => ?_) h)
        · simp only [impl_factors.l0, sq_cast]
          rw [if_pos (by omega), w64 (n := ((p * p : Nat) : Int)) (by omega) (by omega), if_pos (by omega)]
        · simp only [impl_factors.j1]
          rfl
      · have hp100 : p ≤ 100 := by
          refine Nat.le_of_not_lt (fun hp => ?_)
          have : 101 * 101 ≤ p * p := sq_le hp
          omega
        obtain ⟨s1, s2, s3, s4, s5, s6, s7⟩ := strip_spec p h3 14 n 0 h1 (by omega)
        have e : x ++ fints (facI (f + 1) n p) = (if 0 < (strip 14 n p 0).2 then x ++ [[(p : Int), ((strip 14 n p 0).2 : Int)]] else x) ++ fints (facI f (strip 14 n p 0).1 (p + 1)) := by
          rw [facI_succ, if_pos hn]
          simp only [if_neg hc]
          split <;> simp [fints]
        rw [e]
        have hlen : (if 0 < (strip 14 n p 0).2 then x ++ [[(p : Int), ((strip 14 n p 0).2 : Int)]] else x).length + f ≤ 500 := by
          by_cases hcc : 0 < (strip 14 n p 0).2
          · rw [if_pos hcc]; simp; omega
          · rw [if_neg hcc]; omega
        have ih := ih (strip 14 n p 0).1 (p + 1) (if 0 < (strip 14 n p 0).2 then x ++ [[(p : Int), ((strip 14 n p 0).2 : Int)]] else x) s1 (by omega) (by omega) (by omega) (.inr ⟨by omega, by omega⟩) hlen
        have h := impl_strip x (by omega) p h3 (by omega) _ 14 n 0 h1 h2 (by omega) (by omega) ih
        refine Ev.step (f := fun k => impl_factors.j1 k (n : Int) x (p : Int)) (fun k => ?_) (Ev.step (fun k => ?_) h)
        · simp only [impl_factors.l0, sq_cast]
          rw [if_pos (by omega), w64 (n := ((p * p : Nat) : Int)) (by omega) (by omega), if_neg (by omega)]
        · simp only [impl_factors.j1]
          rfl
    · rw [facI_one _ _ (by omega)]
      refine Ev.step (fun k => ?_) (Ev.now _)
      simp only [impl_factors.l0]
      rw [if_neg (by omega)]
      simp [fints]
theorem impl_fac {n : Nat} (h1 : 1 ≤ n) (h2 : n ≤ 10000) : Ev (fun k => impl_factors.f k (n : Int)) (fints (fac n)) := by
  unfold impl_factors.f
  have h := impl_facL 101 n 2 [] h1 h2 (by omega) (by omega) (.inr ⟨by omega, by omega⟩) (by simp)
  rw [List.nil_append] at h
  exact h

theorem fints_at (l : List (Nat × Nat)) (i : Nat) (x : Nat × Nat) (h : l[i]? = some x) : rd_L1 (fints l) (i : Int) = [(x.1 : Int), (x.2 : Int)] := by
  unfold rd_L1 fints
  rw [Int.toNat_natCast, List.getD_eq_getElem?_getD, List.getElem?_map, h]
  rfl

theorem impl_sgL (l : List (Nat × Nat)) (hl : l.length ≤ 1000) : ∀ (r : List (Nat × Nat)) (i : Nat) (s : Int), l.drop i = r → i ≤ l.length → -1 ≤ s → s ≤ 1 →
    Ev (fun k => impl_sign.l0 k s (fints l) (l.length : Int) (i : Int)) (sgL s r) := by
  intro r
  induction r with
  | nil =>
    intro i s hd hi _ _
    have : l.length ≤ i := List.drop_eq_nil_iff.1 hd
    refine Ev.step (fun k => ?_) (Ev.now _)
    simp only [impl_sign.l0]
    rw [if_neg (by omega)]
    rfl
  | cons x r ih =>
    intro i s hd hi hs1 hs2
    obtain ⟨hlt, hx, hr⟩ := drop_at hd
    simp only [sgL]
    by_cases hc : 1 < x.2
    · rw [if_pos hc]
      refine Ev.step (fun k => ?_) (Ev.now _)
      simp only [impl_sign.l0, fints_at l i x hx, fints_length, rd_p0, rd_p1, len_p]
      rw [if_pos (by omega), if_pos (by omega), if_pos (by omega), if_pos (by omega), if_pos (by omega)]
    · rw [if_neg hc]
      refine Ev.step (fun k => ?_) (ih (i + 1) (-s) hr hlt (by omega) (by omega))
      simp only [impl_sign.l0, fints_at l i x hx, fints_length, rd_p0, rd_p1, len_p]
      rw [if_pos (by omega), if_pos (by omega), if_pos (by omega), if_pos (by omega), if_neg (by omega), w64 (by omega) (by omega), w64 (by omega) (by omega)]
      rfl
theorem impl_sg {n : Nat} (h1 : 1 ≤ n) (h2 : n ≤ 10000) : Ev (fun k => impl_sign.f k (n : Int)) (sg n) := by
  unfold impl_sign.f
  refine Ev.bind (impl_fac h1 h2) ?_
  rw [fints_length]
  exact impl_sgL (fac n) (fac_length n) (fac n) 0 1 rfl (Nat.zero_le _) (by omega) (by omega)

theorem upToOk_eq (a : Int) : impl_upToOk.f a = some (decide (1 ≤ a ∧ a ≤ 1000)) := by
  unfold impl_upToOk.f
  by_cases h : a ≥ 1
  · rw [if_pos h]; simp [h]
  · rw [if_neg h]; congr 1; symm; simp; intro h2; omega

theorem prG_wraps {n d : Nat} (hn : n ≤ 1000) : wrap64 ((wrap64 (sg d * ((n / d : Nat) : Int))) * ((n / d : Nat) : Int)) = prG n d := by
  have hs := sg_rng d
  have hq : n / d ≤ 1000 := Nat.le_trans (Nat.div_le_self _ _) hn
  have hr := prG_rng (d := d) hn
  have e1 : wrap64 (sg d * ((n / d : Nat) : Int)) = sg d * ((n / d : Nat) : Int) := by
    generalize n / d = q at *
    have x1 : sg d = -1 ∨ sg d = 0 ∨ sg d = 1 := by omega
    rcases x1 with x | x | x <;> rw [x] <;> exact w64 (by omega) (by omega)
  rw [e1]
  exact w64 (n := prG n d) (by omega) (by omega)
theorem impl_prL {n : Nat} (h2 : n ≤ 1000) : ∀ (f d : Nat) (s : Int), d + f = n + 1 → 1 ≤ d → -(1000000 * (d : Int)) ≤ s → s ≤ 1000000 * (d : Int) →
    Ev (fun k => impl_PairsApart_s.l0 k (n : Int) (n : Int) s (d : Int)) (s + upF (prG n) f d) := by
  intro f
  induction f with
  | zero =>
    intro d s hd h3 h4 h5
    refine Ev.step (fun k => ?_) (Ev.now _)
    simp only [impl_PairsApart_s.l0]
    rw [if_neg (by omega)]
    simp [upF]
  | succ f ih =>
    intro d s hd h3 h4 h5
    have hp := prG_rng (d := d) h2
    have hq : n / d ≤ 1000 := Nat.le_trans (Nat.div_le_self _ _) h2
    have ih := ih (d + 1) (s + prG n d) (by omega) (by omega) (by omega) (by omega)
    have ha : Ev (fun k => impl_PairsApart_1.f k (n : Int) (d : Int)) (prG n d) := by
      unfold impl_PairsApart_1.f
      refine Ev.bind (impl_sg (by omega) (by omega)) (Ev.ite_neg (by omega) (Ev.const ?_))
      have e0 : wrap64 ((n / d : Nat) : Int) = ((n / d : Nat) : Int) := by
        generalize n / d = q at *
        exact w64 (by omega) (by omega)
      rw [tdiv_nat, e0, prG_wraps h2]
    simp only [upF]
    rw [← Int.add_assoc]
    refine Ev.step (f := fun k => (impl_PairsApart_1.f k (n : Int) (d : Int)).bind fun t => (impl_PairsApart_s.l0 k (n : Int) (n : Int) (wrap64 (s + t)) (wrap64 ((d : Int) + 1)))) (fun k => ?_) (Ev.bind ha ?_)
    · simp only [impl_PairsApart_s.l0]
      rw [if_pos (by omega)]
    · rw [w64 (n := s + prG n d) (by omega) (by omega), w64 (by omega) (by omega)]
      exact ih
theorem impl_pr {n : Nat} (h1 : 1 ≤ n) (h2 : n ≤ 1000) : Ev (fun k => impl_PairsApart.f k (n : Int)) (prS n) := by
  unfold impl_PairsApart.f
  simp only [upToOk_eq, Option.bind_some, show (1 : Int) ≤ n ∧ (n : Int) ≤ 1000 from ⟨by omega, by omega⟩, and_self, decide_true, if_true]
  have h := impl_prL h2 n 1 0 (by omega) (by omega) (by omega) (by omega)
  rw [Int.zero_add] at h
  exact h
theorem impl_pr_no {a : Int} (h : ¬ (1 ≤ a ∧ a ≤ 1000)) : Ev (fun k => impl_PairsApart.f k a) (-1) := by
  unfold impl_PairsApart.f
  simp only [upToOk_eq, Option.bind_some, h, decide_false]
  exact Ev.now _

theorem l1In_eq (a b c : Int) : spec_l1In.f a b c = some (decide (b ≤ a ∧ a ≤ c)) := by
  unfold spec_l1In.f
  by_cases h : a ≥ b
  · rw [if_pos h]; simp [h]
  · rw [if_neg h]; congr 1; symm; simp; intro h2; omega

theorem spec_strip (z : Int) (x : List (List Int)) (hx : x.length ≤ 1000) (p : Nat) (hp : 2 ≤ p) (hp2 : p ≤ 10000) (R : List (List Int)) : ∀ (f n c : Nat), 1 ≤ n → n ≤ 10000 → n < 2 ^ f → c + f ≤ 1000 →
    Ev (fun k => spec_FactorsOf.l0 k z (if 0 < (strip f n p c).2 then x ++ [[(p : Int), ((strip f n p c).2 : Int)]] else x) ((strip f n p c).1 : Int) ((p : Int) + 1)) R →
    Ev (fun k => spec_FactorsOf.l1 k z x (n : Int) (p : Int) (c : Int)) R := by
  intro f
  induction f with
  | zero => intro n c h1 _ h2; simp at h2; omega
  | succ f ih =>
    intro n c h1 h3 h2 hc hR
    by_cases h : n % p = 0
    · have e := Nat.mul_div_cancel' (Nat.dvd_of_mod_eq_zero h)
      have hq1 : 1 ≤ n / p := by
        refine Nat.pos_of_ne_zero (fun hz => ?_)
        rw [hz] at e; omega
      have hq2 : n / p < 2 ^ f := by
        have : 2 * (n / p) ≤ p * (n / p) := Nat.mul_le_mul_right _ hp
        rw [Nat.pow_succ] at h2
        omega
      have hq3 : n / p ≤ 10000 := Nat.le_trans (Nat.div_le_self _ _) h3
      simp only [strip, if_pos h] at hR
      refine Ev.step (fun k => ?_) (ih (n / p) (c + 1) hq1 hq3 hq2 (by omega) hR)
      simp only [spec_FactorsOf.l1, tmod_nat, tdiv_nat]
      generalize n / p = q at *
      rw [if_neg (by omega), if_pos (by omega), w64 (n := (q : Int)) (by omega) (by omega), w64 (n := (c : Int) + 1) (by omega) (by omega)]
      rfl
    · simp only [strip, if_neg h] at hR
      refine Ev.step (fun k => ?_) hR
      simp only [spec_FactorsOf.l1, tmod_nat]
      rw [if_neg (by omega), if_neg (by omega)]
      by_cases hc0 : 0 < c
      · rw [if_pos (by omega), if_pos (by omega), if_pos hc0, w64 (by omega) (by omega)]
      · rw [if_neg (by omega), if_neg hc0, w64 (by omega) (by omega)]
theorem spec_fac_step {z : Int} (hz : 1 ≤ z ∧ z ≤ 10000) (x R : List (List Int)) (n p : Nat) (h : p ≤ n) (k : Ev (fun k => spec_FactorsOf.l1 k z x (n : Int) (p : Int) 0) R) :
    Ev (fun k => spec_FactorsOf.l0 k z x (n : Int) (p : Int)) R := by
  refine Ev.step (f := fun k => spec_FactorsOf.j1 k z x (n : Int) (p : Int) true) (fun k => ?_) (Ev.step (fun k => ?_) k)
  · simp only [spec_FactorsOf.l0]
    rw [if_pos (by omega), l1In_eq, decide_eq_true hz]
    rfl
  · simp only [spec_FactorsOf.j1, if_true]
theorem spec_fac_end (z : Int) (x : List (List Int)) (n p : Nat) (h : n < p) : Ev (fun k => spec_FactorsOf.l0 k z x (n : Int) (p : Int)) x := by
  refine Ev.step (f := fun k => spec_FactorsOf.j1 k z x (n : Int) (p : Int) false) (fun k => ?_) (Ev.step (fun k => ?_) (Ev.now _))
  · simp only [spec_FactorsOf.l0]
    rw [if_neg (by omega)]
  · simp only [spec_FactorsOf.j1]
    rw [if_neg (by simp)]
/-- What is left is a prime: no smaller number from p on divides it. -/
theorem spec_fac_tail {z : Int} (hz : 1 ≤ z ∧ z ≤ 10000) (x : List (List Int)) (hx : x.length ≤ 900) (n : Nat) (h1 : 1 < n) (h2 : n ≤ 10000) : ∀ (m p : Nat), p + m = n → 2 ≤ p → n < p * p → (∀ q, 2 ≤ q → q < p → n % q ≠ 0) →
    Ev (fun k => spec_FactorsOf.l0 k z x (n : Int) (p : Int)) (x ++ [[(n : Int), 1]]) := by
  intro m
  induction m with
  | zero =>
    intro p hp hp2 hpp hq
    have e : p = n := by omega
    subst e
    have hs := strip_self (show 2 ≤ p by omega)
    refine spec_fac_step hz x _ p p (Nat.le_refl _) (spec_strip z x (by omega) p (by omega) h2 _ 14 p 0 (by omega) h2 (by omega) (by omega) ?_)
    rw [hs]
    exact spec_fac_end z _ 1 (p + 1) (by omega)
  | succ m ih =>
    intro p hp hp2 hpp hq
    have hnd : n % p ≠ 0 := by
      intro h0
      have e := Nat.mul_div_cancel' (Nat.dvd_of_mod_eq_zero h0)
      generalize n / p = q at *
      have hq2 : 2 ≤ q := by
        refine Nat.le_of_not_lt (fun h => ?_)
        have : q = 0 ∨ q = 1 := by omega
        rcases this with rfl | rfl <;> omega
      have hqp : q < p := by
        refine Nat.lt_of_not_le (fun h => ?_)
        have : p * p ≤ p * q := Nat.mul_le_mul_left p h
        omega
      exact hq q hq2 hqp (by rw [← e]; exact Nat.mul_mod_left _ _)
    refine spec_fac_step hz x _ n p (by omega) (spec_strip z x (by omega) p (by omega) (by omega) _ 14 n 0 (by omega) h2 (by omega) (by omega) ?_)
    rw [strip_none hnd]
    refine ih (p + 1) (by omega) (by omega) ?_ (fun q hq1 hq2 => ?_)
    · have : p * p ≤ (p + 1) * (p + 1) := Nat.mul_le_mul (by omega) (by omega)
      omega
    · by_cases e : q = p
      · subst e; exact hnd
      · exact hq q hq1 (by omega)
theorem spec_facL {z : Int} (hz : 1 ≤ z ∧ z ≤ 10000) : ∀ (m f n p : Nat) (x : List (List Int)), n + 1 - p ≤ m → 1 ≤ n → n ≤ 10000 → 2 ≤ p → (∀ q, 2 ≤ q → q < p → n % q ≠ 0) → (n ≤ 1 ∨ (103 ≤ p + f ∧ 1 ≤ f)) → x.length + f ≤ 500 →
    Ev (fun k => spec_FactorsOf.l0 k z x (n : Int) (p : Int)) (x ++ fints (facI f n p)) := by
  intro m
  induction m with
  | zero =>
    intro f n p x hm h1 h2 h3 hq h5 h6
    have hn : ¬ 1 < n := fun hn => hq n (by omega) (by omega) (Nat.mod_self n)
    rw [facI_one _ _ (by omega)]
    rw [show x ++ fints [] = x by simp [fints]]
    exact spec_fac_end z x n p (by omega)
  | succ m ih =>
    intro f n p x hm h1 h2 h3 hq h5 h6
    by_cases hn : 1 < n
    · by_cases hc : n < p * p
      · obtain ⟨f, rfl⟩ : ∃ g, f = g + 1 := ⟨f - 1, by omega⟩
        rw [facI_prime f p hn hc]
        have hpn : p ≤ n := Nat.le_of_not_lt (fun h => hq n (by omega) h (Nat.mod_self n))
        exact spec_fac_tail hz x (by omega) n hn h2 (n - p) p (by omega) h3 hc hq
      · have hp100 : p ≤ 100 := by
          refine Nat.le_of_not_lt (fun hp => ?_)
          have : 101 * 101 ≤ p * p := sq_le hp
          omega
        have hpn : p * 2 ≤ p * p := Nat.mul_le_mul_left p h3
        obtain ⟨f, rfl⟩ : ∃ g, f = g + 1 := ⟨f - 1, by omega⟩
        obtain ⟨s1, s2, s3, s4, s5, s6, s7⟩ := strip_spec p h3 14 n 0 h1 (by omega)
        have e : x ++ fints (facI (f + 1) n p) = (if 0 < (strip 14 n p 0).2 then x ++ [[(p : Int), ((strip 14 n p 0).2 : Int)]] else x) ++ fints (facI f (strip 14 n p 0).1 (p + 1)) := by
          have hc' : ¬ (p * p > n) := hc
          rw [facI_succ, if_pos hn]
          simp only [if_neg hc']
          split <;> simp [fints]
        rw [e]
        have hlen : (if 0 < (strip 14 n p 0).2 then x ++ [[(p : Int), ((strip 14 n p 0).2 : Int)]] else x).length + f ≤ 500 := by
          by_cases hcc : 0 < (strip 14 n p 0).2
          · rw [if_pos hcc]; simp; omega
          · rw [if_neg hcc]; omega
        refine spec_fac_step hz x _ n p (by omega) (spec_strip z x (by omega) p h3 (by omega) _ 14 n 0 h1 h2 (by omega) (by omega) ?_)
        refine ih f (strip 14 n p 0).1 (p + 1) _ (by omega) s1 (by omega) (by omega) (fun q hq1 hq2 h0 => ?_) (.inr ⟨by omega, by omega⟩) hlen
        by_cases e : q = p
        · subst e; exact s4 h0
        · refine hq q hq1 (by omega) (Nat.mod_eq_zero_of_dvd (Nat.dvd_trans (Nat.dvd_of_mod_eq_zero h0) s3))
    · rw [facI_one _ _ (by omega), show x ++ fints [] = x by simp [fints]]
      exact spec_fac_end z x n p (by omega)
theorem spec_fac {n : Nat} (h1 : 1 ≤ n) (h2 : n ≤ 10000) : Ev (fun k => spec_FactorsOf.f k (n : Int)) (fints (fac n)) := by
  unfold spec_FactorsOf.f
  have h := spec_facL (z := (n : Int)) ⟨by omega, by omega⟩ n 101 n 2 [] (by omega) h1 h2 (by omega) (fun q h1 h2 => by omega) (.inr ⟨by omega, by omega⟩) (by simp)
  rw [List.nil_append] at h
  exact h
theorem spec_fac_no {a : Int} (h : ¬ (1 ≤ a ∧ a ≤ 10000)) : Ev (fun k => spec_FactorsOf.f k a) [] := by
  unfold spec_FactorsOf.f
  refine Ev.step (f := fun k => spec_FactorsOf.j1 k a [] a 2 false) (fun k => ?_) (Ev.step (fun k => ?_) (Ev.now _))
  · simp only [spec_FactorsOf.l0]
    by_cases h1 : 2 ≤ a
    · rw [if_pos h1, l1In_eq, decide_eq_false h]
      rfl
    · rw [if_neg h1]
  · simp only [spec_FactorsOf.j1]
    rw [if_neg (by simp)]

theorem spec_dvL {n : Nat} (h2 : n ≤ 10000) : ∀ (f d : Nat) (x : List Int), d + f = n + 1 → 1 ≤ d → x.length < d →
    Ev (fun k => spec_DivisorsOf.l0 k (n : Int) x (d : Int)) (x ++ ints (dvF n d f)) := by
  intro f
  induction f with
  | zero =>
    intro d x hd hd1 hx
    simp only [dvF, List.range'_zero, List.filter_nil, ints, List.map_nil, List.append_nil]
    refine Ev.step (f := fun k => spec_DivisorsOf.j1 k (n : Int) x (d : Int) false) (fun k => ?_) (Ev.step (fun k => ?_) (Ev.now _))
    · simp only [spec_DivisorsOf.l0]
      rw [if_neg (by omega)]
    · simp only [spec_DivisorsOf.j1]
      rw [if_neg (by simp)]
  | succ f ih =>
    intro d x hd hd1 hx
    rw [dvF_succ]
    by_cases hm : n % d = 0
    · have ih := ih (d + 1) (x ++ [(d : Int)]) (by omega) (by omega) (by simp; omega)
      rw [if_pos hm, show x ++ ints (d :: dvF n (d + 1) f) = x ++ [(d : Int)] ++ ints (dvF n (d + 1) f) by simp [ints]]
      refine Ev.step (f := fun k => spec_DivisorsOf.j1 k (n : Int) x (d : Int) true) (fun k => ?_) (Ev.step (fun k => ?_) ih)
      · simp only [spec_DivisorsOf.l0]
        rw [if_pos (by omega), decide_eq_true (by omega)]
      · simp only [spec_DivisorsOf.j1, if_true, tmod_nat]
        rw [if_neg (by omega), if_pos (by omega), if_pos (by omega), w64 (by omega) (by omega)]
        rfl
    · have ih := ih (d + 1) x (by omega) (by omega) (by omega)
      rw [if_neg hm]
      refine Ev.step (f := fun k => spec_DivisorsOf.j1 k (n : Int) x (d : Int) true) (fun k => ?_) (Ev.step (fun k => ?_) ih)
      · simp only [spec_DivisorsOf.l0]
        rw [if_pos (by omega), decide_eq_true (by omega)]
      · simp only [spec_DivisorsOf.j1, if_true, tmod_nat]
        rw [if_neg (by omega), if_neg (by omega), w64 (by omega) (by omega)]
        rfl
theorem spec_dv {n : Nat} (h1 : 1 ≤ n) (h2 : n ≤ 10000) : Ev (fun k => spec_DivisorsOf.f k (n : Int)) (ints (dv n)) := by
  unfold spec_DivisorsOf.f
  have h := spec_dvL h2 n 1 [] (by omega) (by omega) (by simp)
  rw [List.nil_append] at h
  rw [dv_eq h1 h2]
  exact h
theorem spec_dv_no {a : Int} (h : ¬ (1 ≤ a ∧ a ≤ 10000)) : Ev (fun k => spec_DivisorsOf.f k a) [] := by
  unfold spec_DivisorsOf.f
  refine Ev.step (f := fun k => spec_DivisorsOf.j1 k a [] 1 false) (fun k => ?_) (Ev.step (fun k => ?_) (Ev.now _))
  · simp only [spec_DivisorsOf.l0]
    by_cases h1 : 1 ≤ a
    · rw [if_pos h1, decide_eq_false (by omega)]
    · rw [if_neg h1]
  · simp only [spec_DivisorsOf.j1]
    rw [if_neg (by simp)]

theorem spec_sgL (l : List (Nat × Nat)) (hl : l.length ≤ 1000) (hm : ∀ x ∈ l, 2 ≤ x.1 ∧ x.1 ≤ 10000 ∧ 1 ≤ x.2 ∧ x.2 ≤ 14) : ∀ (r : List (Nat × Nat)) (i : Nat) (s : Int), l.drop i = r → i ≤ l.length → -1 ≤ s → s ≤ 1 →
    Ev (fun k => spec_l2Named.l2 k 6 (fints l) s (i : Int)) (sgL s r) := by
  intro r
  induction r with
  | nil =>
    intro i s hd hi _ _
    have : l.length ≤ i := List.drop_eq_nil_iff.1 hd
    refine Ev.step (fun k => ?_) (Ev.now _)
    simp only [spec_l2Named.l2, fints_length]
    rw [if_neg (by omega)]
    rfl
  | cons x r ih =>
    intro i s hd hi hs1 hs2
    obtain ⟨hlt, hx, hr⟩ := drop_at hd
    have hxm := hm x (List.mem_of_getElem? hx)
    have t2 : Int.tmod (x.2 : Int) 2 = ((x.2 % 2 : Nat) : Int) := tmod_nat _ 2
    simp only [sgL]
    by_cases hc : 1 < x.2
    · rw [if_pos hc]
      refine Ev.step (f := fun k => spec_l2Named.j3 k 6 (fints l) s (i : Int) true) (fun k => ?_) (Ev.step (fun k => ?_) (Ev.now _))
      · simp only [spec_l2Named.l2, fints_at l i x hx, fints_length, rd_p0, rd_p1, len_p]
        rw [if_pos (by omega), if_pos trivial, if_pos (by omega), if_pos (by omega), decide_eq_true (by omega)]
      · simp only [spec_l2Named.j3, if_true]
    · rw [if_neg hc]
      refine Ev.step (f := fun k => spec_l2Named.j3 k 6 (fints l) s (i : Int) false) (fun k => ?_) (Ev.step (fun k => ?_) (ih (i + 1) (-s) hr hlt (by omega) (by omega)))
      · simp only [spec_l2Named.l2, fints_at l i x hx, fints_length, rd_p0, rd_p1, len_p]
        rw [if_pos (by omega), if_pos trivial, if_pos (by omega), if_pos (by omega), decide_eq_false (by omega)]
      · simp only [spec_l2Named.j3, fints_at l i x hx, fints_length, rd_p0, rd_p1, len_p, t2]
        rw [if_neg (by simp), if_pos (by omega), if_pos (by omega), if_pos (by omega), if_pos (by omega), w64 (by omega) (by omega), w64 (by omega) (by omega)]
        rfl
theorem spec_named6 {n : Nat} (h1 : 1 ≤ n) (h2 : n ≤ 10000) : Ev (fun k => spec_l2Named.f k 6 (n : Int)) (sg n) := by
  unfold spec_l2Named.f
  refine Ev.bind (spec_fac h1 h2) (Ev.bind (spec_dv h1 h2) ?_)
  refine Ev.ite_neg (by decide) (Ev.ite_neg (by decide) (Ev.ite_neg (by decide) (Ev.ite_neg (by decide) (Ev.ite_neg (by decide) (Ev.ite_neg (by decide) ?_)))))
  exact spec_sgL (fac n) (fac_length n) (fac_mem h1 h2) (fac n) 0 1 rfl (Nat.zero_le _) (by omega) (by omega)
theorem spec_sg {n : Nat} (h1 : 1 ≤ n) (h2 : n ≤ 10000) : Ev (fun k => spec_SignOf.f k (n : Int)) (sg n) := by
  unfold spec_SignOf.f
  simp only [l1In_eq, Option.bind_some, show (1 : Int) ≤ n ∧ (n : Int) ≤ 10000 from ⟨by omega, by omega⟩, and_self, decide_true, if_true]
  exact Ev.bind (spec_named6 h1 h2) (Ev.now _)
theorem spec_sg_no {a : Int} (h : ¬ (1 ≤ a ∧ a ≤ 10000)) : Ev (fun k => spec_SignOf.f k a) 0 := by
  unfold spec_SignOf.f
  simp only [l1In_eq, Option.bind_some, h, decide_false]
  exact Ev.now _

theorem spec_prL {n : Nat} (h2 : n ≤ 1000) : ∀ (f d : Nat) (s : Int), d + f = n + 1 → 1 ≤ d → -(1000000 * (d : Int)) ≤ s → s ≤ 1000000 * (d : Int) →
    Ev (fun k => spec_PairsApart.l0 k (n : Int) s (d : Int)) (s + upF (prG n) f d) := by
  intro f
  induction f with
  | zero =>
    intro d s hd h3 h4 h5
    refine Ev.step (fun k => ?_) (Ev.now _)
    simp only [spec_PairsApart.l0]
    rw [if_neg (by omega)]
    simp [upF]
  | succ f ih =>
    intro d s hd h3 h4 h5
    have hp := prG_rng (d := d) h2
    have hq : n / d ≤ 1000 := Nat.le_trans (Nat.div_le_self _ _) h2
    have ih := ih (d + 1) (s + prG n d) (by omega) (by omega) (by omega) (by omega)
    have e0 : wrap64 ((n / d : Nat) : Int) = ((n / d : Nat) : Int) := by
      generalize n / d = q at *
      exact w64 (by omega) (by omega)
    simp only [upF]
    rw [← Int.add_assoc]
    refine Ev.step (f := fun k => (spec_SignOf.f k (d : Int)).bind fun t => (if (d : Int) = 0 then none else spec_PairsApart.l0 k (n : Int) (wrap64 (s + (wrap64 ((wrap64 (t * (wrap64 (Int.tdiv (n : Int) (d : Int))))) * (wrap64 (Int.tdiv (n : Int) (d : Int))))))) (wrap64 ((d : Int) + 1)))) (fun k => ?_) (Ev.bind (spec_sg (by omega) (by omega)) (Ev.ite_neg (by omega) ?_))
    · simp only [spec_PairsApart.l0]
      rw [if_pos (by omega)]
    · rw [tdiv_nat, e0, prG_wraps h2, w64 (n := s + prG n d) (by omega) (by omega), w64 (by omega) (by omega)]
      exact ih
theorem spec_pr {n : Nat} (h1 : 1 ≤ n) (h2 : n ≤ 1000) : Ev (fun k => spec_PairsApart.f k (n : Int)) (prS n) := by
  unfold spec_PairsApart.f
  simp only [l1In_eq, Option.bind_some, show (1 : Int) ≤ n ∧ (n : Int) ≤ 1000 from ⟨by omega, by omega⟩, and_self, decide_true, if_true]
  have h := spec_prL h2 n 1 0 (by omega) (by omega) (by omega) (by omega)
  rw [Int.zero_add] at h
  exact h
theorem spec_pr_no {a : Int} (h : ¬ (1 ≤ a ∧ a ≤ 1000)) : Ev (fun k => spec_PairsApart.f k a) (-1) := by
  unfold spec_PairsApart.f
  simp only [l1In_eq, Option.bind_some, h, decide_false]
  exact Ev.now _

theorem numberOk_eq (a : Int) : impl_numberOk.f a = some (decide (1 ≤ a ∧ a ≤ 10000)) := by
  unfold impl_numberOk.f
  by_cases h : a ≥ 1
  · rw [if_pos h]; simp [h]
  · rw [if_neg h]; congr 1; symm; simp; intro h2; omega

theorem alive_eq : laws_alive.f = some true := by
  unfold laws_alive.f impl_DividesOk.f
  simp only [numberOk_eq]
  decide +kernel

theorem pick_ev {bs : List Int} (hb : Bytes bs) (hl : bs.length ≤ 2000) {p n : Int} (h0 : 0 ≤ p) (h1 : p ≤ 1000000) (hn : 1 ≤ n) :
    ∃ r, 0 ≤ r ∧ r < n ∧ Ev (fun k => spec_l20Rd_pick.f k bs p n) (r, p + 1) := by
  have ep : wrap64 (p + 1) = p + 1 := w64 (by omega) (by omega)
  have e1 : wrap64 (p + 1 - 1) = p := by rw [w64 (by omega) (by omega)]; omega
  have hf : ∀ k, spec_l20Rd_pick.f k bs p n = spec_l20Rd_pick.j0 k n ((bs.length : Int) == 0) bs (p + 1) := by
    intro k
    unfold spec_l20Rd_pick.f
    rw [if_neg (by omega), ep]
  by_cases hz : bs.length = 0
  · refine ⟨0, by omega, by omega, Ev.congr hf (Ev.step (fun k => ?_) (Ev.now _))⟩
    simp only [spec_l20Rd_pick.j0]
    rw [if_pos (by simp [hz])]
  · have hz2 : ((bs.length : Int) == 0) = false := by simpa using hz
    by_cases hp : p < (bs.length : Int)
    · have hr := hb.at_ p
      have ht := tmod_range hr.1 hn
      refine ⟨Int.tmod (rd bs p) n, ht.1, ht.2, Ev.congr hf (Ev.step (fun k => ?_) (Ev.now _))⟩
      simp only [spec_l20Rd_pick.j0, hz2, e1]
      rw [if_neg (by simp), if_pos hp, if_pos h0, if_neg (by omega), w64 (by omega) (by omega)]
    · have hl1 : (1 : Int) ≤ (bs.length : Int) := by omega
      have t1 := tmod_range h0 hl1
      have t2 := tmod_range (show 0 ≤ p * 7 + 3 by omega) hl1
      have t3 := tdiv_range h0 hl1
      have e7 : wrap64 (p * 7) = p * 7 := w64 (by omega) (by omega)
      have e73 : wrap64 (p * 7 + 3) = p * 7 + 3 := w64 (by omega) (by omega)
      have u1 := hb.at_ (Int.tmod p (bs.length : Int))
      have u2 := hb.at_ (Int.tmod (p * 7 + 3) (bs.length : Int))
      have key : ∀ k, spec_l20Rd_pick.j0 (k + 1) n ((bs.length : Int) == 0) bs (p + 1) = some (Int.tmod (Go.bits .xor .i64 (rd bs (Int.tmod p (bs.length : Int)) * 131 + rd bs (Int.tmod (p * 7 + 3) (bs.length : Int)) * 1117 + p * 29 + Int.tdiv p (bs.length : Int) * 53) (Int.tdiv (rd bs (Int.tmod p (bs.length : Int)) * 131 + rd bs (Int.tmod (p * 7 + 3) (bs.length : Int)) * 1117 + p * 29 + Int.tdiv p (bs.length : Int) * 53) 64)) n, p + 1) := by
        intro k
        simp only [spec_l20Rd_pick.j0, hz2, e1, e7, e73]
        rw [if_neg (by simp), if_neg hp, if_neg (by omega), if_pos t1.1, if_pos t1.2, if_pos t2.1, if_pos t2.2, if_neg (by omega)]
        generalize rd bs (Int.tmod p (bs.length : Int)) = u at *
        generalize rd bs (Int.tmod (p * 7 + 3) (bs.length : Int)) = v at *
        generalize Int.tdiv p (bs.length : Int) = q at *
        rw [w64 (n := u) (by omega) (by omega), w64 (n := v) (by omega) (by omega), w64 (n := u * 131) (by omega) (by omega), w64 (n := v * 1117) (by omega) (by omega), w64 (n := u * 131 + v * 1117) (by omega) (by omega), w64 (n := p * 29) (by omega) (by omega), w64 (n := u * 131 + v * 1117 + p * 29) (by omega) (by omega), w64 (n := q) (by omega) (by omega), w64 (n := q * 53) (by omega) (by omega), w64 (n := u * 131 + v * 1117 + p * 29 + q * 53) (by omega) (by omega)]
        have t4 := tdiv_range (show 0 ≤ u * 131 + v * 1117 + p * 29 + q * 53 by omega) (show (1 : Int) ≤ 64 by omega)
        rw [w64 (n := Int.tdiv (u * 131 + v * 1117 + p * 29 + q * 53) 64) (by omega) (by omega)]
      generalize rd bs (Int.tmod p (bs.length : Int)) = u at *
      generalize rd bs (Int.tmod (p * 7 + 3) (bs.length : Int)) = v at *
      generalize Int.tdiv p (bs.length : Int) = q at *
      have t4 := tdiv_range (show 0 ≤ u * 131 + v * 1117 + p * 29 + q * 53 by omega) (show (1 : Int) ≤ 64 by omega)
      have hx := xor_pos (a := u * 131 + v * 1117 + p * 29 + q * 53) (b := Int.tdiv (u * 131 + v * 1117 + p * 29 + q * 53) 64) (by omega) (by omega) (by omega) (by omega)
      have ht := tmod_range hx hn
      exact ⟨_, ht.1, ht.2, Ev.congr hf (Ev.step key (Ev.now _))⟩
theorem open_ev {l0 : List Int} (hb : Bytes l0) : ∃ bs, Bytes bs ∧ bs.length ≤ 2000 ∧ spec_l20Open.f l0 = some (bs, 0) := by
  unfold spec_l20Open.f
  by_cases h : (l0.length : Int) > 2000
  · exact ⟨l0.take 2000, hb.take _, by rw [List.length_take]; omega, by rw [if_pos h, if_pos (by omega)]⟩
  · exact ⟨l0, hb, by omega, by rw [if_neg h]⟩

theorem upTo_ev {bs : List Int} (hb : Bytes bs) (hl : bs.length ≤ 2000) {p : Int} (h0 : 0 ≤ p) (h1 : p ≤ 900000) :
    ∃ r, 0 ≤ r ∧ r ≤ 2000 ∧ Ev (fun k => spec_l20UpTo.f k bs p) (r, p + 7) := by
  obtain ⟨r1, a1, b1, c1⟩ := pick_ev hb hl (p := p) (n := 30) (by omega) (by omega) (by omega)
  obtain ⟨r2, a2, b2, c2⟩ := pick_ev hb hl (p := p + 1) (n := 250) (by omega) (by omega) (by omega)
  obtain ⟨r3, a3, b3, c3⟩ := pick_ev hb hl (p := p + 1 + 1) (n := 40) (by omega) (by omega) (by omega)
  obtain ⟨r4, a4, b4, c4⟩ := pick_ev hb hl (p := p + 1 + 1 + 1) (n := 32) (by omega) (by omega) (by omega)
  obtain ⟨r5, a5, b5, c5⟩ := pick_ev hb hl (p := p + 1 + 1 + 1 + 1) (n := 32) (by omega) (by omega) (by omega)
  obtain ⟨r6, a6, b6, c6⟩ := pick_ev hb hl (p := p + 1 + 1 + 1 + 1 + 1) (n := 7) (by omega) (by omega) (by omega)
  obtain ⟨r7, a7, b7, c7⟩ := pick_ev hb hl (p := p + 1 + 1 + 1 + 1 + 1 + 1) (n := 40) (by omega) (by omega) (by omega)
  have hm : 0 ≤ r4 * r5 ∧ r4 * r5 ≤ 31 * 31 := ⟨Int.mul_nonneg a4 a5, Int.mul_le_mul (by omega) (by omega) a5 (by omega)⟩
  have d6 := tdiv_pos (b := 2) a6
  have d7 := tdiv_pos (b := 39) a7
  have hq : ∃ q : Nat, q < 4 ∧ Int.tdiv r6 2 = q := ⟨(Int.tdiv r6 2).toNat, by omega, by omega⟩
  obtain ⟨q, hq7, hq⟩ := hq
  generalize hmm : r4 * r5 = m at *
  have hy : ∀ y, y ∈ [wrap64 (1 + r1), wrap64 (1 + r2), wrap64 (1000 - r3), wrap64 m] → 0 ≤ y ∧ y ≤ 1000 := by
    rw [w64 (n := 1 + r1) (by omega) (by omega), w64 (n := 1 + r2) (by omega) (by omega), w64 (n := 1000 - r3) (by omega) (by omega), w64 (n := m) (by omega) (by omega)]
    intro y hy
    simp only [List.mem_cons, List.not_mem_nil, or_false] at hy
    omega
  have hv : 0 ≤ rd [wrap64 (1 + r1), wrap64 (1 + r2), wrap64 (1000 - r3), wrap64 m] (q : Int) ∧ rd [wrap64 (1 + r1), wrap64 (1 + r2), wrap64 (1000 - r3), wrap64 m] (q : Int) ≤ 1000 := by
    refine hy _ ?_
    unfold rd
    rw [List.getD_eq_getElem?_getD, List.getElem?_eq_getElem (by simp; omega)]
    exact List.getElem_mem _
  refine ⟨rd [wrap64 (1 + r1), wrap64 (1 + r2), wrap64 (1000 - r3), wrap64 m] (q : Int) + Int.tdiv r7 39 * 1000, by omega, by omega, ?_⟩
  unfold spec_l20UpTo.f
  refine Ev.bind c1 (Ev.bind c2 (Ev.bind c3 (Ev.bind c4 (Ev.bind c5 ?_))))
  simp only [Option.bind_some]
  refine Ev.bind c6 ?_
  have ew : wrap64 (Int.tdiv r6 2) = (q : Int) := by rw [hq]; exact w64 (by omega) (by omega)
  simp only [ew]
  refine Ev.ite_pos (by omega) (Ev.ite_pos (by simp; omega) ?_)
  refine Ev.bind c7 (Ev.const ?_)
  simp only [hmm]
  generalize rd [wrap64 (1 + r1), wrap64 (1 + r2), wrap64 (1000 - r3), wrap64 m] (q : Int) = z at *
  rw [show p + 1 + 1 + 1 + 1 + 1 + 1 + 1 = p + 7 by omega, w64 (n := Int.tdiv r7 39) (by omega) (by omega), w64 (n := Int.tdiv r7 39 * 1000) (by omega) (by omega), w64 (n := z + Int.tdiv r7 39 * 1000) (by omega) (by omega)]

theorem impl_gcdL : ∀ (m b a : Nat), b ≤ m → Ev (fun k => impl_gcd.l0 k (a : Int) (b : Int)) ((Nat.gcd a b : Nat) : Int) := by
  intro m
  induction m with
  | zero =>
    intro b a hb
    have e : b = 0 := by omega
    subst e
    rw [Nat.gcd_zero_right]
    refine Ev.step (fun k => ?_) (Ev.now _)
    simp only [impl_gcd.l0]
    rw [if_pos (by omega)]
  | succ m ih =>
    intro b a hb
    by_cases h0 : b = 0
    · subst h0
      rw [Nat.gcd_zero_right]
      refine Ev.step (fun k => ?_) (Ev.now _)
      simp only [impl_gcd.l0]
      rw [if_pos (by omega)]
    · have hlt : a % b < b := Nat.mod_lt _ (by omega)
      have h := ih (a % b) b (by omega)
      rw [gcd_step] at h
      refine Ev.step (fun k => ?_) h
      simp only [impl_gcd.l0, tmod_nat]
      rw [if_neg (by omega)]
theorem impl_gcd_ev (a b : Nat) : Ev (fun k => impl_gcd.f k (a : Int) (b : Int)) ((Nat.gcd a b : Nat) : Int) := by
  unfold impl_gcd.f
  exact impl_gcdL b b a (Nat.le_refl _)

theorem impl_apart {a b : Nat} (h1 : 1 ≤ a) (h2 : a ≤ 10000) (h3 : 1 ≤ b) (h4 : b ≤ 10000) : Ev (fun k => impl_ApartOk.f k (a : Int) (b : Int)) (decide (Nat.gcd a b = 1)) := by
  have h : Ev (fun k => impl_CommonOf.f k (a : Int) (b : Int)) ((Nat.gcd a b : Nat) : Int) := by
    unfold impl_CommonOf.f
    simp only [numberOk_eq, Option.bind_some, show (1 : Int) ≤ a ∧ (a : Int) ≤ 10000 from ⟨by omega, by omega⟩, show (1 : Int) ≤ b ∧ (b : Int) ≤ 10000 from ⟨by omega, by omega⟩, and_self, decide_true, if_true]
    exact Ev.bind (impl_gcd_ev a b) (Ev.now _)
  unfold impl_ApartOk.f
  refine Ev.bind h (Ev.const ?_)
  congr 1
  rw [Bool.eq_iff_iff]
  simp only [beq_iff_eq, decide_eq_true_eq]
  omega

theorem draw_ev {l0 : List Int} (hb : Bytes l0) : ∃ n, 0 ≤ n ∧ n ≤ 2000 ∧ Ev (fun k => spec_DrawPairsApart.f k l0) n := by
  obtain ⟨bs, h1, h2, h3⟩ := open_ev hb
  obtain ⟨r, h4, h5, h6⟩ := upTo_ev h1 h2 (p := 0) (by omega) (by omega)
  refine ⟨r, h4, h5, ?_⟩
  unfold spec_DrawPairsApart.f
  exact Ev.bindc h3 (Ev.bind h6 (Ev.now _))
theorem inner_ev {n x : Nat} (h2 : n ≤ 30) (hx1 : 1 ≤ x) (hx2 : x ≤ n) (m s : Int) : ∀ (f j c : Nat), j + f = n + 1 → 1 ≤ j → c + f ≤ 10000 →
    Ev (fun k => laws_FnPairsApart.l0 k (n : Int) m s ((c + cpR x f j : Nat) : Int) ((x : Int) + 1)) true →
    Ev (fun k => laws_FnPairsApart.l1 k (n : Int) m s (c : Int) (x : Int) (j : Int)) true := by
  intro f
  induction f with
  | zero =>
    intro j c hj hj1 hc hR
    refine Ev.step (f := fun k => laws_FnPairsApart.j2 k (n : Int) m s (c : Int) (x : Int) (j : Int) false) (fun k => ?_) (Ev.step (fun k => ?_) hR)
    · simp only [laws_FnPairsApart.l1]
      rw [if_neg (by omega)]
    · simp only [laws_FnPairsApart.j2, Bool.false_eq_true, if_false, cpR]
      rw [w64 (by omega) (by omega)]
      rfl
  | succ f ih =>
    intro j c hj hj1 hc hR
    simp only [cpR] at hR
    have ha := impl_apart (a := x) (b := j) hx1 (by omega) hj1 (by omega)
    refine Ev.step (f := fun k => laws_FnPairsApart.j2 k (n : Int) m s (c : Int) (x : Int) (j : Int) true) (fun k => ?_) (Ev.step (f := fun k => (impl_ApartOk.f k (x : Int) (j : Int)).bind fun t192 => (if t192 = true then (laws_FnPairsApart.l1 k (n : Int) m s (wrap64 ((c : Int) + 1)) (x : Int) (wrap64 ((j : Int) + 1))) else (laws_FnPairsApart.l1 k (n : Int) m s (c : Int) (x : Int) (wrap64 ((j : Int) + 1))))) (fun k => ?_) (Ev.bind ha ?_))
    · simp only [laws_FnPairsApart.l1]
      rw [if_pos (by omega), decide_eq_true (by omega)]
    · simp only [laws_FnPairsApart.j2, if_true]
    · rw [w64 (n := (c : Int) + 1) (by omega) (by omega), w64 (n := (j : Int) + 1) (by omega) (by omega)]
      by_cases hg : Nat.gcd x j = 1
      · rw [if_pos hg, ← Nat.add_assoc] at hR
        exact Ev.ite_pos (decide_eq_true hg) (ih (j + 1) (c + 1) (by omega) (by omega) (by omega) hR)
      · rw [if_neg hg, Nat.zero_add] at hR
        exact Ev.ite_neg (by simpa using hg) (ih (j + 1) c (by omega) (by omega) (by omega) hR)
theorem outer_ev {n : Nat} (h1 : 1 ≤ n) (h2 : n ≤ 120) : ∀ (f x : Nat) (s : Int) (c : Nat), x + f = n + 1 → 1 ≤ x → -(2000000 * (x : Int)) ≤ s → s ≤ 2000000 * (x : Int) → c ≤ 200 * x → s + upF (fun k => prS (n / k)) f x = (n : Int) * (n : Int) → (n ≤ 30 → c + cpA n f x = cpA n n 1) →
    Ev (fun k => laws_FnPairsApart.l0 k (n : Int) (prS n) s (c : Int) (x : Int)) true := by
  have hnn : (n : Int) * (n : Int) ≤ 120 * 120 := Int.mul_le_mul (by omega) (by omega) (by omega) (by omega)
  have hnn0 : 0 ≤ (n : Int) * (n : Int) := Int.mul_nonneg (by omega) (by omega)
  intro f
  induction f with
  | zero =>
    intro x s c hx h3 h4 h5 h6 he hc
    have hs : s = (n : Int) * (n : Int) := by simpa [upF] using he
    subst hs
    have key : ∀ k, laws_FnPairsApart.l0 (k + 1) (n : Int) (prS n) ((n : Int) * (n : Int)) (c : Int) (x : Int) = if (n : Int) > 30 then some true else some ((c : Int) == prS n) := by
      intro k
      simp only [laws_FnPairsApart.l0]
      rw [if_neg (by omega), w64 (n := (n : Int) * (n : Int)) (by omega) (by omega)]
      simp only [if_true]
    refine Ev.step key ?_
    by_cases hb : (n : Int) > 30
    · exact Ev.ite_pos hb (Ev.now _)
    · refine Ev.ite_neg hb (Ev.const ?_)
      have h := hc (by omega)
      simp only [cpA, Nat.add_zero] at h
      rw [← cp_eq h1 (by omega), h]
      simp
  | succ f ih =>
    intro x s c hx h3 h4 h5 h6 he hc
    have hq1 : 1 ≤ n / x := Nat.div_pos (by omega) h3
    have hq2 : n / x ≤ n := Nat.div_le_self _ _
    have hp := prS_rng (n / x) hq1 (by omega)
    have hqq : ((n / x : Nat) : Int) * ((n / x : Nat) : Int) ≤ 1000 * 1000 := Int.mul_le_mul (by omega) (by omega) (by omega) (by omega)
    simp only [upF] at he
    have hp2 : prS (n / x) ≤ 1000000 := by
      generalize ((n / x : Nat) : Int) * ((n / x : Nat) : Int) = z at *
      omega
    have hp1 := hp.1
    clear hp hqq
    refine Ev.step (f := fun k => (impl_PairsApart.f k ((n / x : Nat) : Int)).bind fun t191 => (laws_FnPairsApart.l1 k (n : Int) (prS n) (wrap64 (s + t191)) (c : Int) (x : Int) 1)) (fun k => ?_) (Ev.bind (impl_pr hq1 (by omega)) ?_)
    · simp only [laws_FnPairsApart.l0, tdiv_nat]
      generalize n / x = q at *
      rw [if_pos (by omega), if_neg (by omega), w64 (n := (q : Int)) (by omega) (by omega)]
    · rw [w64 (n := s + prS (n / x)) (by omega) (by omega)]
      by_cases h30 : n ≤ 30
      · have hcl := cpR_le x n 1
        have ih := ih (x + 1) (s + prS (n / x)) (c + cpR x n 1) (by omega) (by omega) (by omega) (by omega) (by omega) (by omega) (fun h => by have := hc h; simp only [cpA] at this; omega)
        exact inner_ev h30 h3 (by omega) _ _ n 1 c (by omega) (by omega) (by omega) ih
      · have ih := ih (x + 1) (s + prS (n / x)) c (by omega) (by omega) (by omega) (by omega) (by omega) (by omega) (fun h => absurd h h30)
        refine Ev.step (f := fun k => laws_FnPairsApart.j2 k (n : Int) (prS n) (s + prS (n / x)) (c : Int) (x : Int) 1 false) (fun k => ?_) (Ev.step (fun k => ?_) ih)
        · simp only [laws_FnPairsApart.l1]
          rw [if_pos (by omega), decide_eq_false (by omega)]
        · simp only [laws_FnPairsApart.j2, Bool.false_eq_true, if_false]
          rw [w64 (by omega) (by omega)]
          rfl
theorem FnPairsApart : laws_FnPairsApart.Pure := by
  intro l0 _ _ hw
  refine Ev.rounds ?_
  unfold laws_FnPairsApart.f
  by_cases hl : (l0.length : Int) > 1048576
  · exact Ev.ite_pos hl (Ev.now _)
  refine Ev.ite_neg hl ?_
  obtain ⟨a, h1, h2, h3⟩ := draw_ev (Bytes.of hw)
  refine Ev.bind h3 ?_
  by_cases hr : 1 ≤ a ∧ a ≤ 1000
  · obtain ⟨n, rfl⟩ : ∃ n : Nat, a = n := ⟨a.toNat, by omega⟩
    have hp := prS_rng n (by omega) (by omega)
    refine Ev.bind (impl_pr (by omega) (by omega)) (Ev.bind (spec_pr (by omega) (by omega)) (Ev.ite_pos rfl (Ev.ite_neg (by omega) ?_)))
    by_cases hb : (n : Int) > 120
    · have hn2 : (n : Int) * (n : Int) ≤ 1000 * 1000 := Int.mul_le_mul (by omega) (by omega) (by omega) (by omega)
      have hn0 : 0 ≤ (n : Int) * (n : Int) := Int.mul_nonneg (by omega) (by omega)
      refine Ev.ite_pos hb (Ev.ite_pos ?_ (Ev.const ?_))
      · generalize (n : Int) * (n : Int) = z at *
        rw [w64 (by omega) (by omega)]
        exact hp.2
      · rw [decide_eq_true (by omega)]
    · refine Ev.ite_neg hb ?_
      have h := prQ_sq n (by omega)
      unfold prQ at h
      exact outer_ev (by omega) (by omega) n 1 0 0 (by omega) (by omega) (by omega) (by omega) (by omega) (by omega) (fun _ => Nat.zero_add _)
  · refine Ev.bind (impl_pr_no hr) (Ev.bind (spec_pr_no hr) (Ev.ite_pos rfl (Ev.ite_pos (by decide) (Ev.ite_pos rfl (Ev.bindc alive_eq (Ev.now _))))))

end Go.Proofs.Ytijgepnmcoicgaa.Pure
