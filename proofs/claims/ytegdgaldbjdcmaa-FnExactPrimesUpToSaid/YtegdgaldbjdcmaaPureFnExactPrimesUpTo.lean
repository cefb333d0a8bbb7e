/-
  For every whole number the program's PrimesUpTo and the reference's answer the same.
-/
import Derived.Test.YtegdgaldbjdcmaaPFnExactPrimesUpTox2
import Derived.Test.YtegdgaldbjdcmaaLib
import Derived.Test.YtegdgaldbjdcmaaLibDiv
import Derived.Test.YtegdgaldbjdcmaaLibPrm
namespace Go.Proofs.Ytegdgaldbjdcmaa.Pure
open Go.RowKit Go.Proofs.Ytegdgaldbjdcmaa.PFnExactPrimesUpTo Go.Proofs.YtegdgaldbjdcmaaW.PrintWords Go.Proofs.YtegdgaldbjdcmaaW.PrintLast Go.Proofs.Ytegdgaldbjdcmaa.Lib
set_option linter.unusedVariables false
set_option linter.unusedSimpArgs false

theorem numberOk_eq (a : Int) : impl_numberOk.f a = some (decide (1 ≤ a ∧ a ≤ 10000)) := by
  unfold impl_numberOk.f
  by_cases h : a ≥ 1
  · rw [if_pos h]; simp [h]
  · rw [if_neg h]; congr 1; symm; simp; intro h2; omega

theorem reverse_mid : ∀ (m : Nat) (A M B : List Int), M.length ≤ m → (A ++ M ++ B).length ≤ 1000000 →
    Ev (fun k => slices_Reverse_int_int.l0 k (A ++ M ++ B) (A.length : Int) ((A.length : Int) + (M.length : Int) - 1)) (A ++ M.reverse ++ B) := by
  intro m
  induction m with
  | zero =>
    intro A M B hm hl
    have e : M = [] := List.length_eq_zero_iff.1 (by omega)
    subst e
    refine Ev.step (fun k => ?_) (Ev.now _)
    simp only [slices_Reverse_int_int.l0]
    rw [if_neg (by simp; omega)]
    rfl
  | succ m ih =>
    intro A M B hm hl
    match M, hm, hl with
    | [], _, _ =>
      refine Ev.step (fun k => ?_) (Ev.now _)
      simp only [slices_Reverse_int_int.l0]
      rw [if_neg (by simp; omega)]
      rfl
    | x :: M, hm, hl =>
      rcases List.eq_nil_or_concat M with rfl | ⟨M', y, rfl⟩
      · refine Ev.step (fun k => ?_) (Ev.now _)
        simp only [slices_Reverse_int_int.l0]
        rw [if_neg (by simp)]
        rfl
      · have hlen : A.length + (M'.length + 2) + B.length ≤ 1000000 := by
          simp at hl ⊢; omega
        have ih := ih (A ++ [y]) M' (x :: B) (by simp at hm; omega) (by simp; omega)
        have e1 : A ++ [y] ++ M' ++ x :: B = A ++ (y :: M' ++ x :: B) := by simp
        rw [e1] at ih
        have er : A ++ [y] ++ M'.reverse ++ x :: B = A ++ (x :: M'.concat y).reverse ++ B := by simp
        rw [er] at ih
        have ei : ((A ++ [y]).length : Int) = (A.length : Int) + 1 := by simp
        rw [ei] at ih
        have ej : (A.length : Int) + 1 + (M'.length : Int) - 1 = (A.length : Int) + (M'.length : Int) := by omega
        rw [ej] at ih
        refine Ev.step (fun k => ?_) ih
        have e0 : A ++ x :: M'.concat y ++ B = A ++ (x :: (M' ++ y :: B)) := by simp
        have ej2 : (A.length : Int) + ((x :: M'.concat y).length : Int) - 1 = ((A.length + (M'.length + 1) : Nat) : Int) := by simp; omega
        simp only [slices_Reverse_int_int.l0]
        rw [e0, ej2]
        have r1 : rd (A ++ (x :: (M' ++ y :: B))) ((A.length + (M'.length + 1) : Nat) : Int) = y := by
          unfold rd
          rw [Int.toNat_natCast, List.getD_eq_getElem?_getD, List.getElem?_append_right (by omega)]
          simp
        have r2 : rd (A ++ (x :: (M' ++ y :: B))) (A.length : Int) = x := by
          unfold rd
          rw [Int.toNat_natCast, List.getD_eq_getElem?_getD, List.getElem?_append_right (by omega)]
          simp
        have hL : (A ++ (x :: (M' ++ y :: B))).length = A.length + (M'.length + 2) + B.length := by simp; omega
        rw [if_pos (by omega), if_pos (by omega), if_pos (by omega), if_pos (by omega), if_pos (by omega), r1, r2, w64 (by omega) (by omega), w64 (by omega) (by omega)]
        have s1 : ((A ++ (x :: (M' ++ y :: B))).set ((A.length : Nat) : Int).toNat y).set ((A.length + (M'.length + 1) : Nat) : Int).toNat x = A ++ (y :: M' ++ x :: B) := by
          rw [Int.toNat_natCast, Int.toNat_natCast, List.set_append_right _ _ (Nat.le_refl _), List.set_append_right _ _ (by omega)]
          simp
        rw [s1]
        congr 1
        omega
theorem reverse_ev (l : List Int) (hl : l.length ≤ 1000000) : Ev (fun k => slices_Reverse_int_int.f k l) l.reverse := by
  unfold slices_Reverse_int_int.f
  have h := reverse_mid l.length [] l [] (Nat.le_refl _) (by simpa using hl)
  simp only [List.nil_append, List.append_nil, List.length_nil] at h
  rw [w64 (by omega) (by omega)]
  refine Ev.congr (fun k => ?_) h
  congr 1
  omega

theorem sq_cast (a : Nat) : (a : Int) * (a : Int) = ((a * a : Nat) : Int) := by simp
theorem sq_le {a m : Nat} (h : a ≤ m) : a * a ≤ m * m := Nat.mul_le_mul h h
theorem sq_le' {a m : Nat} (h : a ≤ m) : a * a ≤ m * m := Nat.mul_le_mul h h

theorem impl_dvL {n : Nat} (h1 : 1 ≤ n) (h2 : n ≤ 10000) : ∀ (f d : Nat) (x y : List Int), d + f = 102 → 1 ≤ d → x.length < d → y.length < d →
    Ev (fun k => impl_divisors.l0 k (n : Int) x y (d : Int)) (x ++ ints (sm n f d) ++ (y ++ ints (bk n f d)).reverse) := by
  intro f
  induction f with
  | zero =>
    intro d x y hd hd1 hx hy
    have e : d = 102 := by omega
    subst e
    have hr := reverse_ev y (by omega)
    simp only [sm, bk, ints, List.map_nil, List.append_nil]
    refine Ev.step (f := fun k => (slices_Reverse_int_int.f k y).bind fun t => (if x.length + t.length < 17592186044416 then (some (x ++ t)) else (none))) (fun k => ?_) (Ev.bind hr (Ev.ite_pos (by rw [List.length_reverse]; omega) (Ev.now _)))
    simp only [impl_divisors.l0, sq_cast]
    rw [w64 (n := ((102 * 102 : Nat) : Int)) (by omega) (by omega), if_neg (by omega)]
  | succ f ih =>
    intro d x y hd hd1 hx hy
    have hdd := sq_le (show d ≤ 102 by omega)
    by_cases hc : d * d ≤ n
    · by_cases hm : n % d = 0
      · have hq : n / d ≤ n := Nat.div_le_self _ _
        by_cases hl : d * d < n
        · have ih := ih (d + 1) (x ++ [(d : Int)]) (y ++ [((n / d : Nat) : Int)]) (by omega) (by omega) (by simp; omega) (by simp; omega)
          simp only [sm, bk, if_pos hc, if_pos hm, if_pos hl]
          have e : x ++ ints (d :: sm n f (d + 1)) ++ (y ++ ints (n / d :: bk n f (d + 1))).reverse = x ++ [(d : Int)] ++ ints (sm n f (d + 1)) ++ (y ++ [((n / d : Nat) : Int)] ++ ints (bk n f (d + 1))).reverse := by simp [ints]
          rw [e]
          refine Ev.step (fun k => ?_) ih
          simp only [impl_divisors.l0, sq_cast, tmod_nat, tdiv_nat]
          rw [w64 (n := ((d * d : Nat) : Int)) (by omega) (by omega), if_pos (by omega), if_neg (by omega), if_pos (by omega), if_pos (by omega)]
          simp only [Option.bind_some]
          generalize n / d = q at *
          rw [if_pos (by omega), if_pos (by omega), w64 (n := (q : Int)) (by omega) (by omega), w64 (n := (d : Int) + 1) (by omega) (by omega)]
          rfl
        · have ih := ih (d + 1) (x ++ [(d : Int)]) y (by omega) (by omega) (by simp; omega) (by omega)
          simp only [sm, bk, if_pos hc, if_pos hm, if_neg hl]
          have e : x ++ ints (d :: sm n f (d + 1)) ++ (y ++ ints (bk n f (d + 1))).reverse = x ++ [(d : Int)] ++ ints (sm n f (d + 1)) ++ (y ++ ints (bk n f (d + 1))).reverse := by simp [ints]
          rw [e]
          refine Ev.step (fun k => ?_) ih
          simp only [impl_divisors.l0, sq_cast, tmod_nat, tdiv_nat]
          rw [w64 (n := ((d * d : Nat) : Int)) (by omega) (by omega), if_pos (by omega), if_neg (by omega), if_pos (by omega), if_pos (by omega)]
          simp only [Option.bind_some]
          rw [if_neg (by omega), w64 (n := (d : Int) + 1) (by omega) (by omega)]
          rfl
      · have ih := ih (d + 1) x y (by omega) (by omega) (by omega) (by omega)
        simp only [sm, bk, if_pos hc, if_neg hm]
        refine Ev.step (fun k => ?_) ih
        simp only [impl_divisors.l0, sq_cast, tmod_nat]
        rw [w64 (n := ((d * d : Nat) : Int)) (by omega) (by omega), if_pos (by omega), if_neg (by omega), if_neg (by omega), w64 (n := (d : Int) + 1) (by omega) (by omega)]
        rfl
    · have hr := reverse_ev y (by omega)
      simp only [sm, bk, if_neg hc, ints, List.map_nil, List.append_nil]
      refine Ev.step (f := fun k => (slices_Reverse_int_int.f k y).bind fun t => (if x.length + t.length < 17592186044416 then (some (x ++ t)) else (none))) (fun k => ?_) (Ev.bind hr (Ev.ite_pos (by rw [List.length_reverse]; omega) (Ev.now _)))
      simp only [impl_divisors.l0, sq_cast]
      rw [w64 (n := ((d * d : Nat) : Int)) (by omega) (by omega), if_neg (by omega)]
theorem impl_dv {n : Nat} (h1 : 1 ≤ n) (h2 : n ≤ 10000) : Ev (fun k => impl_divisors.f k (n : Int)) (ints (dv n)) := by
  unfold impl_divisors.f
  have h := impl_dvL h1 h2 101 1 [] [] (by omega) (by omega) (by simp) (by simp)
  have e : ints (dv n) = [] ++ ints (sm n 101 1) ++ ([] ++ ints (bk n 101 1)).reverse := by simp [dv, ints]
  rw [e]
  exact h

theorem impl_prm {n : Nat} (h1 : 1 ≤ n) (h2 : n ≤ 10000) : Ev (fun k => impl_PrimeOk.f k (n : Int)) (prm n) := by
  unfold impl_PrimeOk.f
  simp only [numberOk_eq, Option.bind_some, show (1 : Int) ≤ n ∧ (n : Int) ≤ 10000 from ⟨by omega, by omega⟩, and_self, decide_true, if_true]
  refine Ev.bind (impl_dv h1 h2) ?_
  rw [ints_length]
  refine Ev.const ?_
  unfold prm
  congr 1
  rw [Bool.eq_iff_iff]
  simp only [beq_iff_eq]
  omega
theorem impl_prm_no {a : Int} (h : ¬ (1 ≤ a ∧ a ≤ 10000)) : Ev (fun k => impl_PrimeOk.f k a) false := by
  unfold impl_PrimeOk.f
  simp only [numberOk_eq, Option.bind_some, h, decide_false]
  exact Ev.now _

theorem l1In_eq (a b c : Int) : spec_l1In.f a b c = some (decide (b ≤ a ∧ a ≤ c)) := by
  unfold spec_l1In.f
  by_cases h : a ≥ b
  · rw [if_pos h]; simp [h]
  · rw [if_neg h]; congr 1; symm; simp; intro h2; omega

theorem spec_prmL {n : Nat} (h1 : 1 ≤ n) (h2 : n ≤ 10000) : ∀ (f d : Nat), d + f = 102 → 2 ≤ d → (∀ e, 2 ≤ e → e < d → e * e ≤ n → n % e ≠ 0) →
    Ev (fun k => spec_PrimeOk.l0 k (n : Int) (d : Int)) (prm n) := by
  have hend : ∀ (d : Nat), d ≤ 102 → 2 ≤ d → n < d * d → (∀ e, 2 ≤ e → e < d → e * e ≤ n → n % e ≠ 0) → Ev (fun k => spec_PrimeOk.l0 k (n : Int) (d : Int)) (prm n) := by
    intro d hd hd2 hdd he
    have hsq : d * d ≤ 102 * 102 := sq_le hd
    have hp : prm n = decide (2 ≤ n) := by
      rw [Bool.eq_iff_iff, prm_iff h1 h2, decide_eq_true_eq]
      refine ⟨fun h => h.1, fun h => ⟨h, fun e e1 e2 => ?_⟩⟩
      refine he e e1 (Nat.lt_of_not_le (fun hle => ?_)) e2
      have : d * d ≤ e * e := sq_le' hle
      omega
    refine Ev.step (f := fun k => spec_PrimeOk.j1 k (n : Int) (d : Int) false) (fun k => ?_) (Ev.step (fun k => ?_) (Ev.now _))
    · simp only [spec_PrimeOk.l0, sq_cast]
      rw [w64 (n := ((d * d : Nat) : Int)) (by omega) (by omega), if_neg (by omega)]
    · simp only [spec_PrimeOk.j1, l1In_eq, hp]
      rw [if_neg (by simp)]
      simp only [Option.bind_some]
      congr 1
      rw [Bool.eq_iff_iff]
      simp only [decide_eq_true_eq]
      omega
  intro f
  induction f with
  | zero =>
    intro d hd hd2 he
    have e : d = 102 := by omega
    subst e
    exact hend 102 (by omega) (by omega) (by omega) he
  | succ f ih =>
    intro d hd hd2 he
    have hsq : d * d ≤ 102 * 102 := sq_le (by omega)
    by_cases hc : d * d ≤ n
    · by_cases hm : n % d = 0
      · have hp : prm n = false := by
          rw [← Bool.not_eq_true, prm_iff h1 h2]
          exact fun h => h.2 d hd2 hc hm
        refine Ev.step (f := fun k => spec_PrimeOk.j1 k (n : Int) (d : Int) true) (fun k => ?_) (Ev.step (fun k => ?_) (Ev.now _))
        · simp only [spec_PrimeOk.l0, sq_cast]
          rw [w64 (n := ((d * d : Nat) : Int)) (by omega) (by omega), if_pos (by omega), decide_eq_true (by omega)]
        · simp only [spec_PrimeOk.j1, if_true, tmod_nat, hp]
          rw [if_neg (by omega), if_pos (by omega)]
      · refine Ev.step (f := fun k => spec_PrimeOk.j1 k (n : Int) (d : Int) true) (fun k => ?_) (Ev.step (fun k => ?_) (ih (d + 1) (by omega) (by omega) (fun e e1 e2 e3 => ?_)))
        · simp only [spec_PrimeOk.l0, sq_cast]
          rw [w64 (n := ((d * d : Nat) : Int)) (by omega) (by omega), if_pos (by omega), decide_eq_true (by omega)]
        · simp only [spec_PrimeOk.j1, if_true, tmod_nat]
          rw [if_neg (by omega), if_neg (by omega), w64 (by omega) (by omega)]
          rfl
        · by_cases hed : e = d
          · subst hed; exact hm
          · exact he e e1 (by omega) e3
    · exact hend d (by omega) hd2 (by omega) he
theorem spec_prm {n : Nat} (h1 : 1 ≤ n) (h2 : n ≤ 10000) : Ev (fun k => spec_PrimeOk.f k (n : Int)) (prm n) := by
  unfold spec_PrimeOk.f
  exact spec_prmL h1 h2 100 2 (by omega) (by omega) (fun e e1 e2 => by omega)

theorem upToOk_eq (a : Int) : impl_upToOk.f a = some (decide (1 ≤ a ∧ a ≤ 1000)) := by
  unfold impl_upToOk.f
  by_cases h : a ≥ 1
  · rw [if_pos h]; simp [h]
  · rw [if_neg h]; congr 1; symm; simp; intro h2; omega

theorem impl_pmL {n : Nat} (h2 : n ≤ 10000) : ∀ (f d : Nat) (x : List Int), d + f = n + 1 → 2 ≤ d → x.length < d →
    Ev (fun k => impl_primesUpTo.l0 k (n : Int) x (d : Int)) (x ++ ints (pmF d f)) := by
  intro f
  induction f with
  | zero =>
    intro d x hd h3 hx
    refine Ev.step (fun k => ?_) (Ev.now _)
    simp only [impl_primesUpTo.l0]
    rw [if_neg (by omega)]
    simp [pmF, ints]
  | succ f ih =>
    intro d x hd h3 hx
    have hp := impl_prm (n := d) (by omega) (by omega)
    rw [pmF_succ]
    cases hb : prm d with
    | true =>
      rw [hb] at hp
      have ih := ih (d + 1) (x ++ [(d : Int)]) (by omega) (by omega) (by simp; omega)
      rw [if_pos rfl, show x ++ ints (d :: pmF (d + 1) f) = x ++ [(d : Int)] ++ ints (pmF (d + 1) f) by simp [ints]]
      refine Ev.step (f := fun k => (impl_PrimeOk.f k (d : Int)).bind fun t131 => (if t131 = true then (if x.length < 17592186044416 then (impl_primesUpTo.l0 k (n : Int) (x ++ [(d : Int)]) (wrap64 ((d : Int) + 1))) else (none)) else (impl_primesUpTo.l0 k (n : Int) x (wrap64 ((d : Int) + 1))))) (fun k => ?_) (Ev.bind hp (Ev.ite_pos rfl (Ev.ite_pos (by omega) ?_)))
      · simp only [impl_primesUpTo.l0]
        rw [if_pos (by omega)]
      · rw [w64 (by omega) (by omega)]
        exact ih
    | false =>
      rw [hb] at hp
      have ih := ih (d + 1) x (by omega) (by omega) (by omega)
      rw [if_neg (by simp)]
      refine Ev.step (f := fun k => (impl_PrimeOk.f k (d : Int)).bind fun t131 => (if t131 = true then (if x.length < 17592186044416 then (impl_primesUpTo.l0 k (n : Int) (x ++ [(d : Int)]) (wrap64 ((d : Int) + 1))) else (none)) else (impl_primesUpTo.l0 k (n : Int) x (wrap64 ((d : Int) + 1))))) (fun k => ?_) (Ev.bind hp (Ev.ite_neg (by simp) ?_))
      · simp only [impl_primesUpTo.l0]
        rw [if_pos (by omega)]
      · rw [w64 (by omega) (by omega)]
        exact ih
theorem impl_pm {n : Nat} (h1 : 1 ≤ n) (h2 : n ≤ 10000) : Ev (fun k => impl_primesUpTo.f k (n : Int)) (ints (pm n)) := by
  unfold impl_primesUpTo.f
  have h := impl_pmL h2 (n - 1) 2 [] (by omega) (by omega) (by simp)
  rw [List.nil_append] at h
  exact h
theorem impl_pms {n : Nat} (h1 : 1 ≤ n) (h2 : n ≤ 1000) : Ev (fun k => impl_PrimesUpTo.f k (n : Int)) ((pm n).length : Int) := by
  unfold impl_PrimesUpTo.f
  simp only [upToOk_eq, Option.bind_some, show (1 : Int) ≤ n ∧ (n : Int) ≤ 1000 from ⟨by omega, by omega⟩, and_self, decide_true, if_true]
  refine Ev.bind (impl_pm h1 (by omega)) ?_
  rw [ints_length]
  exact Ev.now _
theorem impl_pms_no {a : Int} (h : ¬ (1 ≤ a ∧ a ≤ 1000)) : Ev (fun k => impl_PrimesUpTo.f k a) (-1) := by
  unfold impl_PrimesUpTo.f
  simp only [upToOk_eq, Option.bind_some, h, decide_false]
  exact Ev.now _
theorem spec_pmL {n : Nat} (h2 : n ≤ 10000) : ∀ (f d s : Nat), d + f = n + 1 → 1 ≤ d → s < d →
    Ev (fun k => spec_PrimesUpTo.l0 k (n : Int) (s : Int) (d : Int)) ((s + (pmF d f).length : Nat) : Int) := by
  intro f
  induction f with
  | zero =>
    intro d s hd h3 hx
    refine Ev.step (fun k => ?_) (Ev.now _)
    simp only [spec_PrimesUpTo.l0]
    rw [if_neg (by omega)]
    simp [pmF]
  | succ f ih =>
    intro d s hd h3 hx
    have hp := spec_prm (n := d) (by omega) (by omega)
    rw [pmF_succ]
    cases hb : prm d with
    | true =>
      rw [hb] at hp
      have ih := ih (d + 1) (s + 1) (by omega) (by omega) (by omega)
      rw [if_pos rfl, List.length_cons, show s + ((pmF (d + 1) f).length + 1) = s + 1 + (pmF (d + 1) f).length by omega]
      refine Ev.step (f := fun k => (spec_PrimeOk.f k (d : Int)).bind fun t103 => (if t103 = true then (spec_PrimesUpTo.l0 k (n : Int) (wrap64 ((s : Int) + 1)) (wrap64 ((d : Int) + 1))) else (spec_PrimesUpTo.l0 k (n : Int) (s : Int) (wrap64 ((d : Int) + 1))))) (fun k => ?_) (Ev.bind hp (Ev.ite_pos rfl ?_))
      · simp only [spec_PrimesUpTo.l0]
        rw [if_pos (by omega)]
      · rw [w64 (n := (s : Int) + 1) (by omega) (by omega), w64 (by omega) (by omega)]
        exact ih
    | false =>
      rw [hb] at hp
      have ih := ih (d + 1) s (by omega) (by omega) (by omega)
      rw [if_neg (by simp)]
      refine Ev.step (f := fun k => (spec_PrimeOk.f k (d : Int)).bind fun t103 => (if t103 = true then (spec_PrimesUpTo.l0 k (n : Int) (wrap64 ((s : Int) + 1)) (wrap64 ((d : Int) + 1))) else (spec_PrimesUpTo.l0 k (n : Int) (s : Int) (wrap64 ((d : Int) + 1))))) (fun k => ?_) (Ev.bind hp (Ev.ite_neg (by simp) ?_))
      · simp only [spec_PrimesUpTo.l0]
        rw [if_pos (by omega)]
      · rw [w64 (by omega) (by omega)]
        exact ih
theorem spec_pms {n : Nat} (h1 : 1 ≤ n) (h2 : n ≤ 1000) : Ev (fun k => spec_PrimesUpTo.f k (n : Int)) ((pm n).length : Int) := by
  unfold spec_PrimesUpTo.f
  simp only [l1In_eq, Option.bind_some, show (1 : Int) ≤ n ∧ (n : Int) ≤ 1000 from ⟨by omega, by omega⟩, and_self, decide_true, if_true]
  have h := spec_pmL (n := n) (by omega) n 1 0 (by omega) (by omega) (by omega)
  rw [pmF_one h1, Nat.zero_add] at h
  exact h
theorem spec_pms_no {a : Int} (h : ¬ (1 ≤ a ∧ a ≤ 1000)) : Ev (fun k => spec_PrimesUpTo.f k a) (-1) := by
  unfold spec_PrimesUpTo.f
  simp only [l1In_eq, Option.bind_some, h, decide_false]
  exact Ev.now _

theorem FnExactPrimesUpTo : laws_FnExactPrimesUpTo.Pure := by
  intro a h
  refine Ev.rounds ?_
  by_cases hr : 1 ≤ a ∧ a ≤ 1000
  · obtain ⟨n, rfl⟩ : ∃ n : Nat, a = n := ⟨a.toNat, by omega⟩
    refine Ev.bind (spec_pms (by omega) (by omega)) (Ev.bind (impl_pms (by omega) (by omega)) ?_)
    simp only [if_true]
    exact Ev.now _
  · refine Ev.bind (spec_pms_no hr) (Ev.bind (impl_pms_no hr) ?_)
    simp only [if_true]
    exact Ev.now _

end Go.Proofs.Ytegdgaldbjdcmaa.Pure
