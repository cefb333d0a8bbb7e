/-
  For every two whole numbers the program's NotDivided and the reference's answer the same.
-/
import Derived.Test.YtegdgaldbjdcmaaPFnExactNotDividedx2
import Derived.Test.YtegdgaldbjdcmaaLib
import Derived.Test.YtegdgaldbjdcmaaLibDiv
import Derived.Test.YtegdgaldbjdcmaaLibPrm
import Derived.Test.YtegdgaldbjdcmaaLibNot
namespace Go.Proofs.Ytegdgaldbjdcmaa.Pure
open Go.RowKit Go.Proofs.Ytegdgaldbjdcmaa.PFnExactNotDivided Go.Proofs.YtegdgaldbjdcmaaW.PrintWords Go.Proofs.YtegdgaldbjdcmaaW.PrintLast Go.Proofs.YtegdgaldbjdcmaaW.PrintMore Go.Proofs.Ytegdgaldbjdcmaa.Lib
set_option linter.unusedVariables false
set_option linter.unusedSimpArgs false

theorem numberOk_eq (a : Int) : impl_numberOk.f a = some (decide (1 ≤ a ∧ a ≤ 10000)) := by
  unfold impl_numberOk.f
  by_cases h : a ≥ 1
  · rw [if_pos h]; simp [h]
  · rw [if_neg h]; congr 1; symm; simp; intro h2; omega

theorem reverse_mid : ∀ (m : Nat) (A M B : List Int), M.length ≤ m → (A ++ M ++ B).length ≤ 1000000 →
    Ev (fun k => slices_Reverse_int_int.l0 k (A ++ M ++ B) (A.length : Int) ((A.length : Int) + (M.length : Int) - 1)) (A ++ M.reverse ++ B) := by
  intro m
  induction m with
  | zero =>
    intro A M B hm hl
    have e : M = [] := List.length_eq_zero_iff.1 (by omega)
    subst e
    refine Ev.step (fun k => ?_) (Ev.now _)
    simp only [slices_Reverse_int_int.l0]
    rw [if_neg (by simp; omega)]
    rfl
  | succ m ih =>
    intro A M B hm hl
    match M, hm, hl with
    | [], _, _ =>
      refine Ev.step (fun k => ?_) (Ev.now _)
      simp only [slices_Reverse_int_int.l0]
      rw [if_neg (by simp; omega)]
      rfl
    | x :: M, hm, hl =>
      rcases List.eq_nil_or_concat M with rfl | ⟨M', y, rfl⟩
      · refine Ev.step (fun k => ?_) (Ev.now _)
        simp only [slices_Reverse_int_int.l0]
        rw [if_neg (by simp)]
        rfl
      · have hlen : A.length + (M'.length + 2) + B.length ≤ 1000000 := by
          simp at hl ⊢; omega
        have ih := ih (A ++ [y]) M' (x :: B) (by simp at hm; omega) (by simp; omega)
        have e1 : A ++ [y] ++ M' ++ x :: B = A ++ (y :: M' ++ x :: B) := by simp
        rw [e1] at ih
        have er : A ++ [y] ++ M'.reverse ++ x :: B = A ++ (x :: M'.concat y).reverse ++ B := by simp
        rw [er] at ih
        have ei : ((A ++ [y]).length : Int) = (A.length : Int) + 1 := by simp
        rw [ei] at ih
        have ej : (A.length : Int) + 1 + (M'.length : Int) - 1 = (A.length : Int) + (M'.length : Int) := by omega
        rw [ej] at ih
        refine Ev.step (fun k => ?_) ih
        have e0 : A ++ x :: M'.concat y ++ B = A ++ (x :: (M' ++ y :: B)) := by simp
        have ej2 : (A.length : Int) + ((x :: M'.concat y).length : Int) - 1 = ((A.length + (M'.length + 1) : Nat) : Int) := by simp; omega
        simp only [slices_Reverse_int_int.l0]
        rw [e0, ej2]
        have r1 : rd (A ++ (x :: (M' ++ y :: B))) ((A.length + (M'.length + 1) : Nat) : Int) = y := by
          unfold rd
          rw [Int.toNat_natCast, List.getD_eq_getElem?_getD, List.getElem?_append_right (by omega)]
          simp
        have r2 : rd (A ++ (x :: (M' ++ y :: B))) (A.length : Int) = x := by
          unfold rd
          rw [Int.toNat_natCast, List.getD_eq_getElem?_getD, List.getElem?_append_right (by omega)]
          simp
        have hL : (A ++ (x :: (M' ++ y :: B))).length = A.length + (M'.length + 2) + B.length := by simp; omega
        rw [if_pos (by omega), if_pos (by omega), if_pos (by omega), if_pos (by omega), if_pos (by omega), r1, r2, w64 (by omega) (by omega), w64 (by omega) (by omega)]
        have s1 : ((A ++ (x :: (M' ++ y :: B))).set ((A.length : Nat) : Int).toNat y).set ((A.length + (M'.length + 1) : Nat) : Int).toNat x = A ++ (y :: M' ++ x :: B) := by
          rw [Int.toNat_natCast, Int.toNat_natCast, List.set_append_right _ _ (Nat.le_refl _), List.set_append_right _ _ (by omega)]
          simp
        rw [s1]
        congr 1
        omega
theorem reverse_ev (l : List Int) (hl : l.length ≤ 1000000) : Ev (fun k => slices_Reverse_int_int.f k l) l.reverse := by
  unfold slices_Reverse_int_int.f
  have h := reverse_mid l.length [] l [] (Nat.le_refl _) (by simpa using hl)
  simp only [List.nil_append, List.append_nil, List.length_nil] at h
  rw [w64 (by omega) (by omega)]
  refine Ev.congr (fun k => ?_) h
  congr 1
  omega

theorem sq_cast (a : Nat) : (a : Int) * (a : Int) = ((a * a : Nat) : Int) := by simp
theorem sq_le {a m : Nat} (h : a ≤ m) : a * a ≤ m * m := Nat.mul_le_mul h h
theorem sq_le' {a m : Nat} (h : a ≤ m) : a * a ≤ m * m := Nat.mul_le_mul h h

theorem impl_dvL {n : Nat} (h1 : 1 ≤ n) (h2 : n ≤ 10000) : ∀ (f d : Nat) (x y : List Int), d + f = 102 → 1 ≤ d → x.length < d → y.length < d →
    Ev (fun k => impl_divisors.l0 k (n : Int) x y (d : Int)) (x ++ ints (sm n f d) ++ (y ++ ints (bk n f d)).reverse) := by
  intro f
  induction f with
  | zero =>
    intro d x y hd hd1 hx hy
    have e : d = 102 := by omega
    subst e
    have hr := reverse_ev y (by omega)
    simp only [sm, bk, ints, List.map_nil, List.append_nil]
    refine Ev.step (f := fun k => (slices_Reverse_int_int.f k y).bind fun t => (if x.length + t.length < 17592186044416 then (some (x ++ t)) else (none))) (fun k => ?_) (Ev.bind hr (Ev.ite_pos (by rw [List.length_reverse]; omega) (Ev.now _)))
    simp only [impl_divisors.l0, sq_cast]
    rw [w64 (n := ((102 * 102 : Nat) : Int)) (by omega) (by omega), if_neg (by omega)]
  | succ f ih =>
    intro d x y hd hd1 hx hy
    have hdd := sq_le (show d ≤ 102 by omega)
    by_cases hc : d * d ≤ n
    · by_cases hm : n % d = 0
      · have hq : n / d ≤ n := Nat.div_le_self _ _
        by_cases hl : d * d < n
        · have ih := ih (d + 1) (x ++ [(d : Int)]) (y ++ [((n / d : Nat) : Int)]) (by omega) (by omega) (by simp; omega) (by simp; omega)
          simp only [sm, bk, if_pos hc, if_pos hm, if_pos hl]
          have e : x ++ ints (d :: sm n f (d + 1)) ++ (y ++ ints (n / d :: bk n f (d + 1))).reverse = x ++ [(d : Int)] ++ ints (sm n f (d + 1)) ++ (y ++ [((n / d : Nat) : Int)] ++ ints (bk n f (d + 1))).reverse := by simp [ints]
          rw [e]
          refine Ev.step (fun k => ?_) ih
          simp only [impl_divisors.l0, sq_cast, tmod_nat, tdiv_nat]
          rw [w64 (n := ((d * d : Nat) : Int)) (by omega) (by omega), if_pos (by omega), if_neg (by omega), if_pos (by omega), if_pos (by omega)]
          simp only [Option.bind_some]
          generalize n / d = q at *
          rw [if_pos (by omega), if_pos (by omega), w64 (n := (q : Int)) (by omega) (by omega), w64 (n := (d : Int) + 1) (by omega) (by omega)]
          rfl
        · have ih := ih (d + 1) (x ++ [(d : Int)]) y (by omega) (by omega) (by simp; omega) (by omega)
          simp only [sm, bk, if_pos hc, if_pos hm, if_neg hl]
          have e : x ++ ints (d :: sm n f (d + 1)) ++ (y ++ ints (bk n f (d + 1))).reverse = x ++ [(d : Int)] ++ ints (sm n f (d + 1)) ++ (y ++ ints (bk n f (d + 1))).reverse := by simp [ints]
          rw [e]
          refine Ev.step (fun k => ?_) ih
          simp only [impl_divisors.l0, sq_cast, tmod_nat, tdiv_nat]
          rw [w64 (n := ((d * d : Nat) : Int)) (by omega) (by omega), if_pos (by omega), if_neg (by omega), if_pos (by omega), if_pos (by omega)]
          simp only [Option.bind_some]
          rw [if_neg (by omega), w64 (n := (d : Int) + 1) (by omega) (by omega)]
          rfl
      · have ih := ih (d + 1) x y (by omega) (by omega) (by omega) (by omega)
        simp only [sm, bk, if_pos hc, if_neg hm]
        refine Ev.step (fun k => ?_) ih
        simp only [impl_divisors.l0, sq_cast, tmod_nat]
        rw [w64 (n := ((d * d : Nat) : Int)) (by omega) (by omega), if_pos (by omega), if_neg (by omega), if_neg (by omega), w64 (n := (d : Int) + 1) (by omega) (by omega)]
        rfl
    · have hr := reverse_ev y (by omega)
      simp only [sm, bk, if_neg hc, ints, List.map_nil, List.append_nil]
      refine Ev.step (f := fun k => (slices_Reverse_int_int.f k y).bind fun t => (if x.length + t.length < 17592186044416 then (some (x ++ t)) else (none))) (fun k => ?_) (Ev.bind hr (Ev.ite_pos (by rw [List.length_reverse]; omega) (Ev.now _)))
      simp only [impl_divisors.l0, sq_cast]
      rw [w64 (n := ((d * d : Nat) : Int)) (by omega) (by omega), if_neg (by omega)]
theorem impl_dv {n : Nat} (h1 : 1 ≤ n) (h2 : n ≤ 10000) : Ev (fun k => impl_divisors.f k (n : Int)) (ints (dv n)) := by
  unfold impl_divisors.f
  have h := impl_dvL h1 h2 101 1 [] [] (by omega) (by omega) (by simp) (by simp)
  have e : ints (dv n) = [] ++ ints (sm n 101 1) ++ ([] ++ ints (bk n 101 1)).reverse := by simp [dv, ints]
  rw [e]
  exact h

theorem impl_prm {n : Nat} (h1 : 1 ≤ n) (h2 : n ≤ 10000) : Ev (fun k => impl_PrimeOk.f k (n : Int)) (prm n) := by
  unfold impl_PrimeOk.f
  simp only [numberOk_eq, Option.bind_some, show (1 : Int) ≤ n ∧ (n : Int) ≤ 10000 from ⟨by omega, by omega⟩, and_self, decide_true, if_true]
  refine Ev.bind (impl_dv h1 h2) ?_
  rw [ints_length]
  refine Ev.const ?_
  unfold prm
  congr 1
  rw [Bool.eq_iff_iff]
  simp only [beq_iff_eq]
  omega
theorem impl_prm_no {a : Int} (h : ¬ (1 ≤ a ∧ a ≤ 10000)) : Ev (fun k => impl_PrimeOk.f k a) false := by
  unfold impl_PrimeOk.f
  simp only [numberOk_eq, Option.bind_some, h, decide_false]
  exact Ev.now _

theorem impl_pmL {n : Nat} (h2 : n ≤ 10000) : ∀ (f d : Nat) (x : List Int), d + f = n + 1 → 2 ≤ d → x.length < d →
    Ev (fun k => impl_primesUpTo.l0 k (n : Int) x (d : Int)) (x ++ ints (pmF d f)) := by
  intro f
  induction f with
  | zero =>
    intro d x hd h3 hx
    refine Ev.step (fun k => ?_) (Ev.now _)
    simp only [impl_primesUpTo.l0]
    rw [if_neg (by omega)]
    simp [pmF, ints]
  | succ f ih =>
    intro d x hd h3 hx
    have hp := impl_prm (n := d) (by omega) (by omega)
    rw [pmF_succ]
    cases hb : prm d with
    | true =>
      rw [hb] at hp
      have ih := ih (d + 1) (x ++ [(d : Int)]) (by omega) (by omega) (by simp; omega)
      rw [if_pos rfl, show x ++ ints (d :: pmF (d + 1) f) = x ++ [(d : Int)] ++ ints (pmF (d + 1) f) by simp [ints]]
      refine Ev.step (f := fun k => (impl_PrimeOk.f k (d : Int)).bind fun t131 => (if t131 = true then (if x.length < 17592186044416 then (impl_primesUpTo.l0 k (n : Int) (x ++ [(d : Int)]) (wrap64 ((d : Int) + 1))) else (none)) else (impl_primesUpTo.l0 k (n : Int) x (wrap64 ((d : Int) + 1))))) (fun k => ?_) (Ev.bind hp (Ev.ite_pos rfl (Ev.ite_pos (by omega) ?_)))
      · simp only [impl_primesUpTo.l0]
        rw [if_pos (by omega)]
      · rw [w64 (by omega) (by omega)]
        exact ih
    | false =>
      rw [hb] at hp
      have ih := ih (d + 1) x (by omega) (by omega) (by omega)
      rw [if_neg (by simp)]
      refine Ev.step (f := fun k => (impl_PrimeOk.f k (d : Int)).bind fun t131 => (if t131 = true then (if x.length < 17592186044416 then (impl_primesUpTo.l0 k (n : Int) (x ++ [(d : Int)]) (wrap64 ((d : Int) + 1))) else (none)) else (impl_primesUpTo.l0 k (n : Int) x (wrap64 ((d : Int) + 1))))) (fun k => ?_) (Ev.bind hp (Ev.ite_neg (by simp) ?_))
      · simp only [impl_primesUpTo.l0]
        rw [if_pos (by omega)]
      · rw [w64 (by omega) (by omega)]
        exact ih
theorem impl_pm {n : Nat} (h1 : 1 ≤ n) (h2 : n ≤ 10000) : Ev (fun k => impl_primesUpTo.f k (n : Int)) (ints (pm n)) := by
  unfold impl_primesUpTo.f
  have h := impl_pmL h2 (n - 1) 2 [] (by omega) (by omega) (by simp)
  rw [List.nil_append] at h
  exact h

theorem upToOk_eq (a : Int) : impl_upToOk.f a = some (decide (1 ≤ a ∧ a ≤ 1000)) := by
  unfold impl_upToOk.f
  by_cases h : a ≥ 1
  · rw [if_pos h]; simp [h]
  · rw [if_neg h]; congr 1; symm; simp; intro h2; omega

theorem l1In_eq (a b c : Int) : spec_l1In.f a b c = some (decide (b ≤ a ∧ a ≤ c)) := by
  unfold spec_l1In.f
  by_cases h : a ≥ b
  · rw [if_pos h]; simp [h]
  · rw [if_neg h]; congr 1; symm; simp; intro h2; omega

theorem ints_nth {l : List Nat} {i : Nat} {x : Nat} (h : l[i]? = some x) : rd (ints l) (i : Int) = (x : Int) := by
  rw [rd_ints, List.getD_eq_getElem?_getD, h]; rfl
theorem impl_nd1 (n : Nat) (l : List Nat) (hl : l.length ≤ 100) (hm : ∀ p ∈ l, 1 ≤ p) : ∀ (r : List Nat) (i : Nat), l.drop i = r → i ≤ l.length →
    Ev (fun k => impl_NotDivided_1.l0 k (n : Int) (ints l) (i : Int)) ((nd1 r n : Nat) : Int) := by
  intro r
  induction r with
  | nil =>
    intro i hd hi
    have : l.length ≤ i := List.drop_eq_nil_iff.1 hd
    refine Ev.step (fun k => ?_) (Ev.now _)
    simp only [impl_NotDivided_1.l0, ints_length]
    rw [if_neg (by omega)]
    rfl
  | cons x r ih =>
    intro i hd hi
    obtain ⟨hlt, hx, hr⟩ := drop_at hd
    have hxm := hm x (List.mem_of_getElem? hx)
    by_cases h0 : n % x = 0
    · have e : nd1 (x :: r) n = 0 := by unfold nd1; simp [h0]
      rw [e]
      refine Ev.step (fun k => ?_) (Ev.now _)
      simp only [impl_NotDivided_1.l0, ints_nth hx, ints_length, tmod_nat]
      rw [if_pos (by omega), if_pos (by omega), if_neg (by omega), if_pos (by omega)]
      rfl
    · have e : nd1 (x :: r) n = nd1 r n := by unfold nd1; simp [h0]
      rw [e]
      refine Ev.step (fun k => ?_) (ih (i + 1) hr hlt)
      simp only [impl_NotDivided_1.l0, ints_nth hx, ints_length, tmod_nat]
      rw [if_pos (by omega), if_pos (by omega), if_neg (by omega), if_neg (by omega), w64 (by omega) (by omega)]
      rfl
theorem impl_ndL (l : List Nat) (hl : l.length ≤ 100) (hm : ∀ p ∈ l, 1 ≤ p) {n : Nat} (h2 : n ≤ 1000) : ∀ (f d s : Nat), d + f = n + 1 → 1 ≤ d → s ≤ d →
    Ev (fun k => impl_NotDivided_s.l0 k (ints l) (n : Int) (s : Int) (d : Int)) ((s + ndF l f d : Nat) : Int) := by
  intro f
  induction f with
  | zero =>
    intro d s hd h3 h4
    refine Ev.step (fun k => ?_) (Ev.now _)
    simp only [impl_NotDivided_s.l0]
    rw [if_neg (by omega)]
    simp [ndF]
  | succ f ih =>
    intro d s hd h3 h4
    have hp := nd1_le l d
    have ih := ih (d + 1) (s + nd1 l d) (by omega) (by omega) (by omega)
    simp only [ndF]
    rw [← Nat.add_assoc]
    refine Ev.step (f := fun k => (impl_NotDivided_1.l0 k (d : Int) (ints l) 0).bind fun t => (impl_NotDivided_s.l0 k (ints l) (n : Int) (wrap64 ((s : Int) + t)) (wrap64 ((d : Int) + 1)))) (fun k => ?_) (Ev.bind (impl_nd1 d l hl hm l 0 rfl (Nat.zero_le _)) ?_)
    · simp only [impl_NotDivided_s.l0]
      rw [if_pos (by omega)]
    · rw [w64 (n := (s : Int) + ((nd1 l d : Nat) : Int)) (by omega) (by omega), w64 (by omega) (by omega)]
      exact ih
theorem impl_nd {n j : Nat} (h1 : 1 ≤ n) (h2 : n ≤ 1000) (hj : j ≤ 8) : Ev (fun k => impl_NotDivided.f k (n : Int) (j : Int)) ((nd (p8.take j) n : Nat) : Int) := by
  unfold impl_NotDivided.f
  simp only [upToOk_eq, Option.bind_some, show (1 : Int) ≤ n ∧ (n : Int) ≤ 1000 from ⟨by omega, by omega⟩, and_self, decide_true, if_true]
  refine Ev.ite_neg (by omega) (Ev.ite_neg (by omega) ?_)
  have hp := impl_pm (n := 24) (by omega) (by omega)
  rw [pm24] at hp
  have hlen : (ints (p8 ++ [23])).length = 9 := by rw [ints_length]; rfl
  refine Ev.bind hp (Ev.ite_pos (by rw [hlen]; omega) ?_)
  have et : (ints (p8 ++ [23])).take ((j : Int).toNat) = ints (p8.take j) := by
    rw [Int.toNat_natCast]
    unfold ints
    rw [← List.map_take, List.take_append_of_le_length (by show j ≤ 8; omega)]
  rw [et]
  have hl : (p8.take j).length ≤ 8 := by rw [List.length_take]; show min j 8 ≤ 8; omega
  have h := impl_ndL (p8.take j) (by omega) (fun p hp => by
    have hm := List.mem_of_mem_take hp
    simp only [p8, List.mem_cons, List.not_mem_nil, or_false] at hm
    omega) h2 n 1 0 (by omega) (by omega) (by omega)
  rw [Nat.zero_add] at h
  exact h
theorem impl_nd_no {a b : Int} (h : ¬ (1 ≤ a ∧ a ≤ 1000 ∧ 0 ≤ b ∧ b ≤ 8)) : Ev (fun k => impl_NotDivided.f k a b) (-1) := by
  unfold impl_NotDivided.f
  simp only [upToOk_eq, Option.bind_some]
  by_cases ha : 1 ≤ a ∧ a ≤ 1000
  · refine Ev.ite_pos (decide_eq_true ha) ?_
    by_cases hb : b < 0
    · exact Ev.ite_pos hb (Ev.now _)
    · exact Ev.ite_neg hb (Ev.ite_pos (by omega) (Ev.now _))
  · exact Ev.ite_neg (by simp [ha]) (Ev.now _)
theorem rd_p8 {j p : Nat} (h : p8[j]? = some p) : rd [2, 3, 5, 7, 11, 13, 17, 19] (j : Int) = (p : Int) := ints_nth (l := p8) h
theorem spec_left : ∀ (j : Nat), j ≤ 8 → ∀ (n : Nat), n ≤ 1000 → Ev (fun k => spec_l11Left.f k (n : Int) (j : Int)) ((nd (p8.take j) n : Nat) : Int) := by
  intro j
  induction j with
  | zero =>
    intro _ n hn
    rw [List.take_zero, nd_nil]
    refine Ev.step (f := fun k => spec_l11Left.j0 k (n : Int) ((0 : Nat) : Int) true) (fun k => ?_) (Ev.step (fun k => ?_) (Ev.now _))
    · simp only [spec_l11Left.f]
      rw [if_pos (by omega)]
    · simp only [spec_l11Left.j0, if_true]
  | succ j ih =>
    intro hj n hn
    by_cases h0 : n = 0
    · subst h0
      refine Ev.step (f := fun k => spec_l11Left.j0 k ((0 : Nat) : Int) ((j + 1 : Nat) : Int) true) (fun k => ?_) (Ev.step (fun k => ?_) (Ev.now _))
      · simp only [spec_l11Left.f]
        rw [if_neg (by omega)]
        rfl
      · simp only [spec_l11Left.j0, if_true]
        rfl
    · obtain ⟨p, hp, hp1, hp2, htk, hco⟩ := p8_step j (by omega)
      have hs := nd_snoc hp1 hco n
      rw [← htk] at hs
      have hle := nd_le (p8.take j) n
      have hq : n / p ≤ n := Nat.div_le_self _ _
      have hz : ((n : Int) == 0) = false := by simpa using h0
      have e1 : wrap64 (((j + 1 : Nat) : Int) - 1) = (j : Int) := by rw [w64 (by omega) (by omega)]; omega
      have e2 : wrap64 (((n / p : Nat) : Int)) = ((n / p : Nat) : Int) := by
        generalize n / p = q at *
        exact w64 (by omega) (by omega)
      refine Ev.step (f := fun k => spec_l11Left.j0 k (n : Int) ((j + 1 : Nat) : Int) false) (fun k => ?_) (Ev.step (f := fun k => (spec_l11Left.f k (n : Int) (j : Int)).bind fun t104 => (if 0 ≤ (j : Int) then (if (j : Int) < 8 then (if (p : Int) = 0 then (none) else ((spec_l11Left.f k ((n / p : Nat) : Int) (j : Int)).bind fun t106 => (some (wrap64 (t104 - t106))))) else (none)) else (none))) (fun k => ?_) ?_)
      · simp only [spec_l11Left.f]
        rw [if_neg (by omega), hz]
      · simp only [spec_l11Left.j0, Bool.false_eq_true, if_false, Option.bind_some, e1, rd_p8 hp, tdiv_nat, e2]
        rfl
      · refine Ev.bind (ih (by omega) n hn) (Ev.ite_pos (by omega) (Ev.ite_pos (by omega) (Ev.ite_neg (by omega) (Ev.bind (ih (by omega) (n / p) (by omega)) (Ev.const ?_)))))
        rw [w64 (by omega) (by omega)]
        congr 1
        omega
theorem spec_nd {n j : Nat} (h1 : 1 ≤ n) (h2 : n ≤ 1000) (hj : j ≤ 8) : Ev (fun k => spec_NotDivided.f k (n : Int) (j : Int)) ((nd (p8.take j) n : Nat) : Int) := by
  unfold spec_NotDivided.f
  simp only [l1In_eq, Option.bind_some, show (1 : Int) ≤ n ∧ (n : Int) ≤ 1000 from ⟨by omega, by omega⟩, show (0 : Int) ≤ j ∧ (j : Int) ≤ 8 from ⟨by omega, by omega⟩, and_self, decide_true, if_true]
  exact Ev.bind (spec_left j hj n h2) (Ev.now _)
theorem spec_nd_no {a b : Int} (h : ¬ (1 ≤ a ∧ a ≤ 1000 ∧ 0 ≤ b ∧ b ≤ 8)) : Ev (fun k => spec_NotDivided.f k a b) (-1) := by
  unfold spec_NotDivided.f
  simp only [l1In_eq, Option.bind_some]
  by_cases ha : 1 ≤ a ∧ a ≤ 1000
  · exact Ev.ite_pos (decide_eq_true ha) (Ev.ite_neg (by simp; omega) (Ev.now _))
  · exact Ev.ite_neg (by simp [ha]) (Ev.now _)


theorem FnExactNotDivided : laws_FnExactNotDivided.Pure := by
  intro a b _ _
  refine Ev.rounds ?_
  by_cases hr : 1 ≤ a ∧ a ≤ 1000 ∧ 0 ≤ b ∧ b ≤ 8
  · obtain ⟨n, rfl⟩ : ∃ n : Nat, a = n := ⟨a.toNat, by omega⟩
    obtain ⟨j, rfl⟩ : ∃ n : Nat, b = n := ⟨b.toNat, by omega⟩
    exact Ev.bind (spec_nd (by omega) (by omega) (by omega)) (Ev.bind (impl_nd (by omega) (by omega) (by omega)) (Ev.ite_pos rfl (Ev.now _)))
  · exact Ev.bind (spec_nd_no hr) (Ev.bind (impl_nd_no hr) (Ev.ite_pos rfl (Ev.now _)))

end Go.Proofs.Ytegdgaldbjdcmaa.Pure
