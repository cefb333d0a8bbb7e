/-
  For every whole number the program's ByDivisors and the reference's answer the same.
-/
import Derived.Test.YtegdgaldbjdcmaaPFnExactByDivisorsx2
import Derived.Test.YtegdgaldbjdcmaaLib
import Derived.Test.YtegdgaldbjdcmaaLibDiv
import Derived.Test.YtegdgaldbjdcmaaLibLsg
namespace Go.Proofs.Ytegdgaldbjdcmaa.Pure
open Go.RowKit Go.Proofs.Ytegdgaldbjdcmaa.PFnExactByDivisors Go.Proofs.YtegdgaldbjdcmaaW.PrintWords Go.Proofs.YtegdgaldbjdcmaaW.PrintLast Go.Proofs.Ytegdgaldbjdcmaa.Lib
set_option linter.unusedVariables false
set_option linter.unusedSimpArgs false

theorem numberOk_eq (a : Int) : impl_numberOk.f a = some (decide (1 ≤ a ∧ a ≤ 10000)) := by
  unfold impl_numberOk.f
  by_cases h : a ≥ 1
  · rw [if_pos h]; simp [h]
  · rw [if_neg h]; congr 1; symm; simp; intro h2; omega

theorem l1In_eq (a b c : Int) : spec_l1In.f a b c = some (decide (b ≤ a ∧ a ≤ c)) := by
  unfold spec_l1In.f
  by_cases h : a ≥ b
  · rw [if_pos h]; simp [h]
  · rw [if_neg h]; congr 1; symm; simp; intro h2; omega

theorem reverse_mid : ∀ (m : Nat) (A M B : List Int), M.length ≤ m → (A ++ M ++ B).length ≤ 1000000 →
    Ev (fun k => slices_Reverse_int_int.l0 k (A ++ M ++ B) (A.length : Int) ((A.length : Int) + (M.length : Int) - 1)) (A ++ M.reverse ++ B) := by
  intro m
  induction m with
  | zero =>
    intro A M B hm hl
    have e : M = [] := List.length_eq_zero_iff.1 (by omega)
    subst e
    refine Ev.step (fun k => ?_) (Ev.now _)
    simp only [slices_Reverse_int_int.l0]
    rw [if_neg (by simp; omega)]
    rfl
  | succ m ih =>
    intro A M B hm hl
    match M, hm, hl with
    | [], _, _ =>
      refine Ev.step (fun k => ?_) (Ev.now _)
      simp only [slices_Reverse_int_int.l0]
      rw [if_neg (by simp; omega)]
      rfl
    | x :: M, hm, hl =>
      rcases List.eq_nil_or_concat M with rfl | ⟨M', y, rfl⟩
      · refine Ev.step (fun k => ?_) (Ev.now _)
        simp only [slices_Reverse_int_int.l0]
        rw [if_neg (by simp)]
        rfl
      · have hlen : A.length + (M'.length + 2) + B.length ≤ 1000000 := by
          simp at hl ⊢; omega
        have ih := ih (A ++ [y]) M' (x :: B) (by simp at hm; omega) (by simp; omega)
        have e1 : A ++ [y] ++ M' ++ x :: B = A ++ (y :: M' ++ x :: B) := by simp
        rw [e1] at ih
        have er : A ++ [y] ++ M'.reverse ++ x :: B = A ++ (x :: M'.concat y).reverse ++ B := by simp
        rw [er] at ih
        have ei : ((A ++ [y]).length : Int) = (A.length : Int) + 1 := by simp
        rw [ei] at ih
        have ej : (A.length : Int) + 1 + (M'.length : Int) - 1 = (A.length : Int) + (M'.length : Int) := by omega
        rw [ej] at ih
        refine Ev.step (fun k => ?_) ih
        have e0 : A ++ x :: M'.concat y ++ B = A ++ (x :: (M' ++ y :: B)) := by simp
        have ej2 : (A.length : Int) + ((x :: M'.concat y).length : Int) - 1 = ((A.length + (M'.length + 1) : Nat) : Int) := by simp; omega
        simp only [slices_Reverse_int_int.l0]
        rw [e0, ej2]
        have r1 : rd (A ++ (x :: (M' ++ y :: B))) ((A.length + (M'.length + 1) : Nat) : Int) = y := by
          unfold rd
          rw [Int.toNat_natCast, List.getD_eq_getElem?_getD, List.getElem?_append_right (by omega)]
          simp
        have r2 : rd (A ++ (x :: (M' ++ y :: B))) (A.length : Int) = x := by
          unfold rd
          rw [Int.toNat_natCast, List.getD_eq_getElem?_getD, List.getElem?_append_right (by omega)]
          simp
        have hL : (A ++ (x :: (M' ++ y :: B))).length = A.length + (M'.length + 2) + B.length := by simp; omega
        rw [if_pos (by omega), if_pos (by omega), if_pos (by omega), if_pos (by omega), if_pos (by omega), r1, r2, w64 (by omega) (by omega), w64 (by omega) (by omega)]
        have s1 : ((A ++ (x :: (M' ++ y :: B))).set ((A.length : Nat) : Int).toNat y).set ((A.length + (M'.length + 1) : Nat) : Int).toNat x = A ++ (y :: M' ++ x :: B) := by
          rw [Int.toNat_natCast, Int.toNat_natCast, List.set_append_right _ _ (Nat.le_refl _), List.set_append_right _ _ (by omega)]
          simp
        rw [s1]
        congr 1
        omega
theorem reverse_ev (l : List Int) (hl : l.length ≤ 1000000) : Ev (fun k => slices_Reverse_int_int.f k l) l.reverse := by
  unfold slices_Reverse_int_int.f
  have h := reverse_mid l.length [] l [] (Nat.le_refl _) (by simpa using hl)
  simp only [List.nil_append, List.append_nil, List.length_nil] at h
  rw [w64 (by omega) (by omega)]
  refine Ev.congr (fun k => ?_) h
  congr 1
  omega

theorem sq_cast (a : Nat) : (a : Int) * (a : Int) = ((a * a : Nat) : Int) := by simp
theorem sq_le {a m : Nat} (h : a ≤ m) : a * a ≤ m * m := Nat.mul_le_mul h h
theorem sq_le' {a m : Nat} (h : a ≤ m) : a * a ≤ m * m := Nat.mul_le_mul h h

theorem impl_dvL {n : Nat} (h1 : 1 ≤ n) (h2 : n ≤ 10000) : ∀ (f d : Nat) (x y : List Int), d + f = 102 → 1 ≤ d → x.length < d → y.length < d →
    Ev (fun k => impl_divisors.l0 k (n : Int) x y (d : Int)) (x ++ ints (sm n f d) ++ (y ++ ints (bk n f d)).reverse) := by
  intro f
  induction f with
  | zero =>
    intro d x y hd hd1 hx hy
    have e : d = 102 := by omega
    subst e
    have hr := reverse_ev y (by omega)
    simp only [sm, bk, ints, List.map_nil, List.append_nil]
    refine Ev.step (f := fun k => (slices_Reverse_int_int.f k y).bind fun t => (if x.length + t.length < 17592186044416 then (some (x ++ t)) else (none))) (fun k => ?_) (Ev.bind hr (Ev.ite_pos (by rw [List.length_reverse]; omega) (Ev.now _)))
    simp only [impl_divisors.l0, sq_cast]
    rw [w64 (n := ((102 * 102 : Nat) : Int)) (by omega) (by omega), if_neg (by omega)]
  | succ f ih =>
    intro d x y hd hd1 hx hy
    have hdd := sq_le (show d ≤ 102 by omega)
    by_cases hc : d * d ≤ n
    · by_cases hm : n % d = 0
      · have hq : n / d ≤ n := Nat.div_le_self _ _
        by_cases hl : d * d < n
        · have ih := ih (d + 1) (x ++ [(d : Int)]) (y ++ [((n / d : Nat) : Int)]) (by omega) (by omega) (by simp; omega) (by simp; omega)
          simp only [sm, bk, if_pos hc, if_pos hm, if_pos hl]
          have e : x ++ ints (d :: sm n f (d + 1)) ++ (y ++ ints (n / d :: bk n f (d + 1))).reverse = x ++ [(d : Int)] ++ ints (sm n f (d + 1)) ++ (y ++ [((n / d : Nat) : Int)] ++ ints (bk n f (d + 1))).reverse := by simp [ints]
          rw [e]
          refine Ev.step (fun k => ?_) ih
          simp only [impl_divisors.l0, sq_cast, tmod_nat, tdiv_nat]
          rw [w64 (n := ((d * d : Nat) : Int)) (by omega) (by omega), if_pos (by omega), if_neg (by omega), if_pos (by omega), if_pos (by omega)]
          simp only [Option.bind_some]
          generalize n / d = q at *
          rw [if_pos (by omega), if_pos (by omega), w64 (n := (q : Int)) (by omega) (by omega), w64 (n := (d : Int) + 1) (by omega) (by omega)]
          rfl
        · have ih := ih (d + 1) (x ++ [(d : Int)]) y (by omega) (by omega) (by simp; omega) (by omega)
          simp only [sm, bk, if_pos hc, if_pos hm, if_neg hl]
          have e : x ++ ints (d :: sm n f (d + 1)) ++ (y ++ ints (bk n f (d + 1))).reverse = x ++ [(d : Int)] ++ ints (sm n f (d + 1)) ++ (y ++ ints (bk n f (d + 1))).reverse := by simp [ints]
          rw [e]
          refine Ev.step (fun k => ?_) ih
          simp only [impl_divisors.l0, sq_cast, tmod_nat, tdiv_nat]
          rw [w64 (n := ((d * d : Nat) : Int)) (by omega) (by omega), if_pos (by omega), if_neg (by omega), if_pos (by omega), if_pos (by omega)]
          simp only [Option.bind_some]
          rw [if_neg (by omega), w64 (n := (d : Int) + 1) (by omega) (by omega)]
          rfl
      · have ih := ih (d + 1) x y (by omega) (by omega) (by omega) (by omega)
        simp only [sm, bk, if_pos hc, if_neg hm]
        refine Ev.step (fun k => ?_) ih
        simp only [impl_divisors.l0, sq_cast, tmod_nat]
        rw [w64 (n := ((d * d : Nat) : Int)) (by omega) (by omega), if_pos (by omega), if_neg (by omega), if_neg (by omega), w64 (n := (d : Int) + 1) (by omega) (by omega)]
        rfl
    · have hr := reverse_ev y (by omega)
      simp only [sm, bk, if_neg hc, ints, List.map_nil, List.append_nil]
      refine Ev.step (f := fun k => (slices_Reverse_int_int.f k y).bind fun t => (if x.length + t.length < 17592186044416 then (some (x ++ t)) else (none))) (fun k => ?_) (Ev.bind hr (Ev.ite_pos (by rw [List.length_reverse]; omega) (Ev.now _)))
      simp only [impl_divisors.l0, sq_cast]
      rw [w64 (n := ((d * d : Nat) : Int)) (by omega) (by omega), if_neg (by omega)]
theorem impl_dv {n : Nat} (h1 : 1 ≤ n) (h2 : n ≤ 10000) : Ev (fun k => impl_divisors.f k (n : Int)) (ints (dv n)) := by
  unfold impl_divisors.f
  have h := impl_dvL h1 h2 101 1 [] [] (by omega) (by omega) (by simp) (by simp)
  have e : ints (dv n) = [] ++ ints (sm n 101 1) ++ ([] ++ ints (bk n 101 1)).reverse := by simp [dv, ints]
  rw [e]
  exact h

theorem spec_dvL {n : Nat} (h2 : n ≤ 10000) : ∀ (f d : Nat) (x : List Int), d + f = n + 1 → 1 ≤ d → x.length < d →
    Ev (fun k => spec_DivisorsOf.l0 k (n : Int) x (d : Int)) (x ++ ints (dvF n d f)) := by
  intro f
  induction f with
  | zero =>
    intro d x hd hd1 hx
    simp only [dvF, List.range'_zero, List.filter_nil, ints, List.map_nil, List.append_nil]
    refine Ev.step (f := fun k => spec_DivisorsOf.j1 k (n : Int) x (d : Int) false) (fun k => ?_) (Ev.step (fun k => ?_) (Ev.now _))
    · simp only [spec_DivisorsOf.l0]
      rw [if_neg (by omega)]
    · simp only [spec_DivisorsOf.j1]
      rw [if_neg (by simp)]
  | succ f ih =>
    intro d x hd hd1 hx
    rw [dvF_succ]
    by_cases hm : n % d = 0
    · have ih := ih (d + 1) (x ++ [(d : Int)]) (by omega) (by omega) (by simp; omega)
      rw [if_pos hm, show x ++ ints (d :: dvF n (d + 1) f) = x ++ [(d : Int)] ++ ints (dvF n (d + 1) f) by simp [ints]]
      refine Ev.step (f := fun k => spec_DivisorsOf.j1 k (n : Int) x (d : Int) true) (fun k => ?_) (Ev.step (fun k => ?_) ih)
      · simp only [spec_DivisorsOf.l0]
        rw [if_pos (by omega), decide_eq_true (by omega)]
      · simp only [spec_DivisorsOf.j1, if_true, tmod_nat]
        rw [if_neg (by omega), if_pos (by omega), if_pos (by omega), w64 (by omega) (by omega)]
        rfl
    · have ih := ih (d + 1) x (by omega) (by omega) (by omega)
      rw [if_neg hm]
      refine Ev.step (f := fun k => spec_DivisorsOf.j1 k (n : Int) x (d : Int) true) (fun k => ?_) (Ev.step (fun k => ?_) ih)
      · simp only [spec_DivisorsOf.l0]
        rw [if_pos (by omega), decide_eq_true (by omega)]
      · simp only [spec_DivisorsOf.j1, if_true, tmod_nat]
        rw [if_neg (by omega), if_neg (by omega), w64 (by omega) (by omega)]
        rfl
theorem spec_dv {n : Nat} (h1 : 1 ≤ n) (h2 : n ≤ 10000) : Ev (fun k => spec_DivisorsOf.f k (n : Int)) (ints (dv n)) := by
  unfold spec_DivisorsOf.f
  have h := spec_dvL h2 n 1 [] (by omega) (by omega) (by simp)
  rw [List.nil_append] at h
  rw [dv_eq h1 h2]
  exact h
theorem spec_dv_no {a : Int} (h : ¬ (1 ≤ a ∧ a ≤ 10000)) : Ev (fun k => spec_DivisorsOf.f k a) [] := by
  unfold spec_DivisorsOf.f
  refine Ev.step (f := fun k => spec_DivisorsOf.j1 k a [] 1 false) (fun k => ?_) (Ev.step (fun k => ?_) (Ev.now _))
  · simp only [spec_DivisorsOf.l0]
    by_cases h1 : 1 ≤ a
    · rw [if_pos h1, decide_eq_false (by omega)]
    · rw [if_neg h1]
  · simp only [spec_DivisorsOf.j1]
    rw [if_neg (by simp)]

theorem impl_lsg (a : Int) (h : 0 ≤ a) : impl_leavesSign.f a = some (lsg a) := by
  unfold impl_leavesSign.f lsg
  rw [tmod_pos h]
  split
  · rfl
  · split <;> rfl
theorem spec_Lsg (a : Int) : spec_LeavesSign.f a = some (if 1 ≤ a ∧ a ≤ 10000 then lsg a else 0) := by
  unfold spec_LeavesSign.f
  rw [l1In_eq]
  simp only [Option.bind_some]
  by_cases hr : 1 ≤ a ∧ a ≤ 10000
  · simp only [hr, decide_true, if_true, and_self]
    rw [tmod_pos (by omega), tmod_pos (by omega)]
    unfold lsg
    have h4 : a % 4 = 0 ∨ a % 4 = 1 ∨ a % 4 = 2 ∨ a % 4 = 3 := by omega
    rcases h4 with h4 | h4 | h4 | h4
    · rw [if_pos (by omega), if_neg (by omega), if_neg (by omega)]
    · rw [if_neg (by omega), if_pos (by omega), h4, w64 (by omega) (by omega)]; rfl
    · rw [if_pos (by omega), if_neg (by omega), if_neg (by omega)]
    · rw [if_neg (by omega), if_neg (by omega), if_pos (by omega), h4, w64 (by omega) (by omega)]; rfl
  · simp [hr]


theorem impl_byL (l : List Nat) (hl : l.length ≤ 20000) : ∀ (r : List Nat) (i : Nat) (s : Int), l.drop i = r → i ≤ l.length → -(4 * (i : Int)) ≤ s → s ≤ 4 * (i : Int) →
    Ev (fun k => impl_ByDivisors.l0 k s (ints l) (l.length : Int) (i : Int)) (s + 4 * bySum r) := by
  intro r
  induction r with
  | nil =>
    intro i s hd hi h1 h2
    have : l.length ≤ i := List.drop_eq_nil_iff.1 hd
    refine Ev.step (fun k => ?_) (Ev.now _)
    simp only [impl_ByDivisors.l0]
    rw [if_neg (by omega)]
    simp [bySum]
  | cons x r ih =>
    intro i s hd hi h1 h2
    obtain ⟨hlt, hx, hr⟩ := drop_at hd
    have hg := lsg_rng (x : Int)
    have ih := ih (i + 1) (s + 4 * lsg (x : Int)) hr hlt (by omega) (by omega)
    have e : s + 4 * bySum (x :: r) = s + 4 * lsg (x : Int) + 4 * bySum r := by rw [bySum_cons]; omega
    rw [e]
    refine Ev.step (fun k => ?_) ih
    simp only [impl_ByDivisors.l0, ints_at hx, ints_length]
    rw [if_pos (by omega), if_pos (by omega), if_pos (by omega), impl_lsg _ (by omega)]
    simp only [Option.bind_some]
    rw [w64 (n := 4 * lsg (x : Int)) (by omega) (by omega), w64 (n := s + 4 * lsg (x : Int)) (by omega) (by omega), w64 (by omega) (by omega)]
    rfl
theorem spec_byL (l : List Nat) (hl : l.length ≤ 20000) (hm : ∀ x ∈ l, 1 ≤ x ∧ x ≤ 10000) : ∀ (r : List Nat) (i : Nat) (s : Int), l.drop i = r → i ≤ l.length → -(i : Int) ≤ s → s ≤ (i : Int) →
    Ev (fun k => spec_ByDivisors.l0 k s (ints l) (i : Int)) (4 * (s + bySum r)) := by
  intro r
  induction r with
  | nil =>
    intro i s hd hi h1 h2
    have : l.length ≤ i := List.drop_eq_nil_iff.1 hd
    refine Ev.step (fun k => ?_) (Ev.now _)
    simp only [spec_ByDivisors.l0, ints_length]
    rw [if_neg (by omega), w64 (by omega) (by omega)]
    simp [bySum]
  | cons x r ih =>
    intro i s hd hi h1 h2
    obtain ⟨hlt, hx, hr⟩ := drop_at hd
    have hg := lsg_rng (x : Int)
    have hxm := hm x (List.mem_of_getElem? hx)
    have ih := ih (i + 1) (s + lsg (x : Int)) hr hlt (by omega) (by omega)
    have e : 4 * (s + bySum (x :: r)) = 4 * (s + lsg (x : Int) + bySum r) := by rw [bySum_cons]; omega
    rw [e]
    refine Ev.step (fun k => ?_) ih
    simp only [spec_ByDivisors.l0, ints_at hx, ints_length, spec_Lsg]
    rw [if_pos (by omega), if_pos (by omega)]
    simp only [Option.bind_some]
    rw [if_pos (show (1 : Int) ≤ x ∧ (x : Int) ≤ 10000 by omega), w64 (n := s + lsg (x : Int)) (by omega) (by omega), w64 (by omega) (by omega)]
    rfl
theorem impl_by {n : Nat} (h1 : 1 ≤ n) (h2 : n ≤ 10000) : Ev (fun k => impl_ByDivisors.f k (n : Int)) (byD n) := by
  unfold impl_ByDivisors.f
  simp only [numberOk_eq, Option.bind_some, show (1 : Int) ≤ n ∧ (n : Int) ≤ 10000 from ⟨by omega, by omega⟩, and_self, decide_true, if_true]
  have hl := dv_len h1 h2
  refine Ev.bind (impl_dv h1 h2) ?_
  have h := impl_byL (dv n) (by omega) (dv n) 0 0 rfl (by omega) (by omega) (by omega)
  rw [Int.zero_add] at h
  rw [ints_length]
  exact h
theorem impl_by_no {a : Int} (h : ¬ (1 ≤ a ∧ a ≤ 10000)) : Ev (fun k => impl_ByDivisors.f k a) (-1) := by
  unfold impl_ByDivisors.f
  simp only [numberOk_eq, Option.bind_some, h, decide_false]
  exact Ev.now _
theorem spec_by {n : Nat} (h1 : 1 ≤ n) (h2 : n ≤ 10000) : Ev (fun k => spec_ByDivisors.f k (n : Int)) (byD n) := by
  unfold spec_ByDivisors.f
  simp only [l1In_eq, Option.bind_some, show (1 : Int) ≤ n ∧ (n : Int) ≤ 10000 from ⟨by omega, by omega⟩, and_self, decide_true, if_true]
  have hl := dv_len h1 h2
  refine Ev.bind (spec_dv h1 h2) ?_
  have h := spec_byL (dv n) (by omega) (fun x hx => by rw [dv_eq h1 h2] at hx; have := mem_dvs.1 hx; omega) (dv n) 0 0 rfl (by omega) (by omega) (by omega)
  rw [Int.zero_add] at h
  exact h
theorem spec_by_no {a : Int} (h : ¬ (1 ≤ a ∧ a ≤ 10000)) : Ev (fun k => spec_ByDivisors.f k a) (-1) := by
  unfold spec_ByDivisors.f
  simp only [l1In_eq, Option.bind_some, h, decide_false]
  exact Ev.now _

theorem FnExactByDivisors : laws_FnExactByDivisors.Pure := by
  intro a h
  refine Ev.rounds ?_
  by_cases hr : 1 ≤ a ∧ a ≤ 10000
  · obtain ⟨n, rfl⟩ : ∃ n : Nat, a = n := ⟨a.toNat, by omega⟩
    refine Ev.bind (spec_by (by omega) (by omega)) (Ev.bind (impl_by (by omega) (by omega)) ?_)
    simp only [if_true]
    exact Ev.now _
  · refine Ev.bind (spec_by_no hr) (Ev.bind (impl_by_no hr) ?_)
    simp only [if_true]
    exact Ev.now _

end Go.Proofs.Ytegdgaldbjdcmaa.Pure
