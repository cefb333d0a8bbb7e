/-
  What is left, by its sign and by how many are apart, tells the sum over common divisors; and the program and the reference agree.
-/
import Derived.Test.YtgkgpmnaflaaeaaPFnByApartx6
import Derived.Test.YtgkgpmnaflaaeaaLib
import Derived.Test.YtgkgpmnaflaaeaaLibGcd
import Derived.Test.YtgkgpmnaflaaeaaLibDiv
import Derived.Test.YtgkgpmnaflaaeaaLibFac
import Derived.Test.YtgkgpmnaflaaeaaLibMul
import Derived.Test.YtgkgpmnaflaaeaaLibDraw
import Derived.Test.YtgkgpmnaflaaeaaLibBy
namespace Go.Proofs.Ytgkgpmnaflaaeaa.Pure
open Go.RowKit Go.Proofs.Ytgkgpmnaflaaeaa.PFnByApart Go.Proofs.YtgkgpmnaflaaeaaW.PrintWords Go.Proofs.YtgkgpmnaflaaeaaW.PrintLast Go.Proofs.YtgkgpmnaflaaeaaW.PrintMore Go.Proofs.Ytgkgpmnaflaaeaa.Lib
set_option linter.unusedVariables false
set_option linter.unusedSimpArgs false

theorem impl_gcdL : ∀ (m b a : Nat), b ≤ m → Ev (fun k => impl_gcd.l0 k (a : Int) (b : Int)) ((Nat.gcd a b : Nat) : Int) := by
  intro m
  induction m with
  | zero =>
    intro b a hb
    have e : b = 0 := by omega
    subst e
    rw [Nat.gcd_zero_right]
    refine Ev.step (fun k => ?_) (Ev.now _)
    simp only [impl_gcd.l0]
    rw [if_pos (by omega)]
  | succ m ih =>
    intro b a hb
    by_cases h0 : b = 0
    · subst h0
      rw [Nat.gcd_zero_right]
      refine Ev.step (fun k => ?_) (Ev.now _)
      simp only [impl_gcd.l0]
      rw [if_pos (by omega)]
    · have hlt : a % b < b := Nat.mod_lt _ (by omega)
      have h := ih (a % b) b (by omega)
      rw [gcd_step] at h
      refine Ev.step (fun k => ?_) h
      simp only [impl_gcd.l0, tmod_nat]
      rw [if_neg (by omega)]
theorem impl_gcd_ev (a b : Nat) : Ev (fun k => impl_gcd.f k (a : Int) (b : Int)) ((Nat.gcd a b : Nat) : Int) := by
  unfold impl_gcd.f
  exact impl_gcdL b b a (Nat.le_refl _)

theorem reverse_mid : ∀ (m : Nat) (A M B : List Int), M.length ≤ m → (A ++ M ++ B).length ≤ 1000000 →
    Ev (fun k => slices_Reverse_int_int.l0 k (A ++ M ++ B) (A.length : Int) ((A.length : Int) + (M.length : Int) - 1)) (A ++ M.reverse ++ B) := by
  intro m
  induction m with
  | zero =>
    intro A M B hm hl
    have e : M = [] := List.length_eq_zero_iff.1 (by omega)
    subst e
    refine Ev.step (fun k => ?_) (Ev.now _)
    simp only [slices_Reverse_int_int.l0]
    rw [if_neg (by simp; omega)]
    rfl
  | succ m ih =>
    intro A M B hm hl
    match M, hm, hl with
    | [], _, _ =>
      refine Ev.step (fun k => ?_) (Ev.now _)
      simp only [slices_Reverse_int_int.l0]
      rw [if_neg (by simp; omega)]
      rfl
    | x :: M, hm, hl =>
      rcases List.eq_nil_or_concat M with rfl | ⟨M', y, rfl⟩
      · refine Ev.step (fun k => ?_) (Ev.now _)
        simp only [slices_Reverse_int_int.l0]
        rw [if_neg (by simp)]
        rfl
      · have hlen : A.length + (M'.length + 2) + B.length ≤ 1000000 := by
          simp at hl ⊢; omega
        have ih := ih (A ++ [y]) M' (x :: B) (by simp at hm; omega) (by simp; omega)
        have e1 : A ++ [y] ++ M' ++ x :: B = A ++ (y :: M' ++ x :: B) := by simp
        rw [e1] at ih
        have er : A ++ [y] ++ M'.reverse ++ x :: B = A ++ (x :: M'.concat y).reverse ++ B := by simp
        rw [er] at ih
        have ei : ((A ++ [y]).length : Int) = (A.length : Int) + 1 := by simp
        rw [ei] at ih
        have ej : (A.length : Int) + 1 + (M'.length : Int) - 1 = (A.length : Int) + (M'.length : Int) := by omega
        rw [ej] at ih
        refine Ev.step (fun k => ?_) ih
        have e0 : A ++ x :: M'.concat y ++ B = A ++ (x :: (M' ++ y :: B)) := by simp
        have ej2 : (A.length : Int) + ((x :: M'.concat y).length : Int) - 1 = ((A.length + (M'.length + 1) : Nat) : Int) := by simp; omega
        simp only [slices_Reverse_int_int.l0]
        rw [e0, ej2]
        have r1 : rd (A ++ (x :: (M' ++ y :: B))) ((A.length + (M'.length + 1) : Nat) : Int) = y := by
          unfold rd
          rw [Int.toNat_natCast, List.getD_eq_getElem?_getD, List.getElem?_append_right (by omega)]
          simp
        have r2 : rd (A ++ (x :: (M' ++ y :: B))) (A.length : Int) = x := by
          unfold rd
          rw [Int.toNat_natCast, List.getD_eq_getElem?_getD, List.getElem?_append_right (by omega)]
          simp
        have hL : (A ++ (x :: (M' ++ y :: B))).length = A.length + (M'.length + 2) + B.length := by simp; omega
        rw [if_pos (by omega), if_pos (by omega), if_pos (by omega), if_pos (by omega), if_pos (by omega), r1, r2, w64 (by omega) (by omega), w64 (by omega) (by omega)]
        have s1 : ((A ++ (x :: (M' ++ y :: B))).set ((A.length : Nat) : Int).toNat y).set ((A.length + (M'.length + 1) : Nat) : Int).toNat x = A ++ (y :: M' ++ x :: B) := by
          rw [Int.toNat_natCast, Int.toNat_natCast, List.set_append_right _ _ (Nat.le_refl _), List.set_append_right _ _ (by omega)]
          simp
        rw [s1]
        congr 1
        omega
theorem reverse_ev (l : List Int) (hl : l.length ≤ 1000000) : Ev (fun k => slices_Reverse_int_int.f k l) l.reverse := by
  unfold slices_Reverse_int_int.f
  have h := reverse_mid l.length [] l [] (Nat.le_refl _) (by simpa using hl)
  simp only [List.nil_append, List.append_nil, List.length_nil] at h
  rw [w64 (by omega) (by omega)]
  refine Ev.congr (fun k => ?_) h
  congr 1
  omega

theorem sq_cast (a : Nat) : (a : Int) * (a : Int) = ((a * a : Nat) : Int) := by simp
theorem sq_le {a m : Nat} (h : a ≤ m) : a * a ≤ m * m := Nat.mul_le_mul h h
theorem sq_le' {a m : Nat} (h : a ≤ m) : a * a ≤ m * m := Nat.mul_le_mul h h

theorem impl_dvL {n : Nat} (h1 : 1 ≤ n) (h2 : n ≤ 10000) : ∀ (f d : Nat) (x y : List Int), d + f = 102 → 1 ≤ d → x.length < d → y.length < d →
    Ev (fun k => impl_divisors.l0 k (n : Int) x y (d : Int)) (x ++ ints (sm n f d) ++ (y ++ ints (bk n f d)).reverse) := by
  intro f
  induction f with
  | zero =>
    intro d x y hd hd1 hx hy
    have e : d = 102 := by omega
    subst e
    have hr := reverse_ev y (by omega)
    simp only [sm, bk, ints, List.map_nil, List.append_nil]
    refine Ev.step (f := fun k => (slices_Reverse_int_int.f k y).bind fun t => (if x.length + t.length < 17592186044416 then (some (x ++ t)) else (none))) (fun k => ?_) (Ev.bind hr (Ev.ite_pos (by rw [List.length_reverse]; omega) (Ev.now _)))
    simp only [impl_divisors.l0, sq_cast]
    rw [w64 (n := ((102 * 102 : Nat) : Int)) (by omega) (by omega), if_neg (by omega)]
  | succ f ih =>
    intro d x y hd hd1 hx hy
    have hdd := sq_le (show d ≤ 102 by omega)
    by_cases hc : d * d ≤ n
    · by_cases hm : n % d = 0
      · have hq : n / d ≤ n := Nat.div_le_self _ _
        by_cases hl : d * d < n
        · have ih := ih (d + 1) (x ++ [(d : Int)]) (y ++ [((n / d : Nat) : Int)]) (by omega) (by omega) (by simp; omega) (by simp; omega)
          simp only [sm, bk, if_pos hc, if_pos hm, if_pos hl]
          have e : x ++ ints (d :: sm n f (d + 1)) ++ (y ++ ints (n / d :: bk n f (d + 1))).reverse = x ++ [(d : Int)] ++ ints (sm n f (d + 1)) ++ (y ++ [((n / d : Nat) : Int)] ++ ints (bk n f (d + 1))).reverse := by simp [ints]
          rw [e]
          refine Ev.step (fun k => ?_) ih
          simp only [impl_divisors.l0, sq_cast, tmod_nat, tdiv_nat]
          rw [w64 (n := ((d * d : Nat) : Int)) (by omega) (by omega), if_pos (by omega), if_neg (by omega), if_pos (by omega), if_pos (by omega)]
          simp only [Option.bind_some]
          generalize n / d = q at *
          rw [if_pos (by omega), if_pos (by omega), w64 (n := (q : Int)) (by omega) (by omega), w64 (n := (d : Int) + 1) (by omega) (by omega)]
          rfl
        · have ih := ih (d + 1) (x ++ [(d : Int)]) y (by omega) (by omega) (by simp; omega) (by omega)
          simp only [sm, bk, if_pos hc, if_pos hm, if_neg hl]
          have e : x ++ ints (d :: sm n f (d + 1)) ++ (y ++ ints (bk n f (d + 1))).reverse = x ++ [(d : Int)] ++ ints (sm n f (d + 1)) ++ (y ++ ints (bk n f (d + 1))).reverse := by simp [ints]
          rw [e]
          refine Ev.step (fun k => ?_) ih
          simp only [impl_divisors.l0, sq_cast, tmod_nat, tdiv_nat]
          rw [w64 (n := ((d * d : Nat) : Int)) (by omega) (by omega), if_pos (by omega), if_neg (by omega), if_pos (by omega), if_pos (by omega)]
          simp only [Option.bind_some]
          rw [if_neg (by omega), w64 (n := (d : Int) + 1) (by omega) (by omega)]
          rfl
      · have ih := ih (d + 1) x y (by omega) (by omega) (by omega) (by omega)
        simp only [sm, bk, if_pos hc, if_neg hm]
        refine Ev.step (fun k => ?_) ih
        simp only [impl_divisors.l0, sq_cast, tmod_nat]
        rw [w64 (n := ((d * d : Nat) : Int)) (by omega) (by omega), if_pos (by omega), if_neg (by omega), if_neg (by omega), w64 (n := (d : Int) + 1) (by omega) (by omega)]
        rfl
    · have hr := reverse_ev y (by omega)
      simp only [sm, bk, if_neg hc, ints, List.map_nil, List.append_nil]
      refine Ev.step (f := fun k => (slices_Reverse_int_int.f k y).bind fun t => (if x.length + t.length < 17592186044416 then (some (x ++ t)) else (none))) (fun k => ?_) (Ev.bind hr (Ev.ite_pos (by rw [List.length_reverse]; omega) (Ev.now _)))
      simp only [impl_divisors.l0, sq_cast]
      rw [w64 (n := ((d * d : Nat) : Int)) (by omega) (by omega), if_neg (by omega)]
theorem impl_dv {n : Nat} (h1 : 1 ≤ n) (h2 : n ≤ 10000) : Ev (fun k => impl_divisors.f k (n : Int)) (ints (dv n)) := by
  unfold impl_divisors.f
  have h := impl_dvL h1 h2 101 1 [] [] (by omega) (by omega) (by simp) (by simp)
  have e : ints (dv n) = [] ++ ints (sm n 101 1) ++ ([] ++ ints (bk n 101 1)).reverse := by simp [dv, ints]
  rw [e]
  exact h

theorem impl_strip (x : List (List Int)) (hx : x.length ≤ 1000) (p : Nat) (hp : 2 ≤ p) (hp2 : p ≤ 10000) (R : List (List Int)) : ∀ (f n c : Nat), 1 ≤ n → n ≤ 10000 → n < 2 ^ f → c + f ≤ 1000 →
    Ev (fun k => impl_factors.l0 k ((strip f n p c).1 : Int) (if 0 < (strip f n p c).2 then x ++ [[(p : Int), ((strip f n p c).2 : Int)]] else x) ((p : Int) + 1)) R →
    Ev (fun k => impl_factors.l1 k (n : Int) x (p : Int) (c : Int)) R := by
  intro f
  induction f with
  | zero => intro n c h1 _ h2; simp at h2; omega
  | succ f ih =>
    intro n c h1 h3 h2 hc hR
    by_cases h : n % p = 0
    · have e := Nat.mul_div_cancel' (Nat.dvd_of_mod_eq_zero h)
      have hq1 : 1 ≤ n / p := by
        refine Nat.pos_of_ne_zero (fun hz => ?_)
        rw [hz] at e; omega
      have hq2 : n / p < 2 ^ f := by
        have : 2 * (n / p) ≤ p * (n / p) := Nat.mul_le_mul_right _ hp
        rw [Nat.pow_succ] at h2
        omega
      have hq3 : n / p ≤ 10000 := Nat.le_trans (Nat.div_le_self _ _) h3
      simp only [strip, if_pos h] at hR
      refine Ev.step (fun k => ?_) (ih (n / p) (c + 1) hq1 hq3 hq2 (by omega) hR)
      simp only [impl_factors.l1, tmod_nat, tdiv_nat]
      generalize n / p = q at *
      rw [if_neg (by omega), if_pos (by omega), w64 (n := (q : Int)) (by omega) (by omega), w64 (n := (c : Int) + 1) (by omega) (by omega)]
      rfl
    · simp only [strip, if_neg h] at hR
      refine Ev.step (fun k => ?_) hR
      simp only [impl_factors.l1, tmod_nat]
      rw [if_neg (by omega), if_neg (by omega)]
      by_cases hc0 : 0 < c
      · rw [if_pos (by omega), if_pos (by omega), if_pos hc0, w64 (by omega) (by omega)]
      · rw [if_neg (by omega), if_neg hc0, w64 (by omega) (by omega)]
theorem impl_facL : ∀ (f n p : Nat) (x : List (List Int)), 1 ≤ n → n ≤ 10000 → 2 ≤ p → p ≤ 10001 → (n ≤ 1 ∨ (103 ≤ p + f ∧ 1 ≤ f)) → x.length + f ≤ 500 →
    Ev (fun k => impl_factors.l0 k (n : Int) x (p : Int)) (x ++ fints (facI f n p)) := by
  intro f
  induction f with
  | zero =>
    intro n p x h1 h2 h3 h4 h5 h6
    have hn : n = 1 := by omega
    subst hn
    refine Ev.step (fun k => ?_) (Ev.now _)
    simp only [impl_factors.l0]
    rw [if_neg (by omega)]
    simp [facI, fints]
  | succ f ih =>
    intro n p x h1 h2 h3 h4 h5 h6
    by_cases hn : 1 < n
    · have hpp : p * p ≤ 10001 * 10001 := sq_le h4
      by_cases hc : p * p > n
      · -- the number itself
        have hs := strip_self (show 2 ≤ n by omega)
        have ih := ih 1 (n + 1) (x ++ [[(n : Int), 1]]) (by omega) (by omega) (by omega) (by omega) (by omega) (by simp; omega)
        have h := impl_strip x (by omega) n (by omega) h2 (x ++ [[(n : Int), 1]] ++ fints (facI f 1 (n + 1))) 14 n 0 h1 h2 (by omega) (by omega) (by rw [hs]; exact ih)
        have e : x ++ fints (facI (f + 1) n p) = x ++ [[(n : Int), 1]] ++ fints (facI f 1 (n + 1)) := by
          rw [facI_prime f p hn hc, facI_one f _ (Nat.le_refl _)]; simp [fints]
        rw [e]
        refine Ev.step (f := fun k => impl_factors.j1 k (n : Int) x (n : Int)) (fun k => ?_) (Ev.step (fun k => ?_) h)
        · simp only [impl_factors.l0, sq_cast]
          rw [if_pos (by omega), w64 (n := ((p * p : Nat) : Int)) (by omega) (by omega), if_pos (by omega)]
        · simp only [impl_factors.j1]
          rfl
      · have hp100 : p ≤ 100 := by
          refine Nat.le_of_not_lt (fun hp => ?_)
          have : 101 * 101 ≤ p * p := sq_le hp
          omega
        obtain ⟨s1, s2, s3, s4, s5, s6, s7⟩ := strip_spec p h3 14 n 0 h1 (by omega)
        have e : x ++ fints (facI (f + 1) n p) = (if 0 < (strip 14 n p 0).2 then x ++ [[(p : Int), ((strip 14 n p 0).2 : Int)]] else x) ++ fints (facI f (strip 14 n p 0).1 (p + 1)) := by
          rw [facI_succ, if_pos hn]
          simp only [if_neg hc]
          split <;> simp [fints]
        rw [e]
        have hlen : (if 0 < (strip 14 n p 0).2 then x ++ [[(p : Int), ((strip 14 n p 0).2 : Int)]] else x).length + f ≤ 500 := by
          by_cases hcc : 0 < (strip 14 n p 0).2
          · rw [if_pos hcc]; simp; omega
          · rw [if_neg hcc]; omega
        have ih := ih (strip 14 n p 0).1 (p + 1) (if 0 < (strip 14 n p 0).2 then x ++ [[(p : Int), ((strip 14 n p 0).2 : Int)]] else x) s1 (by omega) (by omega) (by omega) (.inr ⟨by omega, by omega⟩) hlen
        have h := impl_strip x (by omega) p h3 (by omega) _ 14 n 0 h1 h2 (by omega) (by omega) ih
        refine Ev.step (f := fun k => impl_factors.j1 k (n : Int) x (p : Int)) (fun k => ?_) (Ev.step (fun k => ?_) h)
        · simp only [impl_factors.l0, sq_cast]
          rw [if_pos (by omega), w64 (n := ((p * p : Nat) : Int)) (by omega) (by omega), if_neg (by omega)]
        · simp only [impl_factors.j1]
          rfl
    · rw [facI_one _ _ (by omega)]
      refine Ev.step (fun k => ?_) (Ev.now _)
      simp only [impl_factors.l0]
      rw [if_neg (by omega)]
      simp [fints]
theorem impl_fac {n : Nat} (h1 : 1 ≤ n) (h2 : n ≤ 10000) : Ev (fun k => impl_factors.f k (n : Int)) (fints (fac n)) := by
  unfold impl_factors.f
  have h := impl_facL 101 n 2 [] h1 h2 (by omega) (by omega) (.inr ⟨by omega, by omega⟩) (by simp)
  rw [List.nil_append] at h
  exact h

theorem fints_at (l : List (Nat × Nat)) (i : Nat) (x : Nat × Nat) (h : l[i]? = some x) : rd_L2 (fints l) (i : Int) = [(x.1 : Int), (x.2 : Int)] := by
  unfold rd_L2 fints
  rw [Int.toNat_natCast, List.getD_eq_getElem?_getD, List.getElem?_map, h]
  rfl

theorem impl_sgL (l : List (Nat × Nat)) (hl : l.length ≤ 1000) : ∀ (r : List (Nat × Nat)) (i : Nat) (s : Int), l.drop i = r → i ≤ l.length → -1 ≤ s → s ≤ 1 →
    Ev (fun k => impl_sign.l0 k s (fints l) (l.length : Int) (i : Int)) (sgL s r) := by
  intro r
  induction r with
  | nil =>
    intro i s hd hi _ _
    have : l.length ≤ i := List.drop_eq_nil_iff.1 hd
    refine Ev.step (fun k => ?_) (Ev.now _)
    simp only [impl_sign.l0]
    rw [if_neg (by omega)]
    rfl
  | cons x r ih =>
    intro i s hd hi hs1 hs2
    obtain ⟨hlt, hx, hr⟩ := drop_at hd
    simp only [sgL]
    by_cases hc : 1 < x.2
    · rw [if_pos hc]
      refine Ev.step (fun k => ?_) (Ev.now _)
      simp only [impl_sign.l0, fints_at l i x hx, fints_length, rd_p0, rd_p1, len_p]
      rw [if_pos (by omega), if_pos (by omega), if_pos (by omega), if_pos (by omega), if_pos (by omega)]
    · rw [if_neg hc]
      refine Ev.step (fun k => ?_) (ih (i + 1) (-s) hr hlt (by omega) (by omega))
      simp only [impl_sign.l0, fints_at l i x hx, fints_length, rd_p0, rd_p1, len_p]
      rw [if_pos (by omega), if_pos (by omega), if_pos (by omega), if_pos (by omega), if_neg (by omega), w64 (by omega) (by omega), w64 (by omega) (by omega)]
      rfl
theorem impl_sg {n : Nat} (h1 : 1 ≤ n) (h2 : n ≤ 10000) : Ev (fun k => impl_sign.f k (n : Int)) (sg n) := by
  unfold impl_sign.f
  refine Ev.bind (impl_fac h1 h2) ?_
  rw [fints_length]
  exact impl_sgL (fac n) (fac_length n) (fac n) 0 1 rfl (Nat.zero_le _) (by omega) (by omega)

theorem impl_rmL {q : Nat} (h1 : 1 ≤ q) (h2 : q ≤ 60) (l : List Nat) (hl : l.length ≤ 60) (hm : ∀ d ∈ l, 1 ≤ d ∧ d ≤ 60 ∧ q % d = 0) : ∀ (r : List Nat) (i : Nat) (s : Int), l.drop i = r → i ≤ l.length → -(60 * (i : Int)) ≤ s → s ≤ 60 * (i : Int) →
    Ev (fun k => impl_sumFor.l0 k (q : Int) s (ints l) (l.length : Int) (i : Int)) (s + rmL q r) := by
  intro r
  induction r with
  | nil =>
    intro i s hd hi _ _
    have : l.length ≤ i := List.drop_eq_nil_iff.1 hd
    refine Ev.step (fun k => ?_) (Ev.now _)
    simp only [impl_sumFor.l0]
    rw [if_neg (by omega)]
    simp [rmL]
  | cons x r ih =>
    intro i s hd hi hs1 hs2
    obtain ⟨hlt, hx, hr⟩ := drop_at hd
    have hxm := hm x (List.mem_of_getElem? hx)
    have ht := rm_term (q := q) hxm.2.1
    have hq1 : 1 ≤ q / x := by
      have e := mod_mul hxm.2.2
      refine Nat.pos_of_ne_zero (fun hz => ?_)
      rw [hz] at e; omega
    have hq2 : q / x ≤ q := Nat.div_le_self _ _
    have hsg := impl_sg hq1 (by omega)
    simp only [rmL]
    rw [← Int.add_assoc]
    refine Ev.step (f := fun k => (impl_sign.f k ((q / x : Nat) : Int)).bind fun t => (impl_sumFor.l0 k (q : Int) (wrap64 (s + (wrap64 ((x : Int) * t)))) (ints l) (l.length : Int) (wrap64 ((i : Int) + 1)))) (fun k => ?_) (Ev.bind hsg ?_)
    · simp only [impl_sumFor.l0, ints_get hx, ints_length, tdiv_nat]
      generalize q / x = z at *
      rw [if_pos (by omega), if_pos (by omega), if_pos (by omega), if_neg (by omega), w64 (n := (z : Int)) (by omega) (by omega)]
    · have ih := ih (i + 1) (s + (x : Int) * sg (q / x)) hr hlt (by generalize (x : Int) * sg (q / x) = z at *; omega) (by generalize (x : Int) * sg (q / x) = z at *; omega)
      generalize (x : Int) * sg (q / x) = z at *
      rw [w64 (n := z) (by omega) (by omega), w64 (n := s + z) (by omega) (by omega), w64 (by omega) (by omega)]
      exact ih
theorem impl_rm {q n : Nat} (h1 : 1 ≤ q) (h2 : q ≤ 60) (h3 : 1 ≤ n) : Ev (fun k => impl_sumFor.f k (q : Int) (n : Int)) (rm q (Nat.gcd q n)) := by
  have hg1 : 1 ≤ Nat.gcd q n := Nat.gcd_pos_of_pos_left n h1
  have hg2 : Nat.gcd q n ≤ q := Nat.gcd_le_left n h1
  have hgd : Nat.gcd q n ∣ q := Nat.gcd_dvd_left q n
  obtain ⟨a, b⟩ := dv_small hg1 (by omega)
  unfold impl_sumFor.f
  refine Ev.bind (impl_gcd_ev q n) (Ev.bind (impl_dv hg1 (by omega)) ?_)
  rw [ints_length]
  have h := impl_rmL h1 h2 (dv (Nat.gcd q n)) b (fun d hd => ⟨(a d hd).1, (a d hd).2.1, Nat.mod_eq_zero_of_dvd (Nat.dvd_trans (Nat.dvd_of_mod_eq_zero (a d hd).2.2) hgd)⟩) (dv (Nat.gcd q n)) 0 0 rfl (Nat.zero_le _) (by omega) (by omega)
  rw [Int.zero_add] at h
  exact h

theorem numberOk_eq (a : Int) : impl_numberOk.f a = some (decide (1 ≤ a ∧ a ≤ 10000)) := by
  unfold impl_numberOk.f
  by_cases h : a ≥ 1
  · rw [if_pos h]; simp [h]
  · rw [if_neg h]; congr 1; symm; simp; intro h2; omega

theorem impl_rmT {q n : Nat} (h1 : 1 ≤ q) (h2 : q ≤ 60) (h3 : 1 ≤ n) (h4 : n ≤ 10000) : Ev (fun k => impl_SumFor.f k (q : Int) (n : Int)) (rm q (Nat.gcd q n)) := by
  unfold impl_SumFor.f
  refine Ev.ite_neg (by omega) (Ev.ite_neg (by omega) ?_)
  simp only [numberOk_eq, Option.bind_some, show (1 : Int) ≤ n ∧ (n : Int) ≤ 10000 from ⟨by omega, by omega⟩, and_self, decide_true, if_true]
  exact Ev.bind (impl_rm h1 h2 h3) (Ev.now _)
theorem impl_rmT_no {a b : Int} (h : ¬ (1 ≤ a ∧ a ≤ 60 ∧ 1 ≤ b ∧ b ≤ 10000)) : Ev (fun k => impl_SumFor.f k a b) 0 := by
  unfold impl_SumFor.f
  by_cases ha : a < 1
  · exact Ev.ite_pos ha (Ev.now _)
  · refine Ev.ite_neg ha ?_
    by_cases ha2 : a > 60
    · exact Ev.ite_pos ha2 (Ev.now _)
    · refine Ev.ite_neg ha2 ?_
      simp only [numberOk_eq, Option.bind_some, show ¬ (1 ≤ b ∧ b ≤ 10000) by omega, decide_false]
      exact Ev.now _

theorem impl_phL (l : List (Nat × Nat)) (hl : l.length ≤ 1000) (hm : ∀ x ∈ l, 2 ≤ x.1 ∧ x.1 ≤ 10000 ∧ 1 ≤ x.2 ∧ x.2 ≤ 14) : ∀ (r : List (Nat × Nat)) (i s : Nat), l.drop i = r → i ≤ l.length → s ≤ 10000 →
    Ev (fun k => impl_phi.l0 k (s : Int) (fints l) (l.length : Int) (i : Int)) ((phL s r : Nat) : Int) := by
  intro r
  induction r with
  | nil =>
    intro i s hd hi _
    have : l.length ≤ i := List.drop_eq_nil_iff.1 hd
    refine Ev.step (fun k => ?_) (Ev.now _)
    simp only [impl_phi.l0]
    rw [if_neg (by omega)]
    rfl
  | cons x r ih =>
    intro i s hd hi hs
    obtain ⟨hlt, hx, hr⟩ := drop_at hd
    have hxm := hm x (List.mem_of_getElem? hx)
    have hstep := ph_step (s := s) (show 1 ≤ x.1 by omega)
    have hdv : s / x.1 ≤ s := Nat.div_le_self _ _
    simp only [phL]
    refine Ev.step (fun k => ?_) (ih (i + 1) (s / x.1 * (x.1 - 1)) hr hlt (by omega))
    simp only [impl_phi.l0, fints_at l i x hx, fints_length, rd_p0, rd_p1, len_p, tdiv_nat]
    have e : ((s / x.1 : Nat) : Int) * ((x.1 : Int) - 1) = ((s / x.1 * (x.1 - 1) : Nat) : Int) := by
      rw [Int.natCast_mul, show ((x.1 - 1 : Nat) : Int) = (x.1 : Int) - 1 by omega]
    generalize hq : s / x.1 = q at *
    rw [if_pos (by omega), if_pos (by omega), if_pos (by omega), if_pos (by omega), if_neg (by omega), w64 (n := (q : Int)) (by omega) (by omega), w64 (n := (x.1 : Int) - 1) (by omega) (by omega), e]
    generalize q * (x.1 - 1) = z at *
    rw [w64 (by omega) (by omega), w64 (by omega) (by omega)]
    rfl
theorem impl_ph {n : Nat} (h1 : 1 ≤ n) (h2 : n ≤ 10000) : Ev (fun k => impl_phi.f k (n : Int)) ((ph n : Nat) : Int) := by
  unfold impl_phi.f
  refine Ev.bind (impl_fac h1 h2) ?_
  rw [fints_length]
  exact impl_phL (fac n) (fac_length n) (fac_mem h1 h2) (fac n) 0 n rfl (Nat.zero_le _) h2

theorem l1In_eq (a b c : Int) : spec_l1In.f a b c = some (decide (b ≤ a ∧ a ≤ c)) := by
  unfold spec_l1In.f
  by_cases h : a ≥ b
  · rw [if_pos h]; simp [h]
  · rw [if_neg h]; congr 1; symm; simp; intro h2; omega

theorem spec_strip (z : Int) (x : List (List Int)) (hx : x.length ≤ 1000) (p : Nat) (hp : 2 ≤ p) (hp2 : p ≤ 10000) (R : List (List Int)) : ∀ (f n c : Nat), 1 ≤ n → n ≤ 10000 → n < 2 ^ f → c + f ≤ 1000 →
    Ev (fun k => spec_FactorsOf.l0 k z (if 0 < (strip f n p c).2 then x ++ [[(p : Int), ((strip f n p c).2 : Int)]] else x) ((strip f n p c).1 : Int) ((p : Int) + 1)) R →
    Ev (fun k => spec_FactorsOf.l1 k z x (n : Int) (p : Int) (c : Int)) R := by
  intro f
  induction f with
  | zero => intro n c h1 _ h2; simp at h2; omega
  | succ f ih =>
    intro n c h1 h3 h2 hc hR
    by_cases h : n % p = 0
    · have e := Nat.mul_div_cancel' (Nat.dvd_of_mod_eq_zero h)
      have hq1 : 1 ≤ n / p := by
        refine Nat.pos_of_ne_zero (fun hz => ?_)
        rw [hz] at e; omega
      have hq2 : n / p < 2 ^ f := by
        have : 2 * (n / p) ≤ p * (n / p) := Nat.mul_le_mul_right _ hp
        rw [Nat.pow_succ] at h2
        omega
      have hq3 : n / p ≤ 10000 := Nat.le_trans (Nat.div_le_self _ _) h3
      simp only [strip, if_pos h] at hR
      refine Ev.step (fun k => ?_) (ih (n / p) (c + 1) hq1 hq3 hq2 (by omega) hR)
      simp only [spec_FactorsOf.l1, tmod_nat, tdiv_nat]
      generalize n / p = q at *
      rw [if_neg (by omega), if_pos (by omega), w64 (n := (q : Int)) (by omega) (by omega), w64 (n := (c : Int) + 1) (by omega) (by omega)]
      rfl
    · simp only [strip, if_neg h] at hR
      refine Ev.step (fun k => ?_) hR
      simp only [spec_FactorsOf.l1, tmod_nat]
      rw [if_neg (by omega), if_neg (by omega)]
      by_cases hc0 : 0 < c
      · rw [if_pos (by omega), if_pos (by omega), if_pos hc0, w64 (by omega) (by omega)]
      · rw [if_neg (by omega), if_neg hc0, w64 (by omega) (by omega)]
theorem spec_fac_step {z : Int} (hz : 1 ≤ z ∧ z ≤ 10000) (x R : List (List Int)) (n p : Nat) (h : p ≤ n) (k : Ev (fun k => spec_FactorsOf.l1 k z x (n : Int) (p : Int) 0) R) :
    Ev (fun k => spec_FactorsOf.l0 k z x (n : Int) (p : Int)) R := by
  refine Ev.step (f := fun k => spec_FactorsOf.j1 k z x (n : Int) (p : Int) true) (fun k => ?_) (Ev.step (fun k => ?_) k)
  · simp only [spec_FactorsOf.l0]
    rw [if_pos (by omega), l1In_eq, decide_eq_true hz]
    rfl
  · simp only [spec_FactorsOf.j1, if_true]
theorem spec_fac_end (z : Int) (x : List (List Int)) (n p : Nat) (h : n < p) : Ev (fun k => spec_FactorsOf.l0 k z x (n : Int) (p : Int)) x := by
  refine Ev.step (f := fun k => spec_FactorsOf.j1 k z x (n : Int) (p : Int) false) (fun k => ?_) (Ev.step (fun k => ?_) (Ev.now _))
  · simp only [spec_FactorsOf.l0]
    rw [if_neg (by omega)]
  · simp only [spec_FactorsOf.j1]
    rw [if_neg (by simp)]
/-- What is left is a prime: no smaller number from p on divides it. -/
theorem spec_fac_tail {z : Int} (hz : 1 ≤ z ∧ z ≤ 10000) (x : List (List Int)) (hx : x.length ≤ 900) (n : Nat) (h1 : 1 < n) (h2 : n ≤ 10000) : ∀ (m p : Nat), p + m = n → 2 ≤ p → n < p * p → (∀ q, 2 ≤ q → q < p → n % q ≠ 0) →
    Ev (fun k => spec_FactorsOf.l0 k z x (n : Int) (p : Int)) (x ++ [[(n : Int), 1]]) := by
  intro m
  induction m with
  | zero =>
    intro p hp hp2 hpp hq
    have e : p = n := by omega
    subst e
    have hs := strip_self (show 2 ≤ p by omega)
    refine spec_fac_step hz x _ p p (Nat.le_refl _) (spec_strip z x (by omega) p (by omega) h2 _ 14 p 0 (by omega) h2 (by omega) (by omega) ?_)
    rw [hs]
    exact spec_fac_end z _ 1 (p + 1) (by omega)
  | succ m ih =>
    intro p hp hp2 hpp hq
    have hnd : n % p ≠ 0 := by
      intro h0
      have e := Nat.mul_div_cancel' (Nat.dvd_of_mod_eq_zero h0)
      generalize n / p = q at *
      have hq2 : 2 ≤ q := by
        refine Nat.le_of_not_lt (fun h => ?_)
        have : q = 0 ∨ q = 1 := by omega
        rcases this with rfl | rfl <;> omega
      have hqp : q < p := by
        refine Nat.lt_of_not_le (fun h => ?_)
        have : p * p ≤ p * q := Nat.mul_le_mul_left p h
        omega
      exact hq q hq2 hqp (by rw [← e]; exact Nat.mul_mod_left _ _)
    refine spec_fac_step hz x _ n p (by omega) (spec_strip z x (by omega) p (by omega) (by omega) _ 14 n 0 (by omega) h2 (by omega) (by omega) ?_)
    rw [strip_none hnd]
    refine ih (p + 1) (by omega) (by omega) ?_ (fun q hq1 hq2 => ?_)
    · have : p * p ≤ (p + 1) * (p + 1) := Nat.mul_le_mul (by omega) (by omega)
      omega
    · by_cases e : q = p
      · subst e; exact hnd
      · exact hq q hq1 (by omega)
theorem spec_facL {z : Int} (hz : 1 ≤ z ∧ z ≤ 10000) : ∀ (m f n p : Nat) (x : List (List Int)), n + 1 - p ≤ m → 1 ≤ n → n ≤ 10000 → 2 ≤ p → (∀ q, 2 ≤ q → q < p → n % q ≠ 0) → (n ≤ 1 ∨ (103 ≤ p + f ∧ 1 ≤ f)) → x.length + f ≤ 500 →
    Ev (fun k => spec_FactorsOf.l0 k z x (n : Int) (p : Int)) (x ++ fints (facI f n p)) := by
  intro m
  induction m with
  | zero =>
    intro f n p x hm h1 h2 h3 hq h5 h6
    have hn : ¬ 1 < n := fun hn => hq n (by omega) (by omega) (Nat.mod_self n)
    rw [facI_one _ _ (by omega)]
    rw [show x ++ fints [] = x by simp [fints]]
    exact spec_fac_end z x n p (by omega)
  | succ m ih =>
    intro f n p x hm h1 h2 h3 hq h5 h6
    by_cases hn : 1 < n
    · by_cases hc : n < p * p
      · obtain ⟨f, rfl⟩ : ∃ g, f = g + 1 := ⟨f - 1, by omega⟩
        rw [facI_prime f p hn hc]
        have hpn : p ≤ n := Nat.le_of_not_lt (fun h => hq n (by omega) h (Nat.mod_self n))
        exact spec_fac_tail hz x (by omega) n hn h2 (n - p) p (by omega) h3 hc hq
      · have hp100 : p ≤ 100 := by
          refine Nat.le_of_not_lt (fun hp => ?_)
          have : 101 * 101 ≤ p * p := sq_le hp
          omega
        have hpn : p * 2 ≤ p * p := Nat.mul_le_mul_left p h3
        obtain ⟨f, rfl⟩ : ∃ g, f = g + 1 := ⟨f - 1, by omega⟩
        obtain ⟨s1, s2, s3, s4, s5, s6, s7⟩ := strip_spec p h3 14 n 0 h1 (by omega)
        have e : x ++ fints (facI (f + 1) n p) = (if 0 < (strip 14 n p 0).2 then x ++ [[(p : Int), ((strip 14 n p 0).2 : Int)]] else x) ++ fints (facI f (strip 14 n p 0).1 (p + 1)) := by
          have hc' : ¬ (p * p > n) := hc
          rw [facI_succ, if_pos hn]
          simp only [if_neg hc']
          split <;> simp [fints]
        rw [e]
        have hlen : (if 0 < (strip 14 n p 0).2 then x ++ [[(p : Int), ((strip 14 n p 0).2 : Int)]] else x).length + f ≤ 500 := by
          by_cases hcc : 0 < (strip 14 n p 0).2
          · rw [if_pos hcc]; simp; omega
          · rw [if_neg hcc]; omega
        refine spec_fac_step hz x _ n p (by omega) (spec_strip z x (by omega) p h3 (by omega) _ 14 n 0 h1 h2 (by omega) (by omega) ?_)
        refine ih f (strip 14 n p 0).1 (p + 1) _ (by omega) s1 (by omega) (by omega) (fun q hq1 hq2 h0 => ?_) (.inr ⟨by omega, by omega⟩) hlen
        by_cases e : q = p
        · subst e; exact s4 h0
        · refine hq q hq1 (by omega) (Nat.mod_eq_zero_of_dvd (Nat.dvd_trans (Nat.dvd_of_mod_eq_zero h0) s3))
    · rw [facI_one _ _ (by omega), show x ++ fints [] = x by simp [fints]]
      exact spec_fac_end z x n p (by omega)
theorem spec_fac {n : Nat} (h1 : 1 ≤ n) (h2 : n ≤ 10000) : Ev (fun k => spec_FactorsOf.f k (n : Int)) (fints (fac n)) := by
  unfold spec_FactorsOf.f
  have h := spec_facL (z := (n : Int)) ⟨by omega, by omega⟩ n 101 n 2 [] (by omega) h1 h2 (by omega) (fun q h1 h2 => by omega) (.inr ⟨by omega, by omega⟩) (by simp)
  rw [List.nil_append] at h
  exact h
theorem spec_fac_no {a : Int} (h : ¬ (1 ≤ a ∧ a ≤ 10000)) : Ev (fun k => spec_FactorsOf.f k a) [] := by
  unfold spec_FactorsOf.f
  refine Ev.step (f := fun k => spec_FactorsOf.j1 k a [] a 2 false) (fun k => ?_) (Ev.step (fun k => ?_) (Ev.now _))
  · simp only [spec_FactorsOf.l0]
    by_cases h1 : 2 ≤ a
    · rw [if_pos h1, l1In_eq, decide_eq_false h]
      rfl
    · rw [if_neg h1]
  · simp only [spec_FactorsOf.j1]
    rw [if_neg (by simp)]

theorem spec_phL (l : List (Nat × Nat)) (hl : l.length ≤ 1000) (hm : ∀ x ∈ l, 2 ≤ x.1 ∧ x.1 ≤ 10000 ∧ 1 ≤ x.2 ∧ x.2 ≤ 14) : ∀ (r : List (Nat × Nat)) (i s : Nat), l.drop i = r → i ≤ l.length → s ≤ 10000 →
    Ev (fun k => spec_HowManyApart.l0 k (s : Int) (fints l) (i : Int)) ((phL s r : Nat) : Int) := by
  intro r
  induction r with
  | nil =>
    intro i s hd hi _
    have : l.length ≤ i := List.drop_eq_nil_iff.1 hd
    refine Ev.step (fun k => ?_) (Ev.now _)
    simp only [spec_HowManyApart.l0, fints_length]
    rw [if_neg (by omega)]
    rfl
  | cons x r ih =>
    intro i s hd hi hs
    obtain ⟨hlt, hx, hr⟩ := drop_at hd
    have hxm := hm x (List.mem_of_getElem? hx)
    have hstep := ph_step (s := s) (show 1 ≤ x.1 by omega)
    have hdv : s / x.1 ≤ s := Nat.div_le_self _ _
    simp only [phL]
    refine Ev.step (fun k => ?_) (ih (i + 1) (s / x.1 * (x.1 - 1)) hr hlt (by omega))
    simp only [spec_HowManyApart.l0, fints_at l i x hx, fints_length, rd_p0, rd_p1, len_p, tdiv_nat]
    have e : ((s / x.1 : Nat) : Int) * ((x.1 : Int) - 1) = ((s / x.1 * (x.1 - 1) : Nat) : Int) := by
      rw [Int.natCast_mul, show ((x.1 - 1 : Nat) : Int) = (x.1 : Int) - 1 by omega]
    generalize hq : s / x.1 = q at *
    rw [if_pos (by omega), if_pos (by omega), if_pos (by omega), if_neg (by omega), w64 (n := (q : Int)) (by omega) (by omega), w64 (n := (x.1 : Int) - 1) (by omega) (by omega), e]
    generalize q * (x.1 - 1) = z at *
    rw [w64 (by omega) (by omega), w64 (by omega) (by omega)]
    rfl
theorem spec_ph {n : Nat} (h1 : 1 ≤ n) (h2 : n ≤ 10000) : Ev (fun k => spec_HowManyApart.f k (n : Int)) ((ph n : Nat) : Int) := by
  unfold spec_HowManyApart.f
  simp only [l1In_eq, Option.bind_some, show (1 : Int) ≤ n ∧ (n : Int) ≤ 10000 from ⟨by omega, by omega⟩, and_self, decide_true, if_true]
  exact Ev.bind (spec_fac h1 h2) (spec_phL (fac n) (fac_length n) (fac_mem h1 h2) (fac n) 0 n rfl (Nat.zero_le _) h2)
theorem spec_ph_no {a : Int} (h : ¬ (1 ≤ a ∧ a ≤ 10000)) : Ev (fun k => spec_HowManyApart.f k a) (-1) := by
  unfold spec_HowManyApart.f
  simp only [l1In_eq, Option.bind_some, h, decide_false]
  exact Ev.now _

theorem spec_dvL {n : Nat} (h2 : n ≤ 10000) : ∀ (f d : Nat) (x : List Int), d + f = n + 1 → 1 ≤ d → x.length < d →
    Ev (fun k => spec_DivisorsOf.l0 k (n : Int) x (d : Int)) (x ++ ints (dvF n d f)) := by
  intro f
  induction f with
  | zero =>
    intro d x hd hd1 hx
    simp only [dvF, List.range'_zero, List.filter_nil, ints, List.map_nil, List.append_nil]
    refine Ev.step (f := fun k => spec_DivisorsOf.j1 k (n : Int) x (d : Int) false) (fun k => ?_) (Ev.step (fun k => ?_) (Ev.now _))
    · simp only [spec_DivisorsOf.l0]
      rw [if_neg (by omega)]
    · simp only [spec_DivisorsOf.j1]
      rw [if_neg (by simp)]
  | succ f ih =>
    intro d x hd hd1 hx
    rw [dvF_succ]
    by_cases hm : n % d = 0
    · have ih := ih (d + 1) (x ++ [(d : Int)]) (by omega) (by omega) (by simp; omega)
      rw [if_pos hm, show x ++ ints (d :: dvF n (d + 1) f) = x ++ [(d : Int)] ++ ints (dvF n (d + 1) f) by simp [ints]]
      refine Ev.step (f := fun k => spec_DivisorsOf.j1 k (n : Int) x (d : Int) true) (fun k => ?_) (Ev.step (fun k => ?_) ih)
      · simp only [spec_DivisorsOf.l0]
        rw [if_pos (by omega), decide_eq_true (by omega)]
      · simp only [spec_DivisorsOf.j1, if_true, tmod_nat]
        rw [if_neg (by omega), if_pos (by omega), if_pos (by omega), w64 (by omega) (by omega)]
        rfl
    · have ih := ih (d + 1) x (by omega) (by omega) (by omega)
      rw [if_neg hm]
      refine Ev.step (f := fun k => spec_DivisorsOf.j1 k (n : Int) x (d : Int) true) (fun k => ?_) (Ev.step (fun k => ?_) ih)
      · simp only [spec_DivisorsOf.l0]
        rw [if_pos (by omega), decide_eq_true (by omega)]
      · simp only [spec_DivisorsOf.j1, if_true, tmod_nat]
        rw [if_neg (by omega), if_neg (by omega), w64 (by omega) (by omega)]
        rfl
theorem spec_dv {n : Nat} (h1 : 1 ≤ n) (h2 : n ≤ 10000) : Ev (fun k => spec_DivisorsOf.f k (n : Int)) (ints (dv n)) := by
  unfold spec_DivisorsOf.f
  have h := spec_dvL h2 n 1 [] (by omega) (by omega) (by simp)
  rw [List.nil_append] at h
  rw [dv_eq h1 h2]
  exact h
theorem spec_dv_no {a : Int} (h : ¬ (1 ≤ a ∧ a ≤ 10000)) : Ev (fun k => spec_DivisorsOf.f k a) [] := by
  unfold spec_DivisorsOf.f
  refine Ev.step (f := fun k => spec_DivisorsOf.j1 k a [] 1 false) (fun k => ?_) (Ev.step (fun k => ?_) (Ev.now _))
  · simp only [spec_DivisorsOf.l0]
    by_cases h1 : 1 ≤ a
    · rw [if_pos h1, decide_eq_false (by omega)]
    · rw [if_neg h1]
  · simp only [spec_DivisorsOf.j1]
    rw [if_neg (by simp)]

theorem spec_sgL (l : List (Nat × Nat)) (hl : l.length ≤ 1000) (hm : ∀ x ∈ l, 2 ≤ x.1 ∧ x.1 ≤ 10000 ∧ 1 ≤ x.2 ∧ x.2 ≤ 14) : ∀ (r : List (Nat × Nat)) (i : Nat) (s : Int), l.drop i = r → i ≤ l.length → -1 ≤ s → s ≤ 1 →
    Ev (fun k => spec_l2Named.l2 k 6 (fints l) s (i : Int)) (sgL s r) := by
  intro r
  induction r with
  | nil =>
    intro i s hd hi _ _
    have : l.length ≤ i := List.drop_eq_nil_iff.1 hd
    refine Ev.step (fun k => ?_) (Ev.now _)
    simp only [spec_l2Named.l2, fints_length]
    rw [if_neg (by omega)]
    rfl
  | cons x r ih =>
    intro i s hd hi hs1 hs2
    obtain ⟨hlt, hx, hr⟩ := drop_at hd
    have hxm := hm x (List.mem_of_getElem? hx)
    have t2 : Int.tmod (x.2 : Int) 2 = ((x.2 % 2 : Nat) : Int) := tmod_nat _ 2
    simp only [sgL]
    by_cases hc : 1 < x.2
    · rw [if_pos hc]
      refine Ev.step (f := fun k => spec_l2Named.j3 k 6 (fints l) s (i : Int) true) (fun k => ?_) (Ev.step (fun k => ?_) (Ev.now _))
      · simp only [spec_l2Named.l2, fints_at l i x hx, fints_length, rd_p0, rd_p1, len_p]
        rw [if_pos (by omega), if_pos trivial, if_pos (by omega), if_pos (by omega), decide_eq_true (by omega)]
      · simp only [spec_l2Named.j3, if_true]
    · rw [if_neg hc]
      refine Ev.step (f := fun k => spec_l2Named.j3 k 6 (fints l) s (i : Int) false) (fun k => ?_) (Ev.step (fun k => ?_) (ih (i + 1) (-s) hr hlt (by omega) (by omega)))
      · simp only [spec_l2Named.l2, fints_at l i x hx, fints_length, rd_p0, rd_p1, len_p]
        rw [if_pos (by omega), if_pos trivial, if_pos (by omega), if_pos (by omega), decide_eq_false (by omega)]
      · simp only [spec_l2Named.j3, fints_at l i x hx, fints_length, rd_p0, rd_p1, len_p, t2]
        rw [if_neg (by simp), if_pos (by omega), if_pos (by omega), if_pos (by omega), if_pos (by omega), w64 (by omega) (by omega), w64 (by omega) (by omega)]
        rfl
theorem spec_named6 {n : Nat} (h1 : 1 ≤ n) (h2 : n ≤ 10000) : Ev (fun k => spec_l2Named.f k 6 (n : Int)) (sg n) := by
  unfold spec_l2Named.f
  refine Ev.bind (spec_fac h1 h2) (Ev.bind (spec_dv h1 h2) ?_)
  refine Ev.ite_neg (by decide) (Ev.ite_neg (by decide) (Ev.ite_neg (by decide) (Ev.ite_neg (by decide) (Ev.ite_neg (by decide) (Ev.ite_neg (by decide) ?_)))))
  exact spec_sgL (fac n) (fac_length n) (fac_mem h1 h2) (fac n) 0 1 rfl (Nat.zero_le _) (by omega) (by omega)
theorem spec_sg {n : Nat} (h1 : 1 ≤ n) (h2 : n ≤ 10000) : Ev (fun k => spec_SignOf.f k (n : Int)) (sg n) := by
  unfold spec_SignOf.f
  simp only [l1In_eq, Option.bind_some, show (1 : Int) ≤ n ∧ (n : Int) ≤ 10000 from ⟨by omega, by omega⟩, and_self, decide_true, if_true]
  exact Ev.bind (spec_named6 h1 h2) (Ev.now _)
theorem spec_sg_no {a : Int} (h : ¬ (1 ≤ a ∧ a ≤ 10000)) : Ev (fun k => spec_SignOf.f k a) 0 := by
  unfold spec_SignOf.f
  simp only [l1In_eq, Option.bind_some, h, decide_false]
  exact Ev.now _

theorem spec_gcdL : ∀ (m b a : Nat), b ≤ m → Ev (fun k => spec_CommonOf.l0 k (a : Int) (b : Int)) ((Nat.gcd a b : Nat) : Int) := by
  intro m
  induction m with
  | zero =>
    intro b a hb
    have e : b = 0 := by omega
    subst e
    rw [Nat.gcd_zero_right]
    refine Ev.step (fun k => ?_) (Ev.now _)
    simp only [spec_CommonOf.l0]
    rw [if_neg (by omega)]
  | succ m ih =>
    intro b a hb
    by_cases h0 : b = 0
    · subst h0
      rw [Nat.gcd_zero_right]
      refine Ev.step (fun k => ?_) (Ev.now _)
      simp only [spec_CommonOf.l0]
      rw [if_neg (by omega)]
    · have hlt : a % b < b := Nat.mod_lt _ (by omega)
      have h := ih (a % b) b (by omega)
      rw [gcd_step] at h
      refine Ev.step (fun k => ?_) h
      simp only [spec_CommonOf.l0, tmod_nat]
      rw [if_pos (by omega), if_neg (by omega)]
theorem spec_gcd_ev {a b : Nat} (h1 : 1 ≤ a) (h2 : a ≤ 10000) (h3 : 1 ≤ b) (h4 : b ≤ 10000) : Ev (fun k => spec_CommonOf.f k (a : Int) (b : Int)) ((Nat.gcd a b : Nat) : Int) := by
  unfold spec_CommonOf.f
  simp only [l1In_eq, Option.bind_some, show (1 : Int) ≤ a ∧ (a : Int) ≤ 10000 from ⟨by omega, by omega⟩, show (1 : Int) ≤ b ∧ (b : Int) ≤ 10000 from ⟨by omega, by omega⟩, and_self, decide_true, if_true, Bool.not_true]
  refine Ev.step (fun k => ?_) (spec_gcdL b b a (Nat.le_refl _))
  simp only [spec_CommonOf.j0]
  rw [if_neg (by simp)]

theorem alive_eq : laws_alive.f = some true := by
  unfold laws_alive.f impl_DividesOk.f
  simp only [numberOk_eq]
  decide +kernel

theorem pick_ev {bs : List Int} (hb : Bytes bs) (hl : bs.length ≤ 2000) {p n : Int} (h0 : 0 ≤ p) (h1 : p ≤ 1000000) (hn : 1 ≤ n) :
    ∃ r, 0 ≤ r ∧ r < n ∧ Ev (fun k => spec_l20Rd_pick.f k bs p n) (r, p + 1) := by
  have ep : wrap64 (p + 1) = p + 1 := w64 (by omega) (by omega)
  have e1 : wrap64 (p + 1 - 1) = p := by rw [w64 (by omega) (by omega)]; omega
  have hf : ∀ k, spec_l20Rd_pick.f k bs p n = spec_l20Rd_pick.j0 k n ((bs.length : Int) == 0) bs (p + 1) := by
    intro k
    unfold spec_l20Rd_pick.f
    rw [if_neg (by omega), ep]
  by_cases hz : bs.length = 0
  · refine ⟨0, by omega, by omega, Ev.congr hf (Ev.step (fun k => ?_) (Ev.now _))⟩
    simp only [spec_l20Rd_pick.j0]
    rw [if_pos (by simp [hz])]
  · have hz2 : ((bs.length : Int) == 0) = false := by simpa using hz
    by_cases hp : p < (bs.length : Int)
    · have hr := hb.at_ p
      have ht := tmod_range hr.1 hn
      refine ⟨Int.tmod (rd bs p) n, ht.1, ht.2, Ev.congr hf (Ev.step (fun k => ?_) (Ev.now _))⟩
      simp only [spec_l20Rd_pick.j0, hz2, e1]
      rw [if_neg (by simp), if_pos hp, if_pos h0, if_neg (by omega), w64 (by omega) (by omega)]
    · have hl1 : (1 : Int) ≤ (bs.length : Int) := by omega
      have t1 := tmod_range h0 hl1
      have t2 := tmod_range (show 0 ≤ p * 7 + 3 by omega) hl1
      have t3 := tdiv_range h0 hl1
      have e7 : wrap64 (p * 7) = p * 7 := w64 (by omega) (by omega)
      have e73 : wrap64 (p * 7 + 3) = p * 7 + 3 := w64 (by omega) (by omega)
      have u1 := hb.at_ (Int.tmod p (bs.length : Int))
      have u2 := hb.at_ (Int.tmod (p * 7 + 3) (bs.length : Int))
      have key : ∀ k, spec_l20Rd_pick.j0 (k + 1) n ((bs.length : Int) == 0) bs (p + 1) = some (Int.tmod (Go.bits .xor .i64 (rd bs (Int.tmod p (bs.length : Int)) * 131 + rd bs (Int.tmod (p * 7 + 3) (bs.length : Int)) * 1117 + p * 29 + Int.tdiv p (bs.length : Int) * 53) (Int.tdiv (rd bs (Int.tmod p (bs.length : Int)) * 131 + rd bs (Int.tmod (p * 7 + 3) (bs.length : Int)) * 1117 + p * 29 + Int.tdiv p (bs.length : Int) * 53) 64)) n, p + 1) := by
        intro k
        simp only [spec_l20Rd_pick.j0, hz2, e1, e7, e73]
        rw [if_neg (by simp), if_neg hp, if_neg (by omega), if_pos t1.1, if_pos t1.2, if_pos t2.1, if_pos t2.2, if_neg (by omega)]
        generalize rd bs (Int.tmod p (bs.length : Int)) = u at *
        generalize rd bs (Int.tmod (p * 7 + 3) (bs.length : Int)) = v at *
        generalize Int.tdiv p (bs.length : Int) = q at *
        rw [w64 (n := u) (by omega) (by omega), w64 (n := v) (by omega) (by omega), w64 (n := u * 131) (by omega) (by omega), w64 (n := v * 1117) (by omega) (by omega), w64 (n := u * 131 + v * 1117) (by omega) (by omega), w64 (n := p * 29) (by omega) (by omega), w64 (n := u * 131 + v * 1117 + p * 29) (by omega) (by omega), w64 (n := q) (by omega) (by omega), w64 (n := q * 53) (by omega) (by omega), w64 (n := u * 131 + v * 1117 + p * 29 + q * 53) (by omega) (by omega)]
        have t4 := tdiv_range (show 0 ≤ u * 131 + v * 1117 + p * 29 + q * 53 by omega) (show (1 : Int) ≤ 64 by omega)
        rw [w64 (n := Int.tdiv (u * 131 + v * 1117 + p * 29 + q * 53) 64) (by omega) (by omega)]
      generalize rd bs (Int.tmod p (bs.length : Int)) = u at *
      generalize rd bs (Int.tmod (p * 7 + 3) (bs.length : Int)) = v at *
      generalize Int.tdiv p (bs.length : Int) = q at *
      have t4 := tdiv_range (show 0 ≤ u * 131 + v * 1117 + p * 29 + q * 53 by omega) (show (1 : Int) ≤ 64 by omega)
      have hx := xor_pos (a := u * 131 + v * 1117 + p * 29 + q * 53) (b := Int.tdiv (u * 131 + v * 1117 + p * 29 + q * 53) 64) (by omega) (by omega) (by omega) (by omega)
      have ht := tmod_range hx hn
      exact ⟨_, ht.1, ht.2, Ev.congr hf (Ev.step key (Ev.now _))⟩
theorem open_ev {l0 : List Int} (hb : Bytes l0) : ∃ bs, Bytes bs ∧ bs.length ≤ 2000 ∧ spec_l20Open.f l0 = some (bs, 0) := by
  unfold spec_l20Open.f
  by_cases h : (l0.length : Int) > 2000
  · exact ⟨l0.take 2000, hb.take _, by rw [List.length_take]; omega, by rw [if_pos h, if_pos (by omega)]⟩
  · exact ⟨l0, hb, by omega, by rw [if_neg h]⟩

theorem some_ev {bs : List Int} (hb : Bytes bs) (hl : bs.length ≤ 2000) {p : Int} (h0 : 0 ≤ p) (h1 : p ≤ 900000) :
    ∃ r, -30000 ≤ r ∧ r ≤ 30000 ∧ Ev (fun k => spec_l20Some.f k bs p) (r, p + 8) := by
  obtain ⟨r1, a1, b1, c1⟩ := pick_ev hb hl (p := p) (n := 12) (by omega) (by omega) (by omega)
  obtain ⟨r2, a2, b2, c2⟩ := pick_ev hb hl (p := p + 1) (n := 60) (by omega) (by omega) (by omega)
  obtain ⟨r3, a3, b3, c3⟩ := pick_ev hb hl (p := p + 1 + 1) (n := 100) (by omega) (by omega) (by omega)
  obtain ⟨r4, a4, b4, c4⟩ := pick_ev hb hl (p := p + 1 + 1 + 1) (n := 100) (by omega) (by omega) (by omega)
  obtain ⟨r5, a5, b5, c5⟩ := pick_ev hb hl (p := p + 1 + 1 + 1 + 1) (n := 60) (by omega) (by omega) (by omega)
  obtain ⟨r6, a6, b6, c6⟩ := pick_ev hb hl (p := p + 1 + 1 + 1 + 1 + 1) (n := 13) (by omega) (by omega) (by omega)
  obtain ⟨r7, a7, b7, c7⟩ := pick_ev hb hl (p := p + 1 + 1 + 1 + 1 + 1 + 1) (n := 40) (by omega) (by omega) (by omega)
  obtain ⟨r8, a8, b8, c8⟩ := pick_ev hb hl (p := p + 1 + 1 + 1 + 1 + 1 + 1 + 1) (n := 50) (by omega) (by omega) (by omega)
  have hm : 0 ≤ r3 * r4 ∧ r3 * r4 ≤ 99 * 99 := ⟨Int.mul_nonneg a3 a4, Int.mul_le_mul (by omega) (by omega) a4 (by omega)⟩
  have d6 := tdiv_pos (b := 2) a6
  have d7 := tdiv_pos (b := 39) a7
  have d8 := tdiv_pos (b := 49) a8
  have hq : ∃ q : Nat, q < 7 ∧ Int.tdiv r6 2 = q := ⟨(Int.tdiv r6 2).toNat, by omega, by omega⟩
  obtain ⟨q, hq7, hq⟩ := hq
  generalize hmm : r3 * r4 = m at *
  have hy : ∀ y, y ∈ [wrap64 (1 + r1), wrap64 (1 + r2), wrap64 (1 + (wrap64 m)), wrap64 (12 * (wrap64 (1 + r5))), 9973, 8192, 9240] → 0 ≤ y ∧ y ≤ 10000 := by
    rw [w64 (n := 1 + r1) (by omega) (by omega), w64 (n := 1 + r2) (by omega) (by omega), w64 (n := m) (by omega) (by omega), w64 (n := 1 + m) (by omega) (by omega), w64 (n := 1 + r5) (by omega) (by omega), w64 (n := 12 * (1 + r5)) (by omega) (by omega)]
    intro y hy
    simp only [List.mem_cons, List.not_mem_nil, or_false] at hy
    omega
  have hv : 0 ≤ rd [wrap64 (1 + r1), wrap64 (1 + r2), wrap64 (1 + (wrap64 m)), wrap64 (12 * (wrap64 (1 + r5))), 9973, 8192, 9240] (q : Int) ∧ rd [wrap64 (1 + r1), wrap64 (1 + r2), wrap64 (1 + (wrap64 m)), wrap64 (12 * (wrap64 (1 + r5))), 9973, 8192, 9240] (q : Int) ≤ 10000 := by
    refine hy _ ?_
    unfold rd
    rw [List.getD_eq_getElem?_getD, List.getElem?_eq_getElem (by simp; omega)]
    exact List.getElem_mem _
  refine ⟨rd [wrap64 (1 + r1), wrap64 (1 + r2), wrap64 (1 + (wrap64 m)), wrap64 (12 * (wrap64 (1 + r5))), 9973, 8192, 9240] (q : Int) + Int.tdiv r7 39 * 10000 - Int.tdiv r8 49 * 20000, by omega, by omega, ?_⟩
  unfold spec_l20Some.f
  refine Ev.bind c1 ?_
  refine Ev.bind c2 ?_
  refine Ev.bind c3 ?_
  refine Ev.bind c4 ?_
  refine Ev.bind c5 ?_
  simp only [Option.bind_some]
  refine Ev.bind c6 ?_
  have ew : wrap64 (Int.tdiv r6 2) = (q : Int) := by rw [hq]; exact w64 (by omega) (by omega)
  simp only [ew]
  refine Ev.ite_pos (by omega) (Ev.ite_pos (by simp; omega) ?_)
  refine Ev.bind c7 (Ev.bind c8 ?_)
  refine Ev.const ?_
  simp only [hmm]
  generalize rd [wrap64 (1 + r1), wrap64 (1 + r2), wrap64 (1 + (wrap64 m)), wrap64 (12 * (wrap64 (1 + r5))), 9973, 8192, 9240] (q : Int) = z at *
  rw [show p + 1 + 1 + 1 + 1 + 1 + 1 + 1 + 1 = p + 8 by omega, w64 (n := Int.tdiv r7 39) (by omega) (by omega), w64 (n := Int.tdiv r7 39 * 10000) (by omega) (by omega), w64 (n := z + Int.tdiv r7 39 * 10000) (by omega) (by omega), w64 (n := Int.tdiv r8 49) (by omega) (by omega), w64 (n := Int.tdiv r8 49 * 20000) (by omega) (by omega), w64 (n := z + Int.tdiv r7 39 * 10000 - Int.tdiv r8 49 * 20000) (by omega) (by omega)]

theorem drawSumFor_ev {l0 : List Int} (hb : Bytes l0) : ∃ a b, Ev (fun k => spec_DrawSumFor.f k l0) (a, b) := by
  obtain ⟨bs, h1, h2, h3⟩ := open_ev hb
  obtain ⟨r1, a1, b1, c1⟩ := pick_ev h1 h2 (p := 0) (n := 62) (by omega) (by omega) (by omega)
  obtain ⟨r2, a2, b2, c2⟩ := pick_ev h1 h2 (p := 0 + 1) (n := 20) (by omega) (by omega) (by omega)
  obtain ⟨r3, a3, b3, c3⟩ := some_ev h1 h2 (p := 0 + 1 + 1) (by omega) (by omega)
  refine ⟨wrap64 (r1 - (wrap64 (Int.tdiv r2 19))), r3, ?_⟩
  unfold spec_DrawSumFor.f
  exact Ev.bindc h3 (Ev.bind c1 (Ev.bind c2 (Ev.bind c3 (Ev.now _))))

theorem draw_ev {l0 : List Int} (hb : Bytes l0) : ∃ a b, Ev (fun k => spec_DrawByApart.f k l0) (a, b) := by
  obtain ⟨a, b, h⟩ := drawSumFor_ev hb
  refine ⟨a, b, ?_⟩
  unfold spec_DrawByApart.f
  exact Ev.bind h (Ev.now _)
theorem left_eq {q n : Nat} (h1 : 1 ≤ q) (h2 : q ≤ 60) : wrap64 (Int.tdiv (q : Int) ((Nat.gcd q n : Nat) : Int)) = ((q / Nat.gcd q n : Nat) : Int) := by
  rw [tdiv_nat]
  have : q / Nat.gcd q n ≤ q := Nat.div_le_self _ _
  generalize q / Nat.gcd q n = z at *
  exact w64 (by omega) (by omega)
theorem val_eq {q n : Nat} (h1 : 1 ≤ q) (h2 : q ≤ 60) (h3 : 1 ≤ n) :
    1 ≤ q / Nat.gcd q n ∧ q / Nat.gcd q n ≤ 60 ∧ ¬ (((ph (q / Nat.gcd q n) : Nat) : Int) = 0) ∧ wrap64 (Int.tdiv (wrap64 (sg (q / Nat.gcd q n) * ((ph q : Nat) : Int))) ((ph (q / Nat.gcd q n) : Nat) : Int)) = rm q (Nat.gcd q n) := by
  have hg1 : 1 ≤ Nat.gcd q n := Nat.gcd_pos_of_pos_left n h1
  have hg2 : Nat.gcd q n ≤ q := Nat.gcd_le_left n h1
  have hgd : Nat.gcd q n ∣ q := Nat.gcd_dvd_left q n
  have hb := ba_eq h1 h2 hg1 hgd
  have hr := rm_rng (q := q) hg1 (by omega)
  have hp := ph_le (n := q) h1 (by omega)
  have hs := sg_rng (q / Nat.gcd q n)
  have hm : wrap64 (sg (q / Nat.gcd q n) * ((ph q : Nat) : Int)) = sg (q / Nat.gcd q n) * ((ph q : Nat) : Int) := by
    generalize sg (q / Nat.gcd q n) = s at *
    have x1 : s = -1 ∨ s = 0 ∨ s = 1 := by omega
    rcases x1 with x | x | x <;> rw [x] <;> exact w64 (by omega) (by omega)
  refine ⟨Nat.div_pos hg2 hg1, Nat.le_trans (Nat.div_le_self _ _) h2, by omega, ?_⟩
  rw [hm, hb.2]
  exact w64 (by omega) (by omega)
theorem impl_ba {q n : Nat} (h1 : 1 ≤ q) (h2 : q ≤ 60) (h3 : 1 ≤ n) (h4 : n ≤ 10000) : Ev (fun k => impl_ByApart.f k (q : Int) (n : Int)) (rm q (Nat.gcd q n)) := by
  obtain ⟨v1, v2, v3, v4⟩ := val_eq h1 h2 h3
  have hg1 : 1 ≤ Nat.gcd q n := Nat.gcd_pos_of_pos_left n h1
  unfold impl_ByApart.f
  refine Ev.ite_neg (by omega) (Ev.ite_neg (by omega) ?_)
  simp only [numberOk_eq, Option.bind_some, show (1 : Int) ≤ n ∧ (n : Int) ≤ 10000 from ⟨by omega, by omega⟩, and_self, decide_true, Bool.not_true]
  refine Ev.step (f := fun k => (impl_gcd.f k (q : Int) (n : Int)).bind fun t159 => (if t159 = 0 then (none) else ((impl_sign.f k (wrap64 (Int.tdiv (q : Int) t159))).bind fun t160 => ((impl_phi.f k (q : Int)).bind fun t161 => ((impl_phi.f k (wrap64 (Int.tdiv (q : Int) t159))).bind fun t162 => (if t162 = 0 then (none) else (some (wrap64 (Int.tdiv (wrap64 (t160 * t161)) t162)))))))) ) (fun k => ?_) (Ev.bind (impl_gcd_ev q n) (Ev.ite_neg (by omega) ?_))
  · simp only [impl_ByApart.j0, Bool.false_eq_true, if_false]
  · rw [left_eq h1 h2]
    refine Ev.bind (impl_sg v1 (by omega)) (Ev.bind (impl_ph h1 (by omega)) (Ev.bind (impl_ph v1 (by omega)) (Ev.ite_neg v3 (Ev.const ?_))))
    rw [v4]
theorem spec_ba {q n : Nat} (h1 : 1 ≤ q) (h2 : q ≤ 60) (h3 : 1 ≤ n) (h4 : n ≤ 10000) : Ev (fun k => spec_ByApart.f k (q : Int) (n : Int)) (rm q (Nat.gcd q n)) := by
  obtain ⟨v1, v2, v3, v4⟩ := val_eq h1 h2 h3
  have hg1 : 1 ≤ Nat.gcd q n := Nat.gcd_pos_of_pos_left n h1
  unfold spec_ByApart.f
  simp only [l1In_eq, Option.bind_some, show (1 : Int) ≤ q ∧ (q : Int) ≤ 60 from ⟨by omega, by omega⟩, show (1 : Int) ≤ n ∧ (n : Int) ≤ 10000 from ⟨by omega, by omega⟩, and_self, decide_true, if_true, Bool.not_true]
  refine Ev.step (f := fun k => (spec_CommonOf.f k (q : Int) (n : Int)).bind fun t206 => (if t206 = 0 then (none) else ((spec_SignOf.f k (wrap64 (Int.tdiv (q : Int) t206))).bind fun t207 => ((spec_HowManyApart.f k (q : Int)).bind fun t208 => ((spec_HowManyApart.f k (wrap64 (Int.tdiv (q : Int) t206))).bind fun t209 => (if t209 = 0 then (none) else (some (wrap64 (Int.tdiv (wrap64 (t207 * t208)) t209)))))))) ) (fun k => ?_) (Ev.bind (spec_gcd_ev h1 (by omega) h3 h4) (Ev.ite_neg (by omega) ?_))
  · simp only [spec_ByApart.j0, Bool.false_eq_true, if_false]
  · rw [left_eq h1 h2]
    refine Ev.bind (spec_sg v1 (by omega)) (Ev.bind (spec_ph h1 (by omega)) (Ev.bind (spec_ph v1 (by omega)) (Ev.ite_neg v3 (Ev.const ?_))))
    rw [v4]
theorem impl_ba_no {a b : Int} (h : ¬ (1 ≤ a ∧ a ≤ 60 ∧ 1 ≤ b ∧ b ≤ 10000)) : Ev (fun k => impl_ByApart.f k a b) 0 := by
  have hj : Ev (fun k => impl_ByApart.j0 k a b true) 0 := by
    refine Ev.step (fun k => ?_) (Ev.now _)
    simp only [impl_ByApart.j0, if_true]
  unfold impl_ByApart.f
  by_cases ha : a < 1
  · exact Ev.ite_pos ha hj
  · refine Ev.ite_neg ha ?_
    by_cases ha2 : a > 60
    · exact Ev.ite_pos ha2 hj
    · refine Ev.ite_neg ha2 ?_
      simp only [numberOk_eq, Option.bind_some, show ¬ (1 ≤ b ∧ b ≤ 10000) by omega, decide_false, Bool.not_false]
      exact hj
theorem spec_ba_no {a b : Int} (h : ¬ (1 ≤ a ∧ a ≤ 60 ∧ 1 ≤ b ∧ b ≤ 10000)) : Ev (fun k => spec_ByApart.f k a b) 0 := by
  have hj : Ev (fun k => spec_ByApart.j0 k a b true) 0 := by
    refine Ev.step (fun k => ?_) (Ev.now _)
    simp only [spec_ByApart.j0, if_true]
  unfold spec_ByApart.f
  simp only [l1In_eq, Option.bind_some]
  by_cases ha : 1 ≤ a ∧ a ≤ 60
  · refine Ev.ite_pos (decide_eq_true ha) ?_
    rw [decide_eq_false (show ¬ (1 ≤ b ∧ b ≤ 10000) by omega)]
    exact hj
  · exact Ev.ite_neg (by simp [ha]) hj
theorem FnByApart : laws_FnByApart.Pure := by
  intro l0 _ _ hw
  refine Ev.rounds ?_
  unfold laws_FnByApart.f
  by_cases hl : (l0.length : Int) > 1048576
  · exact Ev.ite_pos hl (Ev.now _)
  refine Ev.ite_neg hl ?_
  obtain ⟨a, b, h3⟩ := draw_ev (Bytes.of hw)
  refine Ev.bind h3 ?_
  by_cases hr : 1 ≤ a ∧ a ≤ 60 ∧ 1 ≤ b ∧ b ≤ 10000
  · obtain ⟨q, rfl⟩ : ∃ n : Nat, a = n := ⟨a.toNat, by omega⟩
    obtain ⟨n, rfl⟩ : ∃ n : Nat, b = n := ⟨b.toNat, by omega⟩
    have h1 : 1 ≤ q := by omega
    have h2 : q ≤ 60 := by omega
    have h4 : 1 ≤ n := by omega
    have h5 : n ≤ 10000 := by omega
    exact Ev.bind (impl_ba h1 h2 h4 h5) (Ev.bind (spec_ba h1 h2 h4 h5) (Ev.ite_pos rfl (Ev.bind (impl_rmT h1 h2 h4 h5) (Ev.ite_pos rfl (Ev.bindc alive_eq (Ev.now _))))))
  · exact Ev.bind (impl_ba_no hr) (Ev.bind (spec_ba_no hr) (Ev.ite_pos rfl (Ev.bind (impl_rmT_no hr) (Ev.ite_pos rfl (Ev.bindc alive_eq (Ev.now _))))))

end Go.Proofs.Ytgkgpmnaflaaeaa.Pure
