/-
  The parts of a row, as the reference has them; what is handed back is the caller's alone.
-/
import Derived.Test.YtgkgpmnaflaaeaaPFnExactPartsForx8
import Derived.Test.YtgkgpmnaflaaeaaLib
import Derived.Test.YtgkgpmnaflaaeaaLibGcd
import Derived.Test.YtgkgpmnaflaaeaaLibDiv
import Derived.Test.YtgkgpmnaflaaeaaLibFac
import Derived.Test.YtgkgpmnaflaaeaaLibMul
import Derived.Test.YtgkgpmnaflaaeaaLibParts
namespace Go.Proofs.Ytgkgpmnaflaaeaa.Pure
open Go.RowKit Go.Proofs.Ytgkgpmnaflaaeaa.PFnExactPartsFor Go.Proofs.YtgkgpmnaflaaeaaW.PrintWords Go.Proofs.YtgkgpmnaflaaeaaW.PrintLast Go.Proofs.YtgkgpmnaflaaeaaW.PrintMore Go.Proofs.Ytgkgpmnaflaaeaa.Lib
set_option linter.unusedVariables false
set_option linter.unusedSimpArgs false

theorem impl_gcdL : ∀ (m b a : Nat), b ≤ m → Ev (fun k => impl_gcd.l0 k (a : Int) (b : Int)) ((Nat.gcd a b : Nat) : Int) := by
  intro m
  induction m with
  | zero =>
    intro b a hb
    have e : b = 0 := by omega
    subst e
    rw [Nat.gcd_zero_right]
    refine Ev.step (fun k => ?_) (Ev.now _)
    simp only [impl_gcd.l0]
    rw [if_pos (by omega)]
  | succ m ih =>
    intro b a hb
    by_cases h0 : b = 0
    · subst h0
      rw [Nat.gcd_zero_right]
      refine Ev.step (fun k => ?_) (Ev.now _)
      simp only [impl_gcd.l0]
      rw [if_pos (by omega)]
    · have hlt : a % b < b := Nat.mod_lt _ (by omega)
      have h := ih (a % b) b (by omega)
      rw [gcd_step] at h
      refine Ev.step (fun k => ?_) h
      simp only [impl_gcd.l0, tmod_nat]
      rw [if_neg (by omega)]
theorem impl_gcd_ev (a b : Nat) : Ev (fun k => impl_gcd.f k (a : Int) (b : Int)) ((Nat.gcd a b : Nat) : Int) := by
  unfold impl_gcd.f
  exact impl_gcdL b b a (Nat.le_refl _)

theorem reverse_mid : ∀ (m : Nat) (A M B : List Int), M.length ≤ m → (A ++ M ++ B).length ≤ 1000000 →
    Ev (fun k => slices_Reverse_int_int.l0 k (A ++ M ++ B) (A.length : Int) ((A.length : Int) + (M.length : Int) - 1)) (A ++ M.reverse ++ B) := by
  intro m
  induction m with
  | zero =>
    intro A M B hm hl
    have e : M = [] := List.length_eq_zero_iff.1 (by omega)
    subst e
    refine Ev.step (fun k => ?_) (Ev.now _)
    simp only [slices_Reverse_int_int.l0]
    rw [if_neg (by simp; omega)]
    rfl
  | succ m ih =>
    intro A M B hm hl
    match M, hm, hl with
    | [], _, _ =>
      refine Ev.step (fun k => ?_) (Ev.now _)
      simp only [slices_Reverse_int_int.l0]
      rw [if_neg (by simp; omega)]
      rfl
    | x :: M, hm, hl =>
      rcases List.eq_nil_or_concat M with rfl | ⟨M', y, rfl⟩
      · refine Ev.step (fun k => ?_) (Ev.now _)
        simp only [slices_Reverse_int_int.l0]
        rw [if_neg (by simp)]
        rfl
      · have hlen : A.length + (M'.length + 2) + B.length ≤ 1000000 := by
          simp at hl ⊢; omega
        have ih := ih (A ++ [y]) M' (x :: B) (by simp at hm; omega) (by simp; omega)
        have e1 : A ++ [y] ++ M' ++ x :: B = A ++ (y :: M' ++ x :: B) := by simp
        rw [e1] at ih
        have er : A ++ [y] ++ M'.reverse ++ x :: B = A ++ (x :: M'.concat y).reverse ++ B := by simp
        rw [er] at ih
        have ei : ((A ++ [y]).length : Int) = (A.length : Int) + 1 := by simp
        rw [ei] at ih
        have ej : (A.length : Int) + 1 + (M'.length : Int) - 1 = (A.length : Int) + (M'.length : Int) := by omega
        rw [ej] at ih
        refine Ev.step (fun k => ?_) ih
        have e0 : A ++ x :: M'.concat y ++ B = A ++ (x :: (M' ++ y :: B)) := by simp
        have ej2 : (A.length : Int) + ((x :: M'.concat y).length : Int) - 1 = ((A.length + (M'.length + 1) : Nat) : Int) := by simp; omega
        simp only [slices_Reverse_int_int.l0]
        rw [e0, ej2]
        have r1 : rd (A ++ (x :: (M' ++ y :: B))) ((A.length + (M'.length + 1) : Nat) : Int) = y := by
          unfold rd
          rw [Int.toNat_natCast, List.getD_eq_getElem?_getD, List.getElem?_append_right (by omega)]
          simp
        have r2 : rd (A ++ (x :: (M' ++ y :: B))) (A.length : Int) = x := by
          unfold rd
          rw [Int.toNat_natCast, List.getD_eq_getElem?_getD, List.getElem?_append_right (by omega)]
          simp
        have hL : (A ++ (x :: (M' ++ y :: B))).length = A.length + (M'.length + 2) + B.length := by simp; omega
        rw [if_pos (by omega), if_pos (by omega), if_pos (by omega), if_pos (by omega), if_pos (by omega), r1, r2, w64 (by omega) (by omega), w64 (by omega) (by omega)]
        have s1 : ((A ++ (x :: (M' ++ y :: B))).set ((A.length : Nat) : Int).toNat y).set ((A.length + (M'.length + 1) : Nat) : Int).toNat x = A ++ (y :: M' ++ x :: B) := by
          rw [Int.toNat_natCast, Int.toNat_natCast, List.set_append_right _ _ (Nat.le_refl _), List.set_append_right _ _ (by omega)]
          simp
        rw [s1]
        congr 1
        omega
theorem reverse_ev (l : List Int) (hl : l.length ≤ 1000000) : Ev (fun k => slices_Reverse_int_int.f k l) l.reverse := by
  unfold slices_Reverse_int_int.f
  have h := reverse_mid l.length [] l [] (Nat.le_refl _) (by simpa using hl)
  simp only [List.nil_append, List.append_nil, List.length_nil] at h
  rw [w64 (by omega) (by omega)]
  refine Ev.congr (fun k => ?_) h
  congr 1
  omega

theorem sq_cast (a : Nat) : (a : Int) * (a : Int) = ((a * a : Nat) : Int) := by simp
theorem sq_le {a m : Nat} (h : a ≤ m) : a * a ≤ m * m := Nat.mul_le_mul h h
theorem sq_le' {a m : Nat} (h : a ≤ m) : a * a ≤ m * m := Nat.mul_le_mul h h

theorem impl_dvL {n : Nat} (h1 : 1 ≤ n) (h2 : n ≤ 10000) : ∀ (f d : Nat) (x y : List Int), d + f = 102 → 1 ≤ d → x.length < d → y.length < d →
    Ev (fun k => impl_divisors.l0 k (n : Int) x y (d : Int)) (x ++ ints (sm n f d) ++ (y ++ ints (bk n f d)).reverse) := by
  intro f
  induction f with
  | zero =>
    intro d x y hd hd1 hx hy
    have e : d = 102 := by omega
    subst e
    have hr := reverse_ev y (by omega)
    simp only [sm, bk, ints, List.map_nil, List.append_nil]
    refine Ev.step (f := fun k => (slices_Reverse_int_int.f k y).bind fun t => (if x.length + t.length < 17592186044416 then (some (x ++ t)) else (none))) (fun k => ?_) (Ev.bind hr (Ev.ite_pos (by rw [List.length_reverse]; omega) (Ev.now _)))
    simp only [impl_divisors.l0, sq_cast]
    rw [w64 (n := ((102 * 102 : Nat) : Int)) (by omega) (by omega), if_neg (by omega)]
  | succ f ih =>
    intro d x y hd hd1 hx hy
    have hdd := sq_le (show d ≤ 102 by omega)
    by_cases hc : d * d ≤ n
    · by_cases hm : n % d = 0
      · have hq : n / d ≤ n := Nat.div_le_self _ _
        by_cases hl : d * d < n
        · have ih := ih (d + 1) (x ++ [(d : Int)]) (y ++ [((n / d : Nat) : Int)]) (by omega) (by omega) (by simp; omega) (by simp; omega)
          simp only [sm, bk, if_pos hc, if_pos hm, if_pos hl]
          have e : x ++ ints (d :: sm n f (d + 1)) ++ (y ++ ints (n / d :: bk n f (d + 1))).reverse = x ++ [(d : Int)] ++ ints (sm n f (d + 1)) ++ (y ++ [((n / d : Nat) : Int)] ++ ints (bk n f (d + 1))).reverse := by simp [ints]
          rw [e]
          refine Ev.step (fun k => ?_) ih
          simp only [impl_divisors.l0, sq_cast, tmod_nat, tdiv_nat]
          rw [w64 (n := ((d * d : Nat) : Int)) (by omega) (by omega), if_pos (by omega), if_neg (by omega), if_pos (by omega), if_pos (by omega)]
          simp only [Option.bind_some]
          generalize n / d = q at *
          rw [if_pos (by omega), if_pos (by omega), w64 (n := (q : Int)) (by omega) (by omega), w64 (n := (d : Int) + 1) (by omega) (by omega)]
          rfl
        · have ih := ih (d + 1) (x ++ [(d : Int)]) y (by omega) (by omega) (by simp; omega) (by omega)
          simp only [sm, bk, if_pos hc, if_pos hm, if_neg hl]
          have e : x ++ ints (d :: sm n f (d + 1)) ++ (y ++ ints (bk n f (d + 1))).reverse = x ++ [(d : Int)] ++ ints (sm n f (d + 1)) ++ (y ++ ints (bk n f (d + 1))).reverse := by simp [ints]
          rw [e]
          refine Ev.step (fun k => ?_) ih
          simp only [impl_divisors.l0, sq_cast, tmod_nat, tdiv_nat]
          rw [w64 (n := ((d * d : Nat) : Int)) (by omega) (by omega), if_pos (by omega), if_neg (by omega), if_pos (by omega), if_pos (by omega)]
          simp only [Option.bind_some]
          rw [if_neg (by omega), w64 (n := (d : Int) + 1) (by omega) (by omega)]
          rfl
      · have ih := ih (d + 1) x y (by omega) (by omega) (by omega) (by omega)
        simp only [sm, bk, if_pos hc, if_neg hm]
        refine Ev.step (fun k => ?_) ih
        simp only [impl_divisors.l0, sq_cast, tmod_nat]
        rw [w64 (n := ((d * d : Nat) : Int)) (by omega) (by omega), if_pos (by omega), if_neg (by omega), if_neg (by omega), w64 (n := (d : Int) + 1) (by omega) (by omega)]
        rfl
    · have hr := reverse_ev y (by omega)
      simp only [sm, bk, if_neg hc, ints, List.map_nil, List.append_nil]
      refine Ev.step (f := fun k => (slices_Reverse_int_int.f k y).bind fun t => (if x.length + t.length < 17592186044416 then (some (x ++ t)) else (none))) (fun k => ?_) (Ev.bind hr (Ev.ite_pos (by rw [List.length_reverse]; omega) (Ev.now _)))
      simp only [impl_divisors.l0, sq_cast]
      rw [w64 (n := ((d * d : Nat) : Int)) (by omega) (by omega), if_neg (by omega)]
theorem impl_dv {n : Nat} (h1 : 1 ≤ n) (h2 : n ≤ 10000) : Ev (fun k => impl_divisors.f k (n : Int)) (ints (dv n)) := by
  unfold impl_divisors.f
  have h := impl_dvL h1 h2 101 1 [] [] (by omega) (by omega) (by simp) (by simp)
  have e : ints (dv n) = [] ++ ints (sm n 101 1) ++ ([] ++ ints (bk n 101 1)).reverse := by simp [dv, ints]
  rw [e]
  exact h

theorem impl_strip (x : List (List Int)) (hx : x.length ≤ 1000) (p : Nat) (hp : 2 ≤ p) (hp2 : p ≤ 10000) (R : List (List Int)) : ∀ (f n c : Nat), 1 ≤ n → n ≤ 10000 → n < 2 ^ f → c + f ≤ 1000 →
    Ev (fun k => impl_factors.l0 k ((strip f n p c).1 : Int) (if 0 < (strip f n p c).2 then x ++ [[(p : Int), ((strip f n p c).2 : Int)]] else x) ((p : Int) + 1)) R →
    Ev (fun k => impl_factors.l1 k (n : Int) x (p : Int) (c : Int)) R := by
  intro f
  induction f with
  | zero => intro n c h1 _ h2; simp at h2; omega
  | succ f ih =>
    intro n c h1 h3 h2 hc hR
    by_cases h : n % p = 0
    · have e := Nat.mul_div_cancel' (Nat.dvd_of_mod_eq_zero h)
      have hq1 : 1 ≤ n / p := by
        refine Nat.pos_of_ne_zero (fun hz => ?_)
        rw [hz] at e; omega
      have hq2 : n / p < 2 ^ f := by
        have : 2 * (n / p) ≤ p * (n / p) := Nat.mul_le_mul_right _ hp
        rw [Nat.pow_succ] at h2
        omega
      have hq3 : n / p ≤ 10000 := Nat.le_trans (Nat.div_le_self _ _) h3
      simp only [strip, if_pos h] at hR
      refine Ev.step (fun k => ?_) (ih (n / p) (c + 1) hq1 hq3 hq2 (by omega) hR)
      simp only [impl_factors.l1, tmod_nat, tdiv_nat]
      generalize n / p = q at *
      rw [if_neg (by omega), if_pos (by omega), w64 (n := (q : Int)) (by omega) (by omega), w64 (n := (c : Int) + 1) (by omega) (by omega)]
      rfl
    · simp only [strip, if_neg h] at hR
      refine Ev.step (fun k => ?_) hR
      simp only [impl_factors.l1, tmod_nat]
      rw [if_neg (by omega), if_neg (by omega)]
      by_cases hc0 : 0 < c
      · rw [if_pos (by omega), if_pos (by omega), if_pos hc0, w64 (by omega) (by omega)]
      · rw [if_neg (by omega), if_neg hc0, w64 (by omega) (by omega)]
theorem impl_facL : ∀ (f n p : Nat) (x : List (List Int)), 1 ≤ n → n ≤ 10000 → 2 ≤ p → p ≤ 10001 → (n ≤ 1 ∨ (103 ≤ p + f ∧ 1 ≤ f)) → x.length + f ≤ 500 →
    Ev (fun k => impl_factors.l0 k (n : Int) x (p : Int)) (x ++ fints (facI f n p)) := by
  intro f
  induction f with
  | zero =>
    intro n p x h1 h2 h3 h4 h5 h6
    have hn : n = 1 := by omega
    subst hn
    refine Ev.step (fun k => ?_) (Ev.now _)
    simp only [impl_factors.l0]
    rw [if_neg (by omega)]
    simp [facI, fints]
  | succ f ih =>
    intro n p x h1 h2 h3 h4 h5 h6
    by_cases hn : 1 < n
    · have hpp : p * p ≤ 10001 * 10001 := sq_le h4
      by_cases hc : p * p > n
      · -- the number itself
        have hs := strip_self (show 2 ≤ n by omega)
        have ih := ih 1 (n + 1) (x ++ [[(n : Int), 1]]) (by omega) (by omega) (by omega) (by omega) (by omega) (by simp; omega)
        have h := impl_strip x (by omega) n (by omega) h2 (x ++ [[(n : Int), 1]] ++ fints (facI f 1 (n + 1))) 14 n 0 h1 h2 (by omega) (by omega) (by rw [hs]; exact ih)
        have e : x ++ fints (facI (f + 1) n p) = x ++ [[(n : Int), 1]] ++ fints (facI f 1 (n + 1)) := by
          rw [facI_prime f p hn hc, facI_one f _ (Nat.le_refl _)]; simp [fints]
        rw [e]
        refine Ev.step (f := fun k => impl_factors.j1 k (n : Int) x (n : Int)) (fun k => ?_) (Ev.step (fun k => ?_) h)
        · simp only [impl_factors.l0, sq_cast]
          rw [if_pos (by omega), w64 (n := ((p * p : Nat) : Int)) (by omega) (by omega), if_pos (by omega)]
        · simp only [impl_factors.j1]
          rfl
      · have hp100 : p ≤ 100 := by
          refine Nat.le_of_not_lt (fun hp => ?_)
          have : 101 * 101 ≤ p * p := sq_le hp
          omega
        obtain ⟨s1, s2, s3, s4, s5, s6, s7⟩ := strip_spec p h3 14 n 0 h1 (by omega)
        have e : x ++ fints (facI (f + 1) n p) = (if 0 < (strip 14 n p 0).2 then x ++ [[(p : Int), ((strip 14 n p 0).2 : Int)]] else x) ++ fints (facI f (strip 14 n p 0).1 (p + 1)) := by
          rw [facI_succ, if_pos hn]
          simp only [if_neg hc]
          split <;> simp [fints]
        rw [e]
        have hlen : (if 0 < (strip 14 n p 0).2 then x ++ [[(p : Int), ((strip 14 n p 0).2 : Int)]] else x).length + f ≤ 500 := by
          by_cases hcc : 0 < (strip 14 n p 0).2
          · rw [if_pos hcc]; simp; omega
          · rw [if_neg hcc]; omega
        have ih := ih (strip 14 n p 0).1 (p + 1) (if 0 < (strip 14 n p 0).2 then x ++ [[(p : Int), ((strip 14 n p 0).2 : Int)]] else x) s1 (by omega) (by omega) (by omega) (.inr ⟨by omega, by omega⟩) hlen
        have h := impl_strip x (by omega) p h3 (by omega) _ 14 n 0 h1 h2 (by omega) (by omega) ih
        refine Ev.step (f := fun k => impl_factors.j1 k (n : Int) x (p : Int)) (fun k => ?_) (Ev.step (fun k => ?_) h)
        · simp only [impl_factors.l0, sq_cast]
          rw [if_pos (by omega), w64 (n := ((p * p : Nat) : Int)) (by omega) (by omega), if_neg (by omega)]
        · simp only [impl_factors.j1]
          rfl
    · rw [facI_one _ _ (by omega)]
      refine Ev.step (fun k => ?_) (Ev.now _)
      simp only [impl_factors.l0]
      rw [if_neg (by omega)]
      simp [fints]
theorem impl_fac {n : Nat} (h1 : 1 ≤ n) (h2 : n ≤ 10000) : Ev (fun k => impl_factors.f k (n : Int)) (fints (fac n)) := by
  unfold impl_factors.f
  have h := impl_facL 101 n 2 [] h1 h2 (by omega) (by omega) (.inr ⟨by omega, by omega⟩) (by simp)
  rw [List.nil_append] at h
  exact h

theorem fints_at (l : List (Nat × Nat)) (i : Nat) (x : Nat × Nat) (h : l[i]? = some x) : rd_L1 (fints l) (i : Int) = [(x.1 : Int), (x.2 : Int)] := by
  unfold rd_L1 fints
  rw [Int.toNat_natCast, List.getD_eq_getElem?_getD, List.getElem?_map, h]
  rfl

theorem impl_sgL (l : List (Nat × Nat)) (hl : l.length ≤ 1000) : ∀ (r : List (Nat × Nat)) (i : Nat) (s : Int), l.drop i = r → i ≤ l.length → -1 ≤ s → s ≤ 1 →
    Ev (fun k => impl_sign.l0 k s (fints l) (l.length : Int) (i : Int)) (sgL s r) := by
  intro r
  induction r with
  | nil =>
    intro i s hd hi _ _
    have : l.length ≤ i := List.drop_eq_nil_iff.1 hd
    refine Ev.step (fun k => ?_) (Ev.now _)
    simp only [impl_sign.l0]
    rw [if_neg (by omega)]
    rfl
  | cons x r ih =>
    intro i s hd hi hs1 hs2
    obtain ⟨hlt, hx, hr⟩ := drop_at hd
    simp only [sgL]
    by_cases hc : 1 < x.2
    · rw [if_pos hc]
      refine Ev.step (fun k => ?_) (Ev.now _)
      simp only [impl_sign.l0, fints_at l i x hx, fints_length, rd_p0, rd_p1, len_p]
      rw [if_pos (by omega), if_pos (by omega), if_pos (by omega), if_pos (by omega), if_pos (by omega)]
    · rw [if_neg hc]
      refine Ev.step (fun k => ?_) (ih (i + 1) (-s) hr hlt (by omega) (by omega))
      simp only [impl_sign.l0, fints_at l i x hx, fints_length, rd_p0, rd_p1, len_p]
      rw [if_pos (by omega), if_pos (by omega), if_pos (by omega), if_pos (by omega), if_neg (by omega), w64 (by omega) (by omega), w64 (by omega) (by omega)]
      rfl
theorem impl_sg {n : Nat} (h1 : 1 ≤ n) (h2 : n ≤ 10000) : Ev (fun k => impl_sign.f k (n : Int)) (sg n) := by
  unfold impl_sign.f
  refine Ev.bind (impl_fac h1 h2) ?_
  rw [fints_length]
  exact impl_sgL (fac n) (fac_length n) (fac n) 0 1 rfl (Nat.zero_le _) (by omega) (by omega)

theorem impl_rmL {q : Nat} (h1 : 1 ≤ q) (h2 : q ≤ 60) (l : List Nat) (hl : l.length ≤ 60) (hm : ∀ d ∈ l, 1 ≤ d ∧ d ≤ 60 ∧ q % d = 0) : ∀ (r : List Nat) (i : Nat) (s : Int), l.drop i = r → i ≤ l.length → -(60 * (i : Int)) ≤ s → s ≤ 60 * (i : Int) →
    Ev (fun k => impl_sumFor.l0 k (q : Int) s (ints l) (l.length : Int) (i : Int)) (s + rmL q r) := by
  intro r
  induction r with
  | nil =>
    intro i s hd hi _ _
    have : l.length ≤ i := List.drop_eq_nil_iff.1 hd
    refine Ev.step (fun k => ?_) (Ev.now _)
    simp only [impl_sumFor.l0]
    rw [if_neg (by omega)]
    simp [rmL]
  | cons x r ih =>
    intro i s hd hi hs1 hs2
    obtain ⟨hlt, hx, hr⟩ := drop_at hd
    have hxm := hm x (List.mem_of_getElem? hx)
    have ht := rm_term (q := q) hxm.2.1
    have hq1 : 1 ≤ q / x := by
      have e := mod_mul hxm.2.2
      refine Nat.pos_of_ne_zero (fun hz => ?_)
      rw [hz] at e; omega
    have hq2 : q / x ≤ q := Nat.div_le_self _ _
    have hsg := impl_sg hq1 (by omega)
    simp only [rmL]
    rw [← Int.add_assoc]
    refine Ev.step (f := fun k => (impl_sign.f k ((q / x : Nat) : Int)).bind fun t => (impl_sumFor.l0 k (q : Int) (wrap64 (s + (wrap64 ((x : Int) * t)))) (ints l) (l.length : Int) (wrap64 ((i : Int) + 1)))) (fun k => ?_) (Ev.bind hsg ?_)
    · simp only [impl_sumFor.l0, ints_get hx, ints_length, tdiv_nat]
      generalize q / x = z at *
      rw [if_pos (by omega), if_pos (by omega), if_pos (by omega), if_neg (by omega), w64 (n := (z : Int)) (by omega) (by omega)]
    · have ih := ih (i + 1) (s + (x : Int) * sg (q / x)) hr hlt (by generalize (x : Int) * sg (q / x) = z at *; omega) (by generalize (x : Int) * sg (q / x) = z at *; omega)
      generalize (x : Int) * sg (q / x) = z at *
      rw [w64 (n := z) (by omega) (by omega), w64 (n := s + z) (by omega) (by omega), w64 (by omega) (by omega)]
      exact ih
theorem impl_rm {q n : Nat} (h1 : 1 ≤ q) (h2 : q ≤ 60) (h3 : 1 ≤ n) : Ev (fun k => impl_sumFor.f k (q : Int) (n : Int)) (rm q (Nat.gcd q n)) := by
  have hg1 : 1 ≤ Nat.gcd q n := Nat.gcd_pos_of_pos_left n h1
  have hg2 : Nat.gcd q n ≤ q := Nat.gcd_le_left n h1
  have hgd : Nat.gcd q n ∣ q := Nat.gcd_dvd_left q n
  obtain ⟨a, b⟩ := dv_small hg1 (by omega)
  unfold impl_sumFor.f
  refine Ev.bind (impl_gcd_ev q n) (Ev.bind (impl_dv hg1 (by omega)) ?_)
  rw [ints_length]
  have h := impl_rmL h1 h2 (dv (Nat.gcd q n)) b (fun d hd => ⟨(a d hd).1, (a d hd).2.1, Nat.mod_eq_zero_of_dvd (Nat.dvd_trans (Nat.dvd_of_mod_eq_zero (a d hd).2.2) hgd)⟩) (dv (Nat.gcd q n)) 0 0 rfl (Nat.zero_le _) (by omega) (by omega)
  rw [Int.zero_add] at h
  exact h

theorem l1In_eq (a b c : Int) : spec_l1In.f a b c = some (decide (b ≤ a ∧ a ≤ c)) := by
  unfold spec_l1In.f
  by_cases h : a ≥ b
  · rw [if_pos h]; simp [h]
  · rw [if_neg h]; congr 1; symm; simp; intro h2; omega

theorem spec_gcdL : ∀ (m b a : Nat), b ≤ m → Ev (fun k => spec_CommonOf.l0 k (a : Int) (b : Int)) ((Nat.gcd a b : Nat) : Int) := by
  intro m
  induction m with
  | zero =>
    intro b a hb
    have e : b = 0 := by omega
    subst e
    rw [Nat.gcd_zero_right]
    refine Ev.step (fun k => ?_) (Ev.now _)
    simp only [spec_CommonOf.l0]
    rw [if_neg (by omega)]
  | succ m ih =>
    intro b a hb
    by_cases h0 : b = 0
    · subst h0
      rw [Nat.gcd_zero_right]
      refine Ev.step (fun k => ?_) (Ev.now _)
      simp only [spec_CommonOf.l0]
      rw [if_neg (by omega)]
    · have hlt : a % b < b := Nat.mod_lt _ (by omega)
      have h := ih (a % b) b (by omega)
      rw [gcd_step] at h
      refine Ev.step (fun k => ?_) h
      simp only [spec_CommonOf.l0, tmod_nat]
      rw [if_pos (by omega), if_neg (by omega)]
theorem spec_gcd_ev {a b : Nat} (h1 : 1 ≤ a) (h2 : a ≤ 10000) (h3 : 1 ≤ b) (h4 : b ≤ 10000) : Ev (fun k => spec_CommonOf.f k (a : Int) (b : Int)) ((Nat.gcd a b : Nat) : Int) := by
  unfold spec_CommonOf.f
  simp only [l1In_eq, Option.bind_some, show (1 : Int) ≤ a ∧ (a : Int) ≤ 10000 from ⟨by omega, by omega⟩, show (1 : Int) ≤ b ∧ (b : Int) ≤ 10000 from ⟨by omega, by omega⟩, and_self, decide_true, if_true, Bool.not_true]
  refine Ev.step (fun k => ?_) (spec_gcdL b b a (Nat.le_refl _))
  simp only [spec_CommonOf.j0]
  rw [if_neg (by simp)]

theorem spec_dvL {n : Nat} (h2 : n ≤ 10000) : ∀ (f d : Nat) (x : List Int), d + f = n + 1 → 1 ≤ d → x.length < d →
    Ev (fun k => spec_DivisorsOf.l0 k (n : Int) x (d : Int)) (x ++ ints (dvF n d f)) := by
  intro f
  induction f with
  | zero =>
    intro d x hd hd1 hx
    simp only [dvF, List.range'_zero, List.filter_nil, ints, List.map_nil, List.append_nil]
    refine Ev.step (f := fun k => spec_DivisorsOf.j1 k (n : Int) x (d : Int) false) (fun k => ?_) (Ev.step (fun k => ?_) (Ev.now _))
    · simp only [spec_DivisorsOf.l0]
      rw [if_neg (by omega)]
    · simp only [spec_DivisorsOf.j1]
      rw [if_neg (by simp)]
  | succ f ih =>
    intro d x hd hd1 hx
    rw [dvF_succ]
    by_cases hm : n % d = 0
    · have ih := ih (d + 1) (x ++ [(d : Int)]) (by omega) (by omega) (by simp; omega)
      rw [if_pos hm, show x ++ ints (d :: dvF n (d + 1) f) = x ++ [(d : Int)] ++ ints (dvF n (d + 1) f) by simp [ints]]
      refine Ev.step (f := fun k => spec_DivisorsOf.j1 k (n : Int) x (d : Int) true) (fun k => ?_) (Ev.step (fun k => ?_) ih)
      · simp only [spec_DivisorsOf.l0]
        rw [if_pos (by omega), decide_eq_true (by omega)]
      · simp only [spec_DivisorsOf.j1, if_true, tmod_nat]
        rw [if_neg (by omega), if_pos (by omega), if_pos (by omega), w64 (by omega) (by omega)]
        rfl
    · have ih := ih (d + 1) x (by omega) (by omega) (by omega)
      rw [if_neg hm]
      refine Ev.step (f := fun k => spec_DivisorsOf.j1 k (n : Int) x (d : Int) true) (fun k => ?_) (Ev.step (fun k => ?_) ih)
      · simp only [spec_DivisorsOf.l0]
        rw [if_pos (by omega), decide_eq_true (by omega)]
      · simp only [spec_DivisorsOf.j1, if_true, tmod_nat]
        rw [if_neg (by omega), if_neg (by omega), w64 (by omega) (by omega)]
        rfl
theorem spec_dv {n : Nat} (h1 : 1 ≤ n) (h2 : n ≤ 10000) : Ev (fun k => spec_DivisorsOf.f k (n : Int)) (ints (dv n)) := by
  unfold spec_DivisorsOf.f
  have h := spec_dvL h2 n 1 [] (by omega) (by omega) (by simp)
  rw [List.nil_append] at h
  rw [dv_eq h1 h2]
  exact h
theorem spec_dv_no {a : Int} (h : ¬ (1 ≤ a ∧ a ≤ 10000)) : Ev (fun k => spec_DivisorsOf.f k a) [] := by
  unfold spec_DivisorsOf.f
  refine Ev.step (f := fun k => spec_DivisorsOf.j1 k a [] 1 false) (fun k => ?_) (Ev.step (fun k => ?_) (Ev.now _))
  · simp only [spec_DivisorsOf.l0]
    by_cases h1 : 1 ≤ a
    · rw [if_pos h1, decide_eq_false (by omega)]
    · rw [if_neg h1]
  · simp only [spec_DivisorsOf.j1]
    rw [if_neg (by simp)]

theorem spec_strip (z : Int) (x : List (List Int)) (hx : x.length ≤ 1000) (p : Nat) (hp : 2 ≤ p) (hp2 : p ≤ 10000) (R : List (List Int)) : ∀ (f n c : Nat), 1 ≤ n → n ≤ 10000 → n < 2 ^ f → c + f ≤ 1000 →
    Ev (fun k => spec_FactorsOf.l0 k z (if 0 < (strip f n p c).2 then x ++ [[(p : Int), ((strip f n p c).2 : Int)]] else x) ((strip f n p c).1 : Int) ((p : Int) + 1)) R →
    Ev (fun k => spec_FactorsOf.l1 k z x (n : Int) (p : Int) (c : Int)) R := by
  intro f
  induction f with
  | zero => intro n c h1 _ h2; simp at h2; omega
  | succ f ih =>
    intro n c h1 h3 h2 hc hR
    by_cases h : n % p = 0
    · have e := Nat.mul_div_cancel' (Nat.dvd_of_mod_eq_zero h)
      have hq1 : 1 ≤ n / p := by
        refine Nat.pos_of_ne_zero (fun hz => ?_)
        rw [hz] at e; omega
      have hq2 : n / p < 2 ^ f := by
        have : 2 * (n / p) ≤ p * (n / p) := Nat.mul_le_mul_right _ hp
        rw [Nat.pow_succ] at h2
        omega
      have hq3 : n / p ≤ 10000 := Nat.le_trans (Nat.div_le_self _ _) h3
      simp only [strip, if_pos h] at hR
      refine Ev.step (fun k => ?_) (ih (n / p) (c + 1) hq1 hq3 hq2 (by omega) hR)
      simp only [spec_FactorsOf.l1, tmod_nat, tdiv_nat]
      generalize n / p = q at *
      rw [if_neg (by omega), if_pos (by omega), w64 (n := (q : Int)) (by omega) (by omega), w64 (n := (c : Int) + 1) (by omega) (by omega)]
      rfl
    · simp only [strip, if_neg h] at hR
      refine Ev.step (fun k => ?_) hR
      simp only [spec_FactorsOf.l1, tmod_nat]
      rw [if_neg (by omega), if_neg (by omega)]
      by_cases hc0 : 0 < c
      · rw [if_pos (by omega), if_pos (by omega), if_pos hc0, w64 (by omega) (by omega)]
      · rw [if_neg (by omega), if_neg hc0, w64 (by omega) (by omega)]
theorem spec_fac_step {z : Int} (hz : 1 ≤ z ∧ z ≤ 10000) (x R : List (List Int)) (n p : Nat) (h : p ≤ n) (k : Ev (fun k => spec_FactorsOf.l1 k z x (n : Int) (p : Int) 0) R) :
    Ev (fun k => spec_FactorsOf.l0 k z x (n : Int) (p : Int)) R := by
  refine Ev.step (f := fun k => spec_FactorsOf.j1 k z x (n : Int) (p : Int) true) (fun k => ?_) (Ev.step (fun k => ?_) k)
  · simp only [spec_FactorsOf.l0]
    rw [if_pos (by omega), l1In_eq, decide_eq_true hz]
    rfl
  · simp only [spec_FactorsOf.j1, if_true]
theorem spec_fac_end (z : Int) (x : List (List Int)) (n p : Nat) (h : n < p) : Ev (fun k => spec_FactorsOf.l0 k z x (n : Int) (p : Int)) x := by
  refine Ev.step (f := fun k => spec_FactorsOf.j1 k z x (n : Int) (p : Int) false) (fun k => ?_) (Ev.step (fun k => ?_) (Ev.now _))
  · simp only [spec_FactorsOf.l0]
    rw [if_neg (by omega)]
  · simp only [spec_FactorsOf.j1]
    rw [if_neg (by simp)]
/-- What is left is a prime: no smaller number from p on divides it. -/
theorem spec_fac_tail {z : Int} (hz : 1 ≤ z ∧ z ≤ 10000) (x : List (List Int)) (hx : x.length ≤ 900) (n : Nat) (h1 : 1 < n) (h2 : n ≤ 10000) : ∀ (m p : Nat), p + m = n → 2 ≤ p → n < p * p → (∀ q, 2 ≤ q → q < p → n % q ≠ 0) →
    Ev (fun k => spec_FactorsOf.l0 k z x (n : Int) (p : Int)) (x ++ [[(n : Int), 1]]) := by
  intro m
  induction m with
  | zero =>
    intro p hp hp2 hpp hq
    have e : p = n := by omega
    subst e
    have hs := strip_self (show 2 ≤ p by omega)
    refine spec_fac_step hz x _ p p (Nat.le_refl _) (spec_strip z x (by omega) p (by omega) h2 _ 14 p 0 (by omega) h2 (by omega) (by omega) ?_)
    rw [hs]
    exact spec_fac_end z _ 1 (p + 1) (by omega)
  | succ m ih =>
    intro p hp hp2 hpp hq
    have hnd : n % p ≠ 0 := by
      intro h0
      have e := Nat.mul_div_cancel' (Nat.dvd_of_mod_eq_zero h0)
      generalize n / p = q at *
      have hq2 : 2 ≤ q := by
        refine Nat.le_of_not_lt (fun h => ?_)
        have : q = 0 ∨ q = 1 := by omega
        rcases this with rfl | rfl <;> omega
      have hqp : q < p := by
        refine Nat.lt_of_not_le (fun h => ?_)
        have : p * p ≤ p * q := Nat.mul_le_mul_left p h
        omega
      exact hq q hq2 hqp (by rw [← e]; exact Nat.mul_mod_left _ _)
    refine spec_fac_step hz x _ n p (by omega) (spec_strip z x (by omega) p (by omega) (by omega) _ 14 n 0 (by omega) h2 (by omega) (by omega) ?_)
    rw [strip_none hnd]
    refine ih (p + 1) (by omega) (by omega) ?_ (fun q hq1 hq2 => ?_)
    · have : p * p ≤ (p + 1) * (p + 1) := Nat.mul_le_mul (by omega) (by omega)
      omega
    · by_cases e : q = p
      · subst e; exact hnd
      · exact hq q hq1 (by omega)
theorem spec_facL {z : Int} (hz : 1 ≤ z ∧ z ≤ 10000) : ∀ (m f n p : Nat) (x : List (List Int)), n + 1 - p ≤ m → 1 ≤ n → n ≤ 10000 → 2 ≤ p → (∀ q, 2 ≤ q → q < p → n % q ≠ 0) → (n ≤ 1 ∨ (103 ≤ p + f ∧ 1 ≤ f)) → x.length + f ≤ 500 →
    Ev (fun k => spec_FactorsOf.l0 k z x (n : Int) (p : Int)) (x ++ fints (facI f n p)) := by
  intro m
  induction m with
  | zero =>
    intro f n p x hm h1 h2 h3 hq h5 h6
    have hn : ¬ 1 < n := fun hn => hq n (by omega) (by omega) (Nat.mod_self n)
    rw [facI_one _ _ (by omega)]
    rw [show x ++ fints [] = x by simp [fints]]
    exact spec_fac_end z x n p (by omega)
  | succ m ih =>
    intro f n p x hm h1 h2 h3 hq h5 h6
    by_cases hn : 1 < n
    · by_cases hc : n < p * p
      · obtain ⟨f, rfl⟩ : ∃ g, f = g + 1 := ⟨f - 1, by omega⟩
        rw [facI_prime f p hn hc]
        have hpn : p ≤ n := Nat.le_of_not_lt (fun h => hq n (by omega) h (Nat.mod_self n))
        exact spec_fac_tail hz x (by omega) n hn h2 (n - p) p (by omega) h3 hc hq
      · have hp100 : p ≤ 100 := by
          refine Nat.le_of_not_lt (fun hp => ?_)
          have : 101 * 101 ≤ p * p := sq_le hp
          omega
        have hpn : p * 2 ≤ p * p := Nat.mul_le_mul_left p h3
        obtain ⟨f, rfl⟩ : ∃ g, f = g + 1 := ⟨f - 1, by omega⟩
        obtain ⟨s1, s2, s3, s4, s5, s6, s7⟩ := strip_spec p h3 14 n 0 h1 (by omega)
        have e : x ++ fints (facI (f + 1) n p) = (if 0 < (strip 14 n p 0).2 then x ++ [[(p : Int), ((strip 14 n p 0).2 : Int)]] else x) ++ fints (facI f (strip 14 n p 0).1 (p + 1)) := by
          have hc' : ¬ (p * p > n) := hc
          rw [facI_succ, if_pos hn]
          simp only [if_neg hc']
          split <;> simp [fints]
        rw [e]
        have hlen : (if 0 < (strip 14 n p 0).2 then x ++ [[(p : Int), ((strip 14 n p 0).2 : Int)]] else x).length + f ≤ 500 := by
          by_cases hcc : 0 < (strip 14 n p 0).2
          · rw [if_pos hcc]; simp; omega
          · rw [if_neg hcc]; omega
        refine spec_fac_step hz x _ n p (by omega) (spec_strip z x (by omega) p h3 (by omega) _ 14 n 0 h1 h2 (by omega) (by omega) ?_)
        refine ih f (strip 14 n p 0).1 (p + 1) _ (by omega) s1 (by omega) (by omega) (fun q hq1 hq2 h0 => ?_) (.inr ⟨by omega, by omega⟩) hlen
        by_cases e : q = p
        · subst e; exact s4 h0
        · refine hq q hq1 (by omega) (Nat.mod_eq_zero_of_dvd (Nat.dvd_trans (Nat.dvd_of_mod_eq_zero h0) s3))
    · rw [facI_one _ _ (by omega), show x ++ fints [] = x by simp [fints]]
      exact spec_fac_end z x n p (by omega)
theorem spec_fac {n : Nat} (h1 : 1 ≤ n) (h2 : n ≤ 10000) : Ev (fun k => spec_FactorsOf.f k (n : Int)) (fints (fac n)) := by
  unfold spec_FactorsOf.f
  have h := spec_facL (z := (n : Int)) ⟨by omega, by omega⟩ n 101 n 2 [] (by omega) h1 h2 (by omega) (fun q h1 h2 => by omega) (.inr ⟨by omega, by omega⟩) (by simp)
  rw [List.nil_append] at h
  exact h
theorem spec_fac_no {a : Int} (h : ¬ (1 ≤ a ∧ a ≤ 10000)) : Ev (fun k => spec_FactorsOf.f k a) [] := by
  unfold spec_FactorsOf.f
  refine Ev.step (f := fun k => spec_FactorsOf.j1 k a [] a 2 false) (fun k => ?_) (Ev.step (fun k => ?_) (Ev.now _))
  · simp only [spec_FactorsOf.l0]
    by_cases h1 : 2 ≤ a
    · rw [if_pos h1, l1In_eq, decide_eq_false h]
      rfl
    · rw [if_neg h1]
  · simp only [spec_FactorsOf.j1]
    rw [if_neg (by simp)]

theorem spec_sgL (l : List (Nat × Nat)) (hl : l.length ≤ 1000) (hm : ∀ x ∈ l, 2 ≤ x.1 ∧ x.1 ≤ 10000 ∧ 1 ≤ x.2 ∧ x.2 ≤ 14) : ∀ (r : List (Nat × Nat)) (i : Nat) (s : Int), l.drop i = r → i ≤ l.length → -1 ≤ s → s ≤ 1 →
    Ev (fun k => spec_l2Named.l2 k 6 (fints l) s (i : Int)) (sgL s r) := by
  intro r
  induction r with
  | nil =>
    intro i s hd hi _ _
    have : l.length ≤ i := List.drop_eq_nil_iff.1 hd
    refine Ev.step (fun k => ?_) (Ev.now _)
    simp only [spec_l2Named.l2, fints_length]
    rw [if_neg (by omega)]
    rfl
  | cons x r ih =>
    intro i s hd hi hs1 hs2
    obtain ⟨hlt, hx, hr⟩ := drop_at hd
    have hxm := hm x (List.mem_of_getElem? hx)
    have t2 : Int.tmod (x.2 : Int) 2 = ((x.2 % 2 : Nat) : Int) := tmod_nat _ 2
    simp only [sgL]
    by_cases hc : 1 < x.2
    · rw [if_pos hc]
      refine Ev.step (f := fun k => spec_l2Named.j3 k 6 (fints l) s (i : Int) true) (fun k => ?_) (Ev.step (fun k => ?_) (Ev.now _))
      · simp only [spec_l2Named.l2, fints_at l i x hx, fints_length, rd_p0, rd_p1, len_p]
        rw [if_pos (by omega), if_pos trivial, if_pos (by omega), if_pos (by omega), decide_eq_true (by omega)]
      · simp only [spec_l2Named.j3, if_true]
    · rw [if_neg hc]
      refine Ev.step (f := fun k => spec_l2Named.j3 k 6 (fints l) s (i : Int) false) (fun k => ?_) (Ev.step (fun k => ?_) (ih (i + 1) (-s) hr hlt (by omega) (by omega)))
      · simp only [spec_l2Named.l2, fints_at l i x hx, fints_length, rd_p0, rd_p1, len_p]
        rw [if_pos (by omega), if_pos trivial, if_pos (by omega), if_pos (by omega), decide_eq_false (by omega)]
      · simp only [spec_l2Named.j3, fints_at l i x hx, fints_length, rd_p0, rd_p1, len_p, t2]
        rw [if_neg (by simp), if_pos (by omega), if_pos (by omega), if_pos (by omega), if_pos (by omega), w64 (by omega) (by omega), w64 (by omega) (by omega)]
        rfl
theorem spec_named6 {n : Nat} (h1 : 1 ≤ n) (h2 : n ≤ 10000) : Ev (fun k => spec_l2Named.f k 6 (n : Int)) (sg n) := by
  unfold spec_l2Named.f
  refine Ev.bind (spec_fac h1 h2) (Ev.bind (spec_dv h1 h2) ?_)
  refine Ev.ite_neg (by decide) (Ev.ite_neg (by decide) (Ev.ite_neg (by decide) (Ev.ite_neg (by decide) (Ev.ite_neg (by decide) (Ev.ite_neg (by decide) ?_)))))
  exact spec_sgL (fac n) (fac_length n) (fac_mem h1 h2) (fac n) 0 1 rfl (Nat.zero_le _) (by omega) (by omega)
theorem spec_sg {n : Nat} (h1 : 1 ≤ n) (h2 : n ≤ 10000) : Ev (fun k => spec_SignOf.f k (n : Int)) (sg n) := by
  unfold spec_SignOf.f
  simp only [l1In_eq, Option.bind_some, show (1 : Int) ≤ n ∧ (n : Int) ≤ 10000 from ⟨by omega, by omega⟩, and_self, decide_true, if_true]
  exact Ev.bind (spec_named6 h1 h2) (Ev.now _)
theorem spec_sg_no {a : Int} (h : ¬ (1 ≤ a ∧ a ≤ 10000)) : Ev (fun k => spec_SignOf.f k a) 0 := by
  unfold spec_SignOf.f
  simp only [l1In_eq, Option.bind_some, h, decide_false]
  exact Ev.now _

theorem spec_rmL {q : Nat} (h1 : 1 ≤ q) (h2 : q ≤ 60) (l : List Nat) (hl : l.length ≤ 60) (hm : ∀ d ∈ l, 1 ≤ d ∧ d ≤ 60 ∧ q % d = 0) : ∀ (r : List Nat) (i : Nat) (s : Int), l.drop i = r → i ≤ l.length → -(60 * (i : Int)) ≤ s → s ≤ 60 * (i : Int) →
    Ev (fun k => spec_SumFor.l0 k (q : Int) s (ints l) (i : Int)) (s + rmL q r) := by
  intro r
  induction r with
  | nil =>
    intro i s hd hi _ _
    have : l.length ≤ i := List.drop_eq_nil_iff.1 hd
    refine Ev.step (fun k => ?_) (Ev.now _)
    simp only [spec_SumFor.l0, ints_length]
    rw [if_neg (by omega)]
    simp [rmL]
  | cons x r ih =>
    intro i s hd hi hs1 hs2
    obtain ⟨hlt, hx, hr⟩ := drop_at hd
    have hxm := hm x (List.mem_of_getElem? hx)
    have ht := rm_term (q := q) hxm.2.1
    have hq1 : 1 ≤ q / x := by
      have e := mod_mul hxm.2.2
      refine Nat.pos_of_ne_zero (fun hz => ?_)
      rw [hz] at e; omega
    have hq2 : q / x ≤ q := Nat.div_le_self _ _
    have hsg := spec_sg hq1 (by omega)
    simp only [rmL]
    rw [← Int.add_assoc]
    refine Ev.step (f := fun k => (spec_SignOf.f k ((q / x : Nat) : Int)).bind fun t => (spec_SumFor.l0 k (q : Int) (wrap64 (s + (wrap64 ((x : Int) * t)))) (ints l) (wrap64 ((i : Int) + 1)))) (fun k => ?_) (Ev.bind hsg ?_)
    · simp only [spec_SumFor.l0, ints_get hx, ints_length, tdiv_nat]
      generalize q / x = z at *
      rw [if_pos (by omega), if_pos (by omega), if_neg (by omega), w64 (n := (z : Int)) (by omega) (by omega)]
    · have ih := ih (i + 1) (s + (x : Int) * sg (q / x)) hr hlt (by generalize (x : Int) * sg (q / x) = z at *; omega) (by generalize (x : Int) * sg (q / x) = z at *; omega)
      generalize (x : Int) * sg (q / x) = z at *
      rw [w64 (n := z) (by omega) (by omega), w64 (n := s + z) (by omega) (by omega), w64 (by omega) (by omega)]
      exact ih
theorem spec_rm {q n : Nat} (h1 : 1 ≤ q) (h2 : q ≤ 60) (h3 : 1 ≤ n) (h4 : n ≤ 10000) : Ev (fun k => spec_SumFor.f k (q : Int) (n : Int)) (rm q (Nat.gcd q n)) := by
  have hg1 : 1 ≤ Nat.gcd q n := Nat.gcd_pos_of_pos_left n h1
  have hg2 : Nat.gcd q n ≤ q := Nat.gcd_le_left n h1
  have hgd : Nat.gcd q n ∣ q := Nat.gcd_dvd_left q n
  obtain ⟨a, b⟩ := dv_small hg1 (by omega)
  unfold spec_SumFor.f
  simp only [l1In_eq, Option.bind_some, show (1 : Int) ≤ q ∧ (q : Int) ≤ 60 from ⟨by omega, by omega⟩, show (1 : Int) ≤ n ∧ (n : Int) ≤ 10000 from ⟨by omega, by omega⟩, and_self, decide_true, if_true, Bool.not_true]
  refine Ev.step (f := fun k => (spec_CommonOf.f k (q : Int) (n : Int)).bind fun t136 => ((spec_DivisorsOf.f k t136).bind fun t137 => (spec_SumFor.l0 k (q : Int) 0 t137 0))) (fun k => ?_) (Ev.bind (spec_gcd_ev h1 (by omega) h3 h4) (Ev.bind (spec_dv hg1 (by omega)) ?_))
  · simp only [spec_SumFor.j0]
    rw [if_neg (by simp)]
  · have h := spec_rmL h1 h2 (dv (Nat.gcd q n)) b (fun d hd => ⟨(a d hd).1, (a d hd).2.1, Nat.mod_eq_zero_of_dvd (Nat.dvd_trans (Nat.dvd_of_mod_eq_zero (a d hd).2.2) hgd)⟩) (dv (Nat.gcd q n)) 0 0 rfl (Nat.zero_le _) (by omega) (by omega)
    rw [Int.zero_add] at h
    exact h
theorem spec_rm_no {a b : Int} (h : ¬ (1 ≤ a ∧ a ≤ 60 ∧ 1 ≤ b ∧ b ≤ 10000)) : Ev (fun k => spec_SumFor.f k a b) 0 := by
  unfold spec_SumFor.f
  simp only [l1In_eq, Option.bind_some]
  have hj : Ev (fun k => spec_SumFor.j0 k a b true) 0 := by
    refine Ev.step (fun k => ?_) (Ev.now _)
    simp only [spec_SumFor.j0, if_true]
  by_cases ha : 1 ≤ a ∧ a ≤ 60
  · refine Ev.ite_pos (decide_eq_true ha) ?_
    rw [decide_eq_false (show ¬ (1 ≤ b ∧ b ≤ 10000) by omega)]
    exact hj
  · exact Ev.ite_neg (by simp [ha]) hj

theorem impl_phL (l : List (Nat × Nat)) (hl : l.length ≤ 1000) (hm : ∀ x ∈ l, 2 ≤ x.1 ∧ x.1 ≤ 10000 ∧ 1 ≤ x.2 ∧ x.2 ≤ 14) : ∀ (r : List (Nat × Nat)) (i s : Nat), l.drop i = r → i ≤ l.length → s ≤ 10000 →
    Ev (fun k => impl_phi.l0 k (s : Int) (fints l) (l.length : Int) (i : Int)) ((phL s r : Nat) : Int) := by
  intro r
  induction r with
  | nil =>
    intro i s hd hi _
    have : l.length ≤ i := List.drop_eq_nil_iff.1 hd
    refine Ev.step (fun k => ?_) (Ev.now _)
    simp only [impl_phi.l0]
    rw [if_neg (by omega)]
    rfl
  | cons x r ih =>
    intro i s hd hi hs
    obtain ⟨hlt, hx, hr⟩ := drop_at hd
    have hxm := hm x (List.mem_of_getElem? hx)
    have hstep := ph_step (s := s) (show 1 ≤ x.1 by omega)
    have hdv : s / x.1 ≤ s := Nat.div_le_self _ _
    simp only [phL]
    refine Ev.step (fun k => ?_) (ih (i + 1) (s / x.1 * (x.1 - 1)) hr hlt (by omega))
    simp only [impl_phi.l0, fints_at l i x hx, fints_length, rd_p0, rd_p1, len_p, tdiv_nat]
    have e : ((s / x.1 : Nat) : Int) * ((x.1 : Int) - 1) = ((s / x.1 * (x.1 - 1) : Nat) : Int) := by
      rw [Int.natCast_mul, show ((x.1 - 1 : Nat) : Int) = (x.1 : Int) - 1 by omega]
    generalize hq : s / x.1 = q at *
    rw [if_pos (by omega), if_pos (by omega), if_pos (by omega), if_pos (by omega), if_neg (by omega), w64 (n := (q : Int)) (by omega) (by omega), w64 (n := (x.1 : Int) - 1) (by omega) (by omega), e]
    generalize q * (x.1 - 1) = z at *
    rw [w64 (by omega) (by omega), w64 (by omega) (by omega)]
    rfl
theorem impl_ph {n : Nat} (h1 : 1 ≤ n) (h2 : n ≤ 10000) : Ev (fun k => impl_phi.f k (n : Int)) ((ph n : Nat) : Int) := by
  unfold impl_phi.f
  refine Ev.bind (impl_fac h1 h2) ?_
  rw [fints_length]
  exact impl_phL (fac n) (fac_length n) (fac_mem h1 h2) (fac n) 0 n rfl (Nat.zero_le _) h2

theorem spec_phL (l : List (Nat × Nat)) (hl : l.length ≤ 1000) (hm : ∀ x ∈ l, 2 ≤ x.1 ∧ x.1 ≤ 10000 ∧ 1 ≤ x.2 ∧ x.2 ≤ 14) : ∀ (r : List (Nat × Nat)) (i s : Nat), l.drop i = r → i ≤ l.length → s ≤ 10000 →
    Ev (fun k => spec_HowManyApart.l0 k (s : Int) (fints l) (i : Int)) ((phL s r : Nat) : Int) := by
  intro r
  induction r with
  | nil =>
    intro i s hd hi _
    have : l.length ≤ i := List.drop_eq_nil_iff.1 hd
    refine Ev.step (fun k => ?_) (Ev.now _)
    simp only [spec_HowManyApart.l0, fints_length]
    rw [if_neg (by omega)]
    rfl
  | cons x r ih =>
    intro i s hd hi hs
    obtain ⟨hlt, hx, hr⟩ := drop_at hd
    have hxm := hm x (List.mem_of_getElem? hx)
    have hstep := ph_step (s := s) (show 1 ≤ x.1 by omega)
    have hdv : s / x.1 ≤ s := Nat.div_le_self _ _
    simp only [phL]
    refine Ev.step (fun k => ?_) (ih (i + 1) (s / x.1 * (x.1 - 1)) hr hlt (by omega))
    simp only [spec_HowManyApart.l0, fints_at l i x hx, fints_length, rd_p0, rd_p1, len_p, tdiv_nat]
    have e : ((s / x.1 : Nat) : Int) * ((x.1 : Int) - 1) = ((s / x.1 * (x.1 - 1) : Nat) : Int) := by
      rw [Int.natCast_mul, show ((x.1 - 1 : Nat) : Int) = (x.1 : Int) - 1 by omega]
    generalize hq : s / x.1 = q at *
    rw [if_pos (by omega), if_pos (by omega), if_pos (by omega), if_neg (by omega), w64 (n := (q : Int)) (by omega) (by omega), w64 (n := (x.1 : Int) - 1) (by omega) (by omega), e]
    generalize q * (x.1 - 1) = z at *
    rw [w64 (by omega) (by omega), w64 (by omega) (by omega)]
    rfl
theorem spec_ph {n : Nat} (h1 : 1 ≤ n) (h2 : n ≤ 10000) : Ev (fun k => spec_HowManyApart.f k (n : Int)) ((ph n : Nat) : Int) := by
  unfold spec_HowManyApart.f
  simp only [l1In_eq, Option.bind_some, show (1 : Int) ≤ n ∧ (n : Int) ≤ 10000 from ⟨by omega, by omega⟩, and_self, decide_true, if_true]
  exact Ev.bind (spec_fac h1 h2) (spec_phL (fac n) (fac_length n) (fac_mem h1 h2) (fac n) 0 n rfl (Nat.zero_le _) h2)
theorem spec_ph_no {a : Int} (h : ¬ (1 ≤ a ∧ a ≤ 10000)) : Ev (fun k => spec_HowManyApart.f k a) (-1) := by
  unfold spec_HowManyApart.f
  simp only [l1In_eq, Option.bind_some, h, decide_false]
  exact Ev.now _

/-- Of all i in a run. -/
def allF (p : Nat → Bool) : Nat → Nat → Bool
  | 0, _ => true
  | f + 1, i => p i && allF p f (i + 1)
theorem allF_and (p q : Nat → Bool) : ∀ f i, allF (fun j => p j && q j) f i = (allF p f i && allF q f i) := by
  intro f
  induction f with
  | zero => intro i; rfl
  | succ f ih =>
    intro i
    simp only [allF, ih (i + 1)]
    cases p i <;> cases q i <;> cases allF p f (i + 1) <;> simp
theorem allF_at (p : Nat → Bool) : ∀ f i, allF p f i = true → ∀ j, i ≤ j → j < i + f → p j = true := by
  intro f
  induction f with
  | zero => intro i _ j h1 h2; omega
  | succ f ih =>
    intro i h j h1 h2
    simp only [allF, Bool.and_eq_true] at h
    by_cases e : j = i
    · subst e; exact h.1
    · exact ih (i + 1) h.2 j (by omega) (by omega)
def k1 (row : List Int) (i : Nat) : Bool := decide (-1000 ≤ row.getD i 0 ∧ row.getD i 0 ≤ 1000)
def k2 (row : List Int) (i : Nat) : Bool := decide (row.getD i 0 = row.getD (Nat.gcd (i + 1) row.length - 1) 0)
def evB (row : List Int) : Bool := decide (1 ≤ row.length ∧ row.length ≤ 60) && (allF (k1 row) row.length 0 && allF (k2 row) row.length 0)
theorem rdn (row : List Int) (i : Nat) : rd row (i : Int) = row.getD i 0 := by unfold rd; rw [Int.toNat_natCast]
theorem within_ev (row : List Int) (hl : row.length ≤ 60) : ∀ f i, i + f = row.length → Ev (fun k => impl_listWithin.l0 k 1000 row (row.length : Int) (i : Int)) (allF (k1 row) f i) := by
  intro f
  induction f with
  | zero =>
    intro i h
    refine Ev.step (fun k => ?_) (Ev.now _)
    simp only [impl_listWithin.l0]
    rw [if_neg (by omega)]
    rfl
  | succ f ih =>
    intro i h
    have ew : wrap64 (-1000) = -1000 := by decide +kernel
    by_cases e : -1000 ≤ row.getD i 0 ∧ row.getD i 0 ≤ 1000
    · have ih := ih (i + 1) (by omega)
      have ek : k1 row i = true := decide_eq_true e
      simp only [allF, ek, Bool.true_and]
      refine Ev.step (fun k => ?_) ih
      simp only [impl_listWithin.l0, rdn, ew]
      rw [if_pos (by omega), if_pos (by omega), if_pos (by omega), if_neg (by omega), if_neg (by omega), w64 (by omega) (by omega)]
      rfl
    · have ek : k1 row i = false := decide_eq_false e
      simp only [allF, ek, Bool.false_and]
      refine Ev.step (fun k => ?_) (Ev.now _)
      simp only [impl_listWithin.l0, rdn, ew]
      rw [if_pos (by omega), if_pos (by omega), if_pos (by omega)]
      by_cases e2 : row.getD i 0 < -1000
      · rw [if_pos e2]
      · rw [if_neg e2, if_pos (by omega)]
theorem gcd_idx {i L : Nat} (h : 1 ≤ L) : ((Nat.gcd (i + 1) L : Nat) : Int) - 1 = ((Nat.gcd (i + 1) L - 1 : Nat) : Int) ∧ Nat.gcd (i + 1) L - 1 < L := by
  have h1 : 1 ≤ Nat.gcd (i + 1) L := Nat.gcd_pos_of_pos_right _ h
  have h2 : Nat.gcd (i + 1) L ≤ L := Nat.gcd_le_right _ h
  omega
theorem evenL_ev (row : List Int) (h1 : 1 ≤ row.length) (hl : row.length ≤ 60) : ∀ f i, i + f = row.length → Ev (fun k => impl_EvenOk.l0 k row row (row.length : Int) (i : Int)) (allF (k2 row) f i) := by
  intro f
  induction f with
  | zero =>
    intro i h
    refine Ev.step (fun k => ?_) (Ev.now _)
    simp only [impl_EvenOk.l0]
    rw [if_neg (by omega)]
    rfl
  | succ f ih =>
    intro i h
    obtain ⟨g1, g2⟩ := gcd_idx (i := i) h1
    refine Ev.step (f := fun k => (impl_gcd.f k ((i + 1 : Nat) : Int) (row.length : Int)).bind fun t224 => (if 0 ≤ (wrap64 (t224 - 1)) then (if (wrap64 (t224 - 1)) < (row.length : Int) then (if (rd row (i : Int)) = (rd row (wrap64 (t224 - 1))) then (impl_EvenOk.l0 k row row (row.length : Int) (wrap64 ((i : Int) + 1))) else (some false)) else (none)) else (none))) (fun k => ?_) (Ev.bind (impl_gcd_ev (i + 1) row.length) ?_)
    · simp only [impl_EvenOk.l0]
      rw [if_pos (by omega), if_pos (by omega), if_pos (by omega), w64 (n := (i : Int) + 1) (by omega) (by omega)]
      rfl
    · have ek : k2 row i = decide (row.getD i 0 = row.getD (Nat.gcd (i + 1) row.length - 1) 0) := rfl
      rw [g1, w64 (by omega) (by omega)]
      simp only [rdn, allF, ek]
      generalize Nat.gcd (i + 1) row.length - 1 = z at *
      refine Ev.ite_pos (by omega) (Ev.ite_pos (by omega) ?_)
      by_cases e : row.getD i 0 = row.getD z 0
      · rw [decide_eq_true e, Bool.true_and, w64 (by omega) (by omega)]
        exact Ev.ite_pos e (ih (i + 1) (by omega))
      · rw [decide_eq_false e, Bool.false_and]
        exact Ev.ite_neg e (Ev.now _)
theorem impl_even (row : List Int) (hl : row.length ≤ 60) : Ev (fun k => impl_EvenOk.f k row) (evB row) := by
  unfold impl_EvenOk.f evB
  by_cases h1 : (row.length : Int) < 1
  · rw [decide_eq_false (show ¬ (1 ≤ row.length ∧ row.length ≤ 60) by omega), Bool.false_and]
    refine Ev.ite_pos h1 (Ev.step (fun k => ?_) (Ev.now _))
    simp only [impl_EvenOk.j0, if_true]
  · rw [decide_eq_true (show 1 ≤ row.length ∧ row.length ≤ 60 by omega), Bool.true_and]
    refine Ev.ite_neg h1 (Ev.ite_neg (by omega) (Ev.bind (within_ev row hl row.length 0 (by omega)) ?_))
    cases allF (k1 row) row.length 0
    · refine Ev.step (fun k => ?_) (Ev.now _)
      simp [impl_EvenOk.j0]
    · rw [Bool.true_and]
      refine Ev.step (fun k => ?_) (evenL_ev row (by omega) hl row.length 0 (by omega))
      simp [impl_EvenOk.j0]
theorem spec_evenL (row : List Int) (h1 : 1 ≤ row.length) (hl : row.length ≤ 60) : ∀ f i, i + f = row.length → Ev (fun k => spec_EvenOk.l0 k row ((i + 1 : Nat) : Int)) (allF (fun j => k1 row j && k2 row j) f i) := by
  intro f
  induction f with
  | zero =>
    intro i h
    refine Ev.step (f := fun k => spec_EvenOk.j1 k row ((i + 1 : Nat) : Int) false) (fun k => ?_) (Ev.step (fun k => ?_) (Ev.now _))
    · simp only [spec_EvenOk.l0]
      rw [if_neg (by omega)]
    · simp only [spec_EvenOk.j1, l1In_eq, Option.bind_some, Bool.false_eq_true, if_false]
      rw [decide_eq_true (by omega)]
      rfl
  | succ f ih =>
    intro i h
    obtain ⟨g1, g2⟩ := gcd_idx (i := i) h1
    have ei : wrap64 (((i + 1 : Nat) : Int) - 1) = (i : Int) := by rw [w64 (by omega) (by omega)]; omega
    have e0 : ∀ k, spec_EvenOk.l0 (k + 1) row ((i + 1 : Nat) : Int) = spec_EvenOk.j1 k row ((i + 1 : Nat) : Int) true := by
      intro k
      simp only [spec_EvenOk.l0]
      rw [if_pos (by omega), decide_eq_true (by omega)]
    refine Ev.step e0 ?_
    by_cases e : -1000 ≤ row.getD i 0 ∧ row.getD i 0 ≤ 1000
    · have ek : k1 row i = true := decide_eq_true e
      refine Ev.step (f := fun k => (spec_CommonOf.f k ((i + 1 : Nat) : Int) (row.length : Int)).bind fun t177 => (if 0 ≤ (wrap64 (t177 - 1)) then (if (wrap64 (t177 - 1)) < (row.length : Int) then (if (rd row (i : Int)) = (rd row (wrap64 (t177 - 1))) then (spec_EvenOk.l0 k row (wrap64 (((i + 1 : Nat) : Int) + 1))) else (some false)) else (none)) else (none))) (fun k => ?_) (Ev.bind (spec_gcd_ev (by omega) (by omega) (by omega) (by omega)) ?_)
      · simp only [spec_EvenOk.j1, ei, l1In_eq, Option.bind_some, rdn, if_true]
        rw [if_pos (by omega), if_pos (by omega), decide_eq_true e, if_pos rfl]
      · have ek2 : k2 row i = decide (row.getD i 0 = row.getD (Nat.gcd (i + 1) row.length - 1) 0) := rfl
        rw [g1, w64 (by omega) (by omega)]
        simp only [rdn, allF, ek, ek2, Bool.true_and]
        generalize Nat.gcd (i + 1) row.length - 1 = z at *
        refine Ev.ite_pos (by omega) (Ev.ite_pos (by omega) ?_)
        by_cases e : row.getD i 0 = row.getD z 0
        · rw [decide_eq_true e, Bool.true_and, w64 (by omega) (by omega)]
          exact Ev.ite_pos e (ih (i + 1) (by omega))
        · rw [decide_eq_false e, Bool.false_and]
          exact Ev.ite_neg e (Ev.now _)
    · have ek : k1 row i = false := decide_eq_false e
      simp only [allF, ek, Bool.false_and]
      refine Ev.step (fun k => ?_) (Ev.now _)
      simp only [spec_EvenOk.j1, ei, l1In_eq, Option.bind_some, rdn, if_true]
      rw [if_pos (by omega), if_pos (by omega), decide_eq_false e]
      rfl
theorem spec_even (row : List Int) (hl : row.length ≤ 60) : Ev (fun k => spec_EvenOk.f k row) (evB row) := by
  unfold spec_EvenOk.f evB
  by_cases h1 : 1 ≤ row.length
  · rw [decide_eq_true (show 1 ≤ row.length ∧ row.length ≤ 60 by omega), Bool.true_and, ← allF_and]
    exact spec_evenL row h1 hl row.length 0 (by omega)
  · rw [decide_eq_false (show ¬ (1 ≤ row.length ∧ row.length ≤ 60) by omega), Bool.false_and]
    refine Ev.step (f := fun k => spec_EvenOk.j1 k row 1 false) (fun k => ?_) (Ev.step (fun k => ?_) (Ev.now _))
    · simp only [spec_EvenOk.l0]
      rw [if_neg (by omega)]
    · simp only [spec_EvenOk.j1, l1In_eq, Option.bind_some, Bool.false_eq_true, if_false]
      rw [decide_eq_false (by omega)]
/-- What the parts are. -/
def pRow (row : List Int) (d : Nat) : List Int := [prt row d, ((row.length * ph d : Nat) : Int)]
def PT (row : List Int) (l : List Nat) : List (List Int) := l.map (pRow row)
def G (row : List Int) (d m : Nat) : Int := row.getD (m - 1) 0 * rm d (Nat.gcd d m)
theorem G_rng {row : List Int} {d m : Nat} (h1 : 1 ≤ d) (h2 : d ≤ 60) (hb : -1000 ≤ row.getD (m - 1) 0 ∧ row.getD (m - 1) 0 ≤ 1000) : -3600000 ≤ G row d m ∧ G row d m ≤ 3600000 := by
  have hg1 : 1 ≤ Nat.gcd d m := Nat.gcd_pos_of_pos_left m h1
  have hg2 : Nat.gcd d m ≤ d := Nat.gcd_le_left m h1
  have hr := rm_rng (q := d) hg1 (by omega)
  unfold G
  generalize row.getD (m - 1) 0 = x at *
  generalize rm d (Nat.gcd d m) = y at *
  have h3 : (x * y).natAbs ≤ 1000 * 3600 := by
    rw [Int.natAbs_mul]
    exact Nat.mul_le_mul (by omega) (by omega)
  generalize x * y = z at *
  omega
theorem inner_impl {row : List Int} (hl : row.length ≤ 60) (hb : ∀ i, i < row.length → -1000 ≤ row.getD i 0 ∧ row.getD i 0 ≤ 1000) {d : Nat} (h1 : 1 ≤ d) (h2 : d ≤ 60) (acc : List (List Int)) (dl : List Int) (n i : Int) (r : List (List Int)) : ∀ (f m : Nat) (s : Int), m + f = row.length → -(3600000 * (m : Int)) ≤ s → s ≤ 3600000 * (m : Int) →
    Ev (fun k => impl_PartsFor.l1 k row acc (d : Int) (s + upF (G row d) f (m + 1)) dl n i row (row.length : Int) (row.length : Int)) r →
    Ev (fun k => impl_PartsFor.l1 k row acc (d : Int) s dl n i row (row.length : Int) (m : Int)) r := by
  intro f
  induction f with
  | zero =>
    intro m s hm hs1 hs2 h
    simp only [upF, Int.add_zero] at h
    have e : m = row.length := by omega
    rw [e]
    exact h
  | succ f ih =>
    intro m s hm hs1 hs2 h
    have hg := G_rng (m := m + 1) h1 h2 (hb m (by omega))
    have eG : rd row (m : Int) * rm d (Nat.gcd d (m + 1)) = G row d (m + 1) := by rw [rdn]; rfl
    simp only [upF] at h
    rw [← Int.add_assoc] at h
    refine Ev.step (f := fun k => (impl_sumFor.f k (d : Int) ((m + 1 : Nat) : Int)).bind fun t241 => (impl_PartsFor.l1 k row acc (d : Int) (wrap64 (s + (wrap64 ((rd row (m : Int)) * t241)))) dl n i row (row.length : Int) (wrap64 ((m : Int) + 1)))) (fun k => ?_) (Ev.bind (impl_rm h1 h2 (by omega)) ?_)
    · simp only [impl_PartsFor.l1]
      rw [if_pos (by omega), if_pos (by omega), if_pos (by omega), w64 (n := (m : Int) + 1) (by omega) (by omega)]
      rfl
    · rw [eG]
      have ih := ih (m + 1) (s + G row d (m + 1)) (by omega) (by omega) (by omega) h
      rw [w64 (n := G row d (m + 1)) (by omega) (by omega), w64 (n := s + G row d (m + 1)) (by omega) (by omega), w64 (n := (m : Int) + 1) (by omega) (by omega)]
      exact ih
theorem prt_eq (row : List Int) (d : Nat) : upF (G row d) row.length 1 = prt row d := rfl
theorem Lph {L d : Nat} (h : L ≤ 60) (h2 : d ≤ 60) (h1 : 1 ≤ d) : wrap64 ((L : Int) * ((ph d : Nat) : Int)) = ((L * ph d : Nat) : Int) := by
  have hp := ph_le (n := d) h1 (by omega)
  have hq : L * ph d ≤ 60 * 60 := Nat.mul_le_mul h (by omega)
  rw [← Int.natCast_mul]
  generalize L * ph d = z at *
  exact w64 (by omega) (by omega)
theorem outer_impl {row : List Int} (hl : row.length ≤ 60) (hb : ∀ i, i < row.length → -1000 ≤ row.getD i 0 ∧ row.getD i 0 ≤ 1000) (dl : List Nat) (hdl : dl.length ≤ 60) (hd : ∀ d ∈ dl, 1 ≤ d ∧ d ≤ 60) : ∀ (r : List Nat) (i : Nat) (acc : List (List Int)), dl.drop i = r → i ≤ dl.length → acc.length ≤ i →
    Ev (fun k => impl_PartsFor.l0 k row acc (ints dl) (dl.length : Int) (i : Int)) (acc ++ PT row r) := by
  intro r
  induction r with
  | nil =>
    intro i acc h hi _
    have : dl.length ≤ i := List.drop_eq_nil_iff.1 h
    refine Ev.step (fun k => ?_) (Ev.now _)
    simp only [impl_PartsFor.l0]
    rw [if_neg (by omega)]
    simp [PT]
  | cons d r ih =>
    intro i acc h hi ha
    obtain ⟨hlt, hx, hr⟩ := drop_at h
    obtain ⟨h1, h2⟩ := hd d (List.mem_of_getElem? hx)
    have ih := ih (i + 1) (acc ++ [pRow row d]) hr hlt (by simp; omega)
    rw [List.append_assoc] at ih
    refine Ev.step (f := fun k => impl_PartsFor.l1 k row acc (d : Int) 0 (ints dl) (dl.length : Int) (i : Int) row (row.length : Int) 0) (fun k => ?_) (inner_impl hl hb h1 h2 acc (ints dl) (dl.length : Int) (i : Int) _ row.length 0 0 (by omega) (by omega) (by omega) ?_)
    · simp only [impl_PartsFor.l0, ints_get hx, ints_length]
      rw [if_pos (by omega), if_pos (by omega), if_pos (by omega)]
    · rw [Int.zero_add, prt_eq]
      refine Ev.step (f := fun k => (impl_phi.f k (d : Int)).bind fun t242 => (if acc.length < 5864062014805 then (impl_PartsFor.l0 k row (acc ++ [(([prt row d, wrap64 ((row.length : Int) * t242)] : List Int))]) (ints dl) (dl.length : Int) (wrap64 ((i : Int) + 1))) else (none))) (fun k => ?_) (Ev.bind (impl_ph h1 (by omega)) (Ev.ite_pos (by omega) ?_))
      · simp only [impl_PartsFor.l1]
        rw [if_neg (by omega)]
      · rw [Lph hl h2 h1, w64 (by omega) (by omega)]
        exact ih
theorem inner_spec {row : List Int} (hl : row.length ≤ 60) (hb : ∀ i, i < row.length → -1000 ≤ row.getD i 0 ∧ row.getD i 0 ≤ 1000) {d : Nat} (h1 : 1 ≤ d) (h2 : d ≤ 60) (acc : List (List Int)) (dl : List Nat) (i : Nat) (hx : dl[i]? = some d) (hlt : i < dl.length) (r : List (List Int)) : ∀ (f m : Nat) (s : Int), m + f = row.length → -(3600000 * (m : Int)) ≤ s → s ≤ 3600000 * (m : Int) →
    Ev (fun k => spec_PartsFor.l1 k row acc (ints dl) (i : Int) (s + upF (G row d) f (m + 1)) ((row.length + 1 : Nat) : Int)) r →
    Ev (fun k => spec_PartsFor.l1 k row acc (ints dl) (i : Int) s ((m + 1 : Nat) : Int)) r := by
  intro f
  induction f with
  | zero =>
    intro m s hm hs1 hs2 h
    simp only [upF, Int.add_zero] at h
    have e : m = row.length := by omega
    rw [e]
    exact h
  | succ f ih =>
    intro m s hm hs1 hs2 h
    have hg := G_rng (m := m + 1) h1 h2 (hb m (by omega))
    have eG : rd row (m : Int) * rm d (Nat.gcd d (m + 1)) = G row d (m + 1) := by rw [rdn]; rfl
    have ei : wrap64 (((m + 1 : Nat) : Int) - 1) = (m : Int) := by rw [w64 (by omega) (by omega)]; omega
    simp only [upF] at h
    rw [← Int.add_assoc] at h
    refine Ev.step (f := fun k => (spec_SumFor.f k (d : Int) ((m + 1 : Nat) : Int)).bind fun t212 => (spec_PartsFor.l1 k row acc (ints dl) (i : Int) (wrap64 (s + (wrap64 ((rd row (m : Int)) * t212)))) (wrap64 (((m + 1 : Nat) : Int) + 1)))) (fun k => ?_) (Ev.bind (spec_rm h1 h2 (by omega) (by omega)) ?_)
    · simp only [spec_PartsFor.l1, ei, ints_get hx, ints_length]
      rw [if_pos (by omega), if_pos (by omega), if_pos (by omega), if_pos (by omega), if_pos (by omega)]
    · rw [eG]
      have ih := ih (m + 1) (s + G row d (m + 1)) (by omega) (by omega) (by omega) h
      rw [w64 (n := G row d (m + 1)) (by omega) (by omega), w64 (n := s + G row d (m + 1)) (by omega) (by omega), w64 (n := ((m + 1 : Nat) : Int) + 1) (by omega) (by omega)]
      exact ih
theorem outer_spec {row : List Int} (he : evB row = true) (hl : row.length ≤ 60) (hb : ∀ i, i < row.length → -1000 ≤ row.getD i 0 ∧ row.getD i 0 ≤ 1000) (dl : List Nat) (hdl : dl.length ≤ 60) (hd : ∀ d ∈ dl, 1 ≤ d ∧ d ≤ 60) : ∀ (r : List Nat) (i : Nat) (acc : List (List Int)), dl.drop i = r → i ≤ dl.length → acc.length ≤ i →
    Ev (fun k => spec_PartsFor.l0 k row acc (ints dl) (i : Int)) (acc ++ PT row r) := by
  intro r
  induction r with
  | nil =>
    intro i acc h hi _
    have : dl.length ≤ i := List.drop_eq_nil_iff.1 h
    refine Ev.step (f := fun k => spec_PartsFor.j1 k row acc (ints dl) (i : Int) false) (fun k => ?_) (Ev.step (fun k => ?_) (Ev.now _))
    · simp only [spec_PartsFor.l0, ints_length]
      rw [if_neg (by omega)]
    · simp [spec_PartsFor.j1, PT]
  | cons d r ih =>
    intro i acc h hi ha
    obtain ⟨hlt, hx, hr⟩ := drop_at h
    obtain ⟨h1, h2⟩ := hd d (List.mem_of_getElem? hx)
    have ih := ih (i + 1) (acc ++ [pRow row d]) hr hlt (by simp; omega)
    rw [List.append_assoc] at ih
    have hev := spec_even row hl
    rw [he] at hev
    refine Ev.step (f := fun k => (spec_EvenOk.f k row).bind fun t209 => (spec_PartsFor.j1 k row acc (ints dl) (i : Int) t209)) (fun k => ?_) (Ev.bind hev (Ev.step (f := fun k => spec_PartsFor.l1 k row acc (ints dl) (i : Int) 0 1) (fun k => ?_) ?_))
    · simp only [spec_PartsFor.l0, ints_length]
      rw [if_pos (by omega)]
    · simp only [spec_PartsFor.j1, if_true]
    · refine inner_spec hl hb h1 h2 acc dl i hx hlt _ row.length 0 0 (by omega) (by omega) (by omega) ?_
      rw [Int.zero_add, prt_eq]
      refine Ev.step (f := fun k => (spec_HowManyApart.f k (d : Int)).bind fun t214 => (if acc.length < 5864062014805 then (spec_PartsFor.l0 k row (acc ++ [(([prt row d, wrap64 ((row.length : Int) * t214)] : List Int))]) (ints dl) (wrap64 ((i : Int) + 1))) else (none))) (fun k => ?_) (Ev.bind (spec_ph h1 (by omega)) (Ev.ite_pos (by omega) ?_))
      · simp only [spec_PartsFor.l1, ints_get hx, ints_length]
        rw [if_neg (by omega), if_pos (by omega), if_pos (by omega)]
      · rw [Lph hl h2 h1, w64 (by omega) (by omega)]
        exact ih
theorem dv_rng {L : Nat} (h1 : 1 ≤ L) (h2 : L ≤ 60) : (∀ d ∈ dv L, 1 ≤ d ∧ d ≤ 60) ∧ (dv L).length ≤ 60 := by
  obtain ⟨a, b⟩ := dv_small h1 h2
  exact ⟨fun d hd => ⟨(a d hd).1, (a d hd).2.1⟩, b⟩
theorem ev_facts {row : List Int} (he : evB row = true) : 1 ≤ row.length ∧ row.length ≤ 60 ∧ (∀ i, i < row.length → -1000 ≤ row.getD i 0 ∧ row.getD i 0 ≤ 1000) ∧ (∀ i, i < row.length → row.getD i 0 = row.getD (Nat.gcd (i + 1) row.length - 1) 0) := by
  unfold evB at he
  rw [Bool.and_eq_true, Bool.and_eq_true] at he
  obtain ⟨a, b, c⟩ := he
  have a := of_decide_eq_true a
  exact ⟨a.1, a.2, fun i hi => of_decide_eq_true (allF_at _ _ _ b i (by omega) (by omega)), fun i hi => of_decide_eq_true (allF_at _ _ _ c i (by omega) (by omega))⟩
def ptF (row : List Int) : List (List Int) := if evB row = true then PT row (dv row.length) else []
theorem impl_parts (row : List Int) (hl : row.length ≤ 60) : Ev (fun k => impl_PartsFor.f k row) (ptF row) := by
  unfold impl_PartsFor.f ptF
  refine Ev.bind (impl_even row hl) ?_
  by_cases he : evB row = true
  · obtain ⟨a, b, c, _⟩ := ev_facts he
    obtain ⟨e, f⟩ := dv_rng a b
    rw [if_pos he]
    refine Ev.ite_pos he (Ev.bind (impl_dv a (by omega)) ?_)
    rw [ints_length]
    have h := outer_impl hl c (dv row.length) f e (dv row.length) 0 [] rfl (by omega) (by simp)
    rw [List.nil_append] at h
    exact h
  · rw [if_neg he]
    exact Ev.ite_neg he (Ev.now _)
theorem spec_parts (row : List Int) (hl : row.length ≤ 60) : Ev (fun k => spec_PartsFor.f k row) (ptF row) := by
  unfold spec_PartsFor.f ptF
  by_cases he : evB row = true
  · obtain ⟨a, b, c, _⟩ := ev_facts he
    obtain ⟨e, f⟩ := dv_rng a b
    rw [if_pos he]
    refine Ev.bind (spec_dv a (by omega)) ?_
    have h := outer_spec he hl c (dv row.length) f e (dv row.length) 0 [] rfl (by omega) (by simp)
    rw [List.nil_append] at h
    exact h
  · rw [if_neg he]
    have hev := spec_even row hl
    rw [Bool.eq_false_iff.2 he] at hev
    have hj : ∀ (dl : List Int), Ev (fun k => spec_PartsFor.j1 k row [] dl 0 false) [] := by
      intro dl
      refine Ev.step (fun k => ?_) (Ev.now _)
      simp [spec_PartsFor.j1]
    have hd : ∃ dl, Ev (fun k => spec_DivisorsOf.f k (row.length : Int)) dl := by
      by_cases h1 : 1 ≤ row.length
      · exact ⟨_, spec_dv h1 (by omega)⟩
      · exact ⟨_, spec_dv_no (by omega)⟩
    obtain ⟨dl, hd⟩ := hd
    refine Ev.bind hd ?_
    by_cases h0 : 0 < (dl.length : Int)
    · refine Ev.step (f := fun k => (spec_EvenOk.f k row).bind fun t209 => (spec_PartsFor.j1 k row [] dl 0 t209)) (fun k => ?_) (Ev.bind hev (hj dl))
      simp only [spec_PartsFor.l0]
      rw [if_pos h0]
    · refine Ev.step (fun k => ?_) (hj dl)
      simp only [spec_PartsFor.l0]
      rw [if_neg h0]

theorem eqIntS_ev (l : List Int) (hl : l.length ≤ 1000000000) : ∀ f i, i + f = l.length → Ev (fun k => laws_eqIntS.l0 k l l (i : Int)) true := by
  intro f
  induction f with
  | zero =>
    intro i h
    refine Ev.step (fun k => ?_) (Ev.now _)
    simp only [laws_eqIntS.l0]
    rw [if_neg (by omega)]
  | succ f ih =>
    intro i h
    refine Ev.step (fun k => ?_) (ih (i + 1) (by omega))
    simp only [laws_eqIntS.l0, if_true]
    rw [if_pos (by omega), if_pos (by omega), if_pos (by omega), w64 (by omega) (by omega)]
    rfl
theorem eqIntS_f (l : List Int) (hl : l.length ≤ 1000000000) : Ev (fun k => laws_eqIntS.f k l l) true := by
  unfold laws_eqIntS.f
  exact Ev.ite_pos rfl (eqIntS_ev l hl l.length 0 (by omega))
theorem eqIntSS_ev (l : List (List Int)) (hl : l.length ≤ 1000000000) (hr : ∀ x ∈ l, x.length ≤ 1000000000) : ∀ f i, i + f = l.length → Ev (fun k => laws_eqIntSS.l0 k l l (i : Int)) true := by
  intro f
  induction f with
  | zero =>
    intro i h
    refine Ev.step (fun k => ?_) (Ev.now _)
    simp only [laws_eqIntSS.l0]
    rw [if_neg (by omega)]
  | succ f ih =>
    intro i h
    have hx : (rd_L1 l (i : Int)).length ≤ 1000000000 := by
      unfold rd_L1
      rw [Int.toNat_natCast, List.getD_eq_getElem?_getD, List.getElem?_eq_getElem (show i < l.length by omega)]
      exact hr _ (List.getElem_mem _)
    refine Ev.step (f := fun k => (laws_eqIntS.f k (rd_L1 l (i : Int)) (rd_L1 l (i : Int))).bind fun t295 => (if t295 = true then (laws_eqIntSS.l0 k l l (wrap64 ((i : Int) + 1))) else (some false))) (fun k => ?_) (Ev.bind (eqIntS_f _ hx) (Ev.ite_pos rfl ?_))
    · simp only [laws_eqIntSS.l0]
      rw [if_pos (by omega), if_pos (by omega), if_pos (by omega)]
    · rw [w64 (by omega) (by omega)]
      exact ih (i + 1) (by omega)
theorem eqIntSS_f (l : List (List Int)) (hl : l.length ≤ 1000000000) (hr : ∀ x ∈ l, x.length ≤ 1000000000) : Ev (fun k => laws_eqIntSS.f k l l) true := by
  unfold laws_eqIntSS.f
  exact Ev.ite_pos rfl (eqIntSS_ev l hl hr l.length 0 (by omega))

theorem toIntS_ev (l : List Int) (hl : l.length ≤ 1000000000) : ∀ (f i : Nat) (x : List Int), i + f = l.length → x.length = l.length → (∀ j, j < i → x[j]? = l[j]?) → Ev (fun k => laws_toIntS.l0 k l x (i : Int)) l := by
  intro f
  induction f with
  | zero =>
    intro i x h hx hj
    have e : x = l := by
      refine List.ext_getElem? (fun j => ?_)
      by_cases hji : j < i
      · exact hj j hji
      · rw [List.getElem?_eq_none (by omega), List.getElem?_eq_none (by omega)]
    refine Ev.step (fun k => ?_) (Ev.now _)
    simp only [laws_toIntS.l0]
    rw [if_neg (by omega), e]
  | succ f ih =>
    intro i x h hx hj
    refine Ev.step (fun k => ?_) (ih (i + 1) (x.set i (rd l (i : Int))) (by omega) (by rw [List.length_set]; exact hx) (fun j hji => ?_))
    · simp only [laws_toIntS.l0]
      rw [if_pos (by omega), if_pos (by omega), if_pos (by omega), w64 (by omega) (by omega), Int.toNat_natCast]
      rfl
    · rw [List.getElem?_set]
      by_cases e : i = j
      · subst e
        rw [if_pos rfl, if_pos (by omega), rdn, List.getElem?_eq_getElem (show i < l.length by omega), List.getD_eq_getElem?_getD, List.getElem?_eq_getElem (show i < l.length by omega)]
        rfl
      · rw [if_neg e]
        exact hj j (by omega)
theorem toIntS_f (l : List Int) (hl : l.length ≤ 1000000000) : Ev (fun k => laws_toIntS.f k l) l := by
  unfold laws_toIntS.f
  refine Ev.ite_pos (by omega) (Ev.ite_pos (by omega) ?_)
  exact toIntS_ev l hl l.length 0 _ (by omega) (by rw [List.length_replicate]; omega) (fun j hj => by omega)

/-- A list of numbers marked from a number on; a list of lists. -/
def mkI : Int → List Int → List Int
  | _, [] => []
  | n, _ :: r => n :: mkI (n + 1) r
theorem mkI_len : ∀ (r : List Int) (n : Int), (mkI n r).length = r.length
  | [], _ => rfl
  | _ :: r, n => by simp only [mkI, List.length_cons, mkI_len r (n + 1)]
theorem markI_L (L : Nat) (hl : L ≤ 1000000000) : ∀ (r : List Int) (i : Nat) (n : Int) (pre : List Int), pre.length = i → pre.length + r.length = L → 0 ≤ n → n + r.length ≤ 1000000000000 →
    Ev (fun k => laws_markIntS.l0 k (pre ++ r) n (i : Int)) (n + r.length, pre ++ mkI n r) := by
  intro r
  induction r with
  | nil =>
    intro i n pre h1 h2 h3 h4
    refine Ev.step (fun k => ?_) (Ev.now _)
    simp only [laws_markIntS.l0]
    rw [if_neg (by simp; omega)]
    simp [mkI]
  | cons x r ih =>
    intro i n pre h1 h2 h3 h4
    simp only [List.length_cons] at h2 h4
    have ih := ih (i + 1) (n + 1) (pre ++ [n]) (by simp; omega) (by simp; omega) (by omega) (by omega)
    rw [show pre ++ [n] ++ r = (pre ++ x :: r).set i n by rw [List.set_append_right _ _ (by omega)]; simp [← h1], show pre ++ [n] ++ mkI (n + 1) r = pre ++ mkI n (x :: r) by simp [mkI], show n + 1 + (r.length : Int) = n + ((x :: r).length : Int) by simp; omega] at ih
    refine Ev.step (fun k => ?_) ih
    simp only [laws_markIntS.l0, Int.toNat_natCast]
    rw [if_pos (by simp; omega), if_pos (by omega), w64 (by omega) (by omega), w64 (by omega) (by omega)]
    rfl
theorem markI (l : List Int) (hl : l.length ≤ 1000000000) {n : Int} (h0 : 0 ≤ n) (h1 : n + l.length ≤ 1000000000000) : Ev (fun k => laws_markIntS.f k l n) (n + (l.length : Int), mkI n l) := by
  unfold laws_markIntS.f
  exact markI_L l.length hl l 0 n [] rfl (by simp) h0 h1
theorem heldI_L (l0 : List Int) (hl : l0.length ≤ 1000000000) : ∀ (r : List Int) (i : Nat) (n : Int), l0.drop i = mkI n r → i + r.length = l0.length → 0 ≤ n → n + r.length ≤ 1000000000000 → Ev (fun k => laws_heldIntS.l0 k l0 n (i : Int)) (n + (r.length : Int)) := by
  intro r
  induction r with
  | nil =>
    intro i n h1 h2 h3 h4
    simp only [List.length_nil] at h2 h4 ⊢
    refine Ev.step (fun k => ?_) (Ev.now _)
    simp only [laws_heldIntS.l0]
    rw [if_neg (by omega)]
    simp
  | cons x r ih =>
    intro i n h1 h2 h3 h4
    simp only [List.length_cons] at h2 h4
    obtain ⟨g1, g2, g3⟩ := drop_at h1
    have ih := ih (i + 1) (n + 1) g3 (by omega) (by omega) (by omega)
    have hrd : rd l0 (i : Int) = n := by
      unfold rd
      rw [Int.toNat_natCast, List.getD_eq_getElem?_getD, g2]
      rfl
    rw [show n + 1 + (r.length : Int) = n + ((x :: r).length : Int) by simp; omega] at ih
    refine Ev.step (fun k => ?_) ih
    simp only [laws_heldIntS.l0, hrd]
    rw [if_pos (by omega), if_pos (by omega), if_pos trivial, w64 (by omega) (by omega), w64 (by omega) (by omega)]
    rfl
theorem heldI (l : List Int) (hl : l.length ≤ 1000000000) {n : Int} (h0 : 0 ≤ n) (h1 : n + l.length ≤ 1000000000000) : Ev (fun k => laws_heldIntS.f k (mkI n l) n) (n + (l.length : Int)) := by
  unfold laws_heldIntS.f
  exact heldI_L (mkI n l) (by rw [mkI_len]; exact hl) l 0 n rfl (by rw [mkI_len]; omega) h0 h1

def totL : List (List Int) → Nat
  | [] => 0
  | x :: r => x.length + totL r
def mkII : Int → List (List Int) → List (List Int)
  | _, [] => []
  | n, x :: r => mkI n x :: mkII (n + (x.length : Int)) r
theorem mkII_len : ∀ (r : List (List Int)) (n : Int), (mkII n r).length = r.length
  | [], _ => rfl
  | x :: r, n => by simp only [mkII, List.length_cons, mkII_len r (n + (x.length : Int))]
theorem markII_L (L : Nat) (hl : L ≤ 1000000000) : ∀ (r : List (List Int)) (i : Nat) (n : Int) (pre : List (List Int)), pre.length = i → pre.length + r.length = L → 0 ≤ n → n + totL r ≤ 1000000000 →
    Ev (fun k => laws_markIntSS.l0 k (pre ++ r) n (i : Int)) (n + (totL r : Int), pre ++ mkII n r) := by
  intro r
  induction r with
  | nil =>
    intro i n pre h1 h2 h3 h4
    refine Ev.step (fun k => ?_) (Ev.now _)
    simp only [laws_markIntSS.l0]
    rw [if_neg (by simp; omega)]
    simp [mkII, totL]
  | cons x r ih =>
    intro i n pre h1 h2 h3 h4
    simp only [List.length_cons, totL] at h2 h4
    have ih := ih (i + 1) (n + (x.length : Int)) (pre ++ [mkI n x]) (by simp; omega) (by simp; omega) (by omega) (by omega)
    rw [show pre ++ [mkI n x] ++ r = (pre ++ x :: r).set i (mkI n x) by rw [List.set_append_right _ _ (by omega)]; simp [← h1], show pre ++ [mkI n x] ++ mkII (n + (x.length : Int)) r = pre ++ mkII n (x :: r) by simp [mkII], show n + (x.length : Int) + (totL r : Int) = n + (totL (x :: r) : Int) by simp [totL]; omega] at ih
    have hg : (pre ++ x :: r).getD i [] = x := by
      rw [List.getD_eq_getElem?_getD, List.getElem?_append_right (by omega), h1, Nat.sub_self]
      rfl
    refine Ev.step (f := fun k => (laws_markIntS.f k x n).bind fun bt => laws_markIntSS.l0 k ((pre ++ x :: r).set i bt.2) bt.1 (wrap64 ((i : Int) + 1))) (fun k => ?_) (Ev.bind (markI x (by omega) h3 (by omega)) ?_)
    · simp only [laws_markIntSS.l0, Int.toNat_natCast, hg]
      rw [if_pos (by simp; omega), if_pos (by omega)]
    · rw [w64 (by omega) (by omega)]
      exact ih
theorem markII (l : List (List Int)) (hl : l.length ≤ 1000000000) {n : Int} (h0 : 0 ≤ n) (h1 : n + totL l ≤ 1000000000) : Ev (fun k => laws_markIntSS.f k l n) (n + (totL l : Int), mkII n l) := by
  unfold laws_markIntSS.f
  exact markII_L l.length hl l 0 n [] rfl (by simp) h0 h1
theorem heldII_L (l0 : List (List Int)) (hl : l0.length ≤ 1000000000) : ∀ (r : List (List Int)) (i : Nat) (n : Int), l0.drop i = mkII n r → i + r.length = l0.length → 0 ≤ n → n + totL r ≤ 1000000000 → Ev (fun k => laws_heldIntSS.l0 k l0 n (i : Int)) (n + (totL r : Int)) := by
  intro r
  induction r with
  | nil =>
    intro i n h1 h2 h3 h4
    simp only [List.length_nil] at h2
    refine Ev.step (fun k => ?_) (Ev.now _)
    simp only [laws_heldIntSS.l0]
    rw [if_neg (by omega)]
    simp [totL]
  | cons x r ih =>
    intro i n h1 h2 h3 h4
    simp only [List.length_cons, totL] at h2 h4
    obtain ⟨g1, g2, g3⟩ := drop_at h1
    have ih := ih (i + 1) (n + (x.length : Int)) g3 (by omega) (by omega) (by omega)
    have hrd : rd_L1 l0 (i : Int) = mkI n x := by
      unfold rd_L1
      rw [Int.toNat_natCast, List.getD_eq_getElem?_getD, g2]
      rfl
    rw [show n + (x.length : Int) + (totL r : Int) = n + (totL (x :: r) : Int) by simp [totL]; omega] at ih
    refine Ev.step (f := fun k => (laws_heldIntS.f k (mkI n x) n).bind fun t => (if t < 0 then (some (-1)) else (laws_heldIntSS.l0 k l0 t (wrap64 ((i : Int) + 1))))) (fun k => ?_) (Ev.bind (heldI x (by omega) h3 (by omega)) (Ev.ite_neg (by omega) ?_))
    · simp only [laws_heldIntSS.l0, hrd]
      rw [if_pos (by omega), if_pos (by omega)]
    · rw [w64 (by omega) (by omega)]
      exact ih
theorem heldII (l : List (List Int)) (hl : l.length ≤ 1000000000) {n : Int} (h0 : 0 ≤ n) (h1 : n + totL l ≤ 1000000000) : Ev (fun k => laws_heldIntSS.f k (mkII n l) n) (n + (totL l : Int)) := by
  unfold laws_heldIntSS.f
  exact heldII_L (mkII n l) (by rw [mkII_len]; exact hl) l 0 n rfl (by rw [mkII_len]; omega) h0 h1

theorem impl_parts_long (row : List Int) (h : 60 < row.length) : Ev (fun k => impl_PartsFor.f k row) [] := by
  unfold impl_PartsFor.f
  have he : Ev (fun k => impl_EvenOk.f k row) false := by
    unfold impl_EvenOk.f
    refine Ev.ite_neg (by omega) (Ev.ite_pos (by omega) (Ev.step (fun k => ?_) (Ev.now _)))
    simp only [impl_EvenOk.j0]
    rw [if_pos trivial]
  exact Ev.bind he (Ev.ite_neg (by simp) (Ev.now _))
theorem spec_parts_long (row : List Int) (h : 60 < row.length) : Ev (fun k => spec_PartsFor.f k row) [] := by
  unfold spec_PartsFor.f
  have hev : Ev (fun k => spec_EvenOk.f k row) false := by
    unfold spec_EvenOk.f
    refine Ev.step (f := fun k => spec_EvenOk.j1 k row 1 false) (fun k => ?_) (Ev.step (fun k => ?_) (Ev.now _))
    · simp only [spec_EvenOk.l0]
      rw [if_pos (by omega), decide_eq_false (by omega)]
    · simp only [spec_EvenOk.j1, l1In_eq, Option.bind_some, Bool.false_eq_true, if_false]
      rw [decide_eq_false (by omega)]
  have hj : ∀ (dl : List Int), Ev (fun k => spec_PartsFor.j1 k row [] dl 0 false) [] := by
    intro dl
    refine Ev.step (fun k => ?_) (Ev.now _)
    simp [spec_PartsFor.j1]
  have hd : ∃ dl, Ev (fun k => spec_DivisorsOf.f k (row.length : Int)) dl := by
    by_cases h1 : row.length ≤ 10000
    · exact ⟨_, spec_dv (by omega) h1⟩
    · exact ⟨_, spec_dv_no (by omega)⟩
  obtain ⟨dl, hd⟩ := hd
  refine Ev.bind hd ?_
  by_cases h0 : 0 < (dl.length : Int)
  · refine Ev.step (f := fun k => (spec_EvenOk.f k row).bind fun t209 => (spec_PartsFor.j1 k row [] dl 0 t209)) (fun k => ?_) (Ev.bind hev (hj dl))
    simp only [spec_PartsFor.l0]
    rw [if_pos h0]
  · refine Ev.step (fun k => ?_) (hj dl)
    simp only [spec_PartsFor.l0]
    rw [if_neg h0]
theorem totL_two : ∀ (l : List (List Int)), (∀ x ∈ l, x.length = 2) → totL l = 2 * l.length
  | [], _ => rfl
  | x :: r, h => by
    simp only [totL, List.length_cons]
    rw [totL_two r (fun y hy => h y (List.mem_cons_of_mem _ hy)), h x (List.mem_cons_self ..)]
    omega
theorem parts_both (row : List Int) : ∃ V : List (List Int), V.length ≤ 60 ∧ (∀ x ∈ V, x.length = 2) ∧ Ev (fun k => impl_PartsFor.f k row) V ∧ Ev (fun k => spec_PartsFor.f k row) V := by
  by_cases hl : row.length ≤ 60
  · refine ⟨ptF row, ?_, ?_, impl_parts row hl, spec_parts row hl⟩
    · unfold ptF
      split
      · rename_i he
        obtain ⟨a, b, _, _⟩ := ev_facts he
        simp only [PT, List.length_map]
        exact (dv_rng a b).2
      · simp
    · unfold ptF
      split
      · intro x hx
        obtain ⟨d, _, rfl⟩ := List.mem_map.1 hx
        rfl
      · intro x hx; cases hx
  · exact ⟨[], by simp, nofun, impl_parts_long row (by omega), spec_parts_long row (by omega)⟩
theorem FnExactPartsFor : laws_FnExactPartsFor.Pure := by
  intro row _ _ _
  refine Ev.rounds ?_
  unfold laws_FnExactPartsFor.f
  by_cases hl : (row.length : Int) > 1048576
  · exact Ev.ite_pos hl (Ev.now _)
  refine Ev.ite_neg hl ?_
  obtain ⟨V, v1, v2, vi, vs⟩ := parts_both row
  have v3 : totL V ≤ 120 := by rw [totL_two V v2]; omega
  have v4 : ∀ x ∈ V, x.length ≤ 1000000000 := fun x hx => by rw [v2 x hx]; omega
  have ti := toIntS_f row (by omega)
  have eq := eqIntSS_f V (by omega) v4
  have hd := heldII V (by omega) (n := 1) (by omega) (by omega)
  refine Ev.bind ti (Ev.bind vs (Ev.bind ti (Ev.bind vi (Ev.bind eq (Ev.ite_pos rfl (Ev.bind ti (Ev.bind (eqIntS_f row (by omega)) (Ev.ite_pos rfl (Ev.bind (markI row (by omega) (n := 1) (by omega) (by omega)) (Ev.ite_neg (by omega) (Ev.bind eq ?_)))))))))))
  refine Ev.step (f := fun k => (laws_markIntSS.f k V 1).bind fun bt277 => ((laws_heldIntSS.f k bt277.2 1).bind fun t279 => (if t279 < 0 then (some false) else (if t279 = bt277.1 then ((laws_toIntS.f k row).bind fun t280 => ((impl_PartsFor.f k t280).bind fun t283 => ((laws_eqIntSS.f k t283 V).bind fun t286 => (if t286 = true then ((laws_heldIntSS.f k bt277.2 1).bind fun t287 => (if t287 < 0 then (some false) else (if t287 = bt277.1 then (some true) else (some false)))) else (some false))))) else (some false))))) (fun k => ?_) ?_
  · simp only [laws_FnExactPartsFor.j0]
    rw [if_neg (by simp)]
  · exact Ev.bind (markII V (by omega) (n := 1) (by omega) (by omega)) (Ev.bind hd (Ev.ite_neg (by omega) (Ev.ite_pos rfl (Ev.bind ti (Ev.bind vi (Ev.bind eq (Ev.ite_pos rfl (Ev.bind hd (Ev.ite_neg (by omega) (Ev.ite_pos rfl (Ev.now _)))))))))))

end Go.Proofs.Ytgkgpmnaflaaeaa.Pure
