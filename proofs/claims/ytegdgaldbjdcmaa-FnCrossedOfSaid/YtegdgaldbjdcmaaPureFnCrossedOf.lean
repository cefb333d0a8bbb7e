/-
  The squares of both crossed numbers are together the product of both sums of squares, and that is a number that primes that leave 3 divide evenly; and the program and the reference agree.
-/
import Derived.Test.YtegdgaldbjdcmaaPFnCrossedOfx2
import Derived.Test.YtegdgaldbjdcmaaLib
import Derived.Test.YtegdgaldbjdcmaaLibFac
import Derived.Test.YtegdgaldbjdcmaaLibSqr
import Derived.Test.YtegdgaldbjdcmaaLibDraw
import Derived.Test.YtegdgaldbjdcmaaLibJac
namespace Go.Proofs.Ytegdgaldbjdcmaa.Pure
open Go.RowKit Go.Proofs.Ytegdgaldbjdcmaa.PFnCrossedOf Go.Proofs.YtegdgaldbjdcmaaW.PrintWords Go.Proofs.YtegdgaldbjdcmaaW.PrintLast Go.Proofs.YtegdgaldbjdcmaaW.PrintMore Go.Proofs.Ytegdgaldbjdcmaa.Lib
set_option linter.unusedVariables false
set_option linter.unusedSimpArgs false

theorem l1In_eq (a b c : Int) : spec_l1In.f a b c = some (decide (b ≤ a ∧ a ≤ c)) := by
  unfold spec_l1In.f
  by_cases h : a ≥ b
  · rw [if_pos h]; simp [h]
  · rw [if_neg h]; congr 1; symm; simp; intro h2; omega

/-- What both tell of four numbers. -/
def crs (a b c d : Int) : Int × Int × Bool := if (0 ≤ a ∧ a ≤ 100) ∧ (0 ≤ b ∧ b ≤ 100) ∧ (0 ≤ c ∧ c ≤ 100) ∧ (0 ≤ d ∧ d ≤ 100) then (mx (a * c - b * d) (b * d - a * c), a * d + b * c, true) else (-1, -1, false)
theorem prod_rng {a b : Int} (h1 : 0 ≤ a ∧ a ≤ 100) (h2 : 0 ≤ b ∧ b ≤ 100) : 0 ≤ a * b ∧ a * b ≤ 100 * 100 := ⟨Int.mul_nonneg h1.1 h2.1, Int.mul_le_mul h1.2 h2.2 h2.1 (by omega)⟩
theorem crs_wraps {a b c d : Int} (h1 : 0 ≤ a ∧ a ≤ 100) (h2 : 0 ≤ b ∧ b ≤ 100) (h3 : 0 ≤ c ∧ c ≤ 100) (h4 : 0 ≤ d ∧ d ≤ 100) :
    (mx (wrap64 ((wrap64 (a * c)) - (wrap64 (b * d)))) (wrap64 ((wrap64 (b * d)) - (wrap64 (a * c)))), wrap64 ((wrap64 (a * d)) + (wrap64 (b * c))), true) = crs a b c d := by
  have e1 := prod_rng h1 h3
  have e2 := prod_rng h2 h4
  have e3 := prod_rng h1 h4
  have e4 := prod_rng h2 h3
  unfold crs
  rw [if_pos ⟨h1, h2, h3, h4⟩]
  generalize a * c = x at *
  generalize b * d = y at *
  generalize a * d = z at *
  generalize b * c = u at *
  rw [w64 (n := x) (by omega) (by omega), w64 (n := y) (by omega) (by omega), w64 (n := z) (by omega) (by omega), w64 (n := u) (by omega) (by omega), w64 (n := x - y) (by omega) (by omega), w64 (n := y - x) (by omega) (by omega), w64 (n := z + u) (by omega) (by omega)]
theorem spec_crs (a b c d : Int) : spec_CrossedOf.f a b c d = some (crs a b c d) := by
  unfold spec_CrossedOf.f
  simp only [l1In_eq, Option.bind_some]
  by_cases h1 : 0 ≤ a ∧ a ≤ 100
  · by_cases h2 : 0 ≤ b ∧ b ≤ 100
    · by_cases h3 : 0 ≤ c ∧ c ≤ 100
      · by_cases h4 : 0 ≤ d ∧ d ≤ 100
        · rw [if_pos (decide_eq_true h1), if_pos (decide_eq_true h2), if_pos (decide_eq_true h3), if_pos (decide_eq_true h4), crs_wraps h1 h2 h3 h4]
        · rw [if_pos (decide_eq_true h1), if_pos (decide_eq_true h2), if_pos (decide_eq_true h3), if_neg (by simpa using h4)]
          unfold crs
          rw [if_neg (fun h => h4 h.2.2.2)]
      · rw [if_pos (decide_eq_true h1), if_pos (decide_eq_true h2), if_neg (by simpa using h3)]
        unfold crs
        rw [if_neg (fun h => h3 h.2.2.1)]
    · rw [if_pos (decide_eq_true h1), if_neg (by simpa using h2)]
      unfold crs
      rw [if_neg (fun h => h2 h.2.1)]
  · rw [if_neg (by simpa using h1)]
    unfold crs
    rw [if_neg (fun h => h1 h.1)]
theorem impl_crsL (a b c d : Int) : ∀ (r l : List Int) (i : Nat), l.drop i = r → i ≤ l.length → l.length ≤ 10 →
    Ev (fun k => impl_CrossedOf.l0 k a b c d l (l.length : Int) (i : Int)) (if ∀ x ∈ r, 0 ≤ x ∧ x ≤ 100 then (mx (wrap64 ((wrap64 (a * c)) - (wrap64 (b * d)))) (wrap64 ((wrap64 (b * d)) - (wrap64 (a * c)))), wrap64 ((wrap64 (a * d)) + (wrap64 (b * c))), true) else (-1, -1, false)) := by
  intro r
  induction r with
  | nil =>
    intro l i hd hi hl
    have : l.length ≤ i := List.drop_eq_nil_iff.1 hd
    rw [if_pos (by simp)]
    refine Ev.step (fun k => ?_) (Ev.now _)
    simp only [impl_CrossedOf.l0]
    rw [if_neg (by omega)]
  | cons x r ih =>
    intro l i hd hi hl
    obtain ⟨hlt, hx, hr⟩ := drop_at hd
    have hrd : rd l (i : Int) = x := by
      unfold rd
      rw [Int.toNat_natCast, List.getD_eq_getElem?_getD, hx]
      rfl
    have ih := ih l (i + 1) hr hlt hl
    by_cases h1 : x < 0
    · rw [if_neg (fun h => by have := h x (List.mem_cons_self ..); omega)]
      refine Ev.step (fun k => ?_) (Ev.now _)
      simp only [impl_CrossedOf.l0, hrd]
      rw [if_pos (by omega), if_pos (by omega), if_pos (by omega), if_pos h1]
    · by_cases h2 : x > 100
      · rw [if_neg (fun h => by have := h x (List.mem_cons_self ..); omega)]
        refine Ev.step (fun k => ?_) (Ev.now _)
        simp only [impl_CrossedOf.l0, hrd]
        rw [if_pos (by omega), if_pos (by omega), if_pos (by omega), if_neg h1, if_pos h2]
      · have e : (∀ y ∈ x :: r, 0 ≤ y ∧ y ≤ 100) ↔ ∀ y ∈ r, 0 ≤ y ∧ y ≤ 100 := by
          constructor
          · exact fun h y hy => h y (List.mem_cons_of_mem _ hy)
          · intro h y hy
            rcases List.mem_cons.1 hy with rfl | hy
            · omega
            · exact h y hy
        simp only [e]
        refine Ev.step (fun k => ?_) ih
        simp only [impl_CrossedOf.l0, hrd]
        rw [if_pos (by omega), if_pos (by omega), if_pos (by omega), if_neg h1, if_neg h2, w64 (by omega) (by omega)]
        rfl
theorem impl_crs (a b c d : Int) : Ev (fun k => impl_CrossedOf.f k a b c d) (crs a b c d) := by
  unfold impl_CrossedOf.f
  simp only [Option.bind_some]
  have h := impl_crsL a b c d [a, b, c, d] [a, b, c, d] 0 rfl (by simp) (by simp)
  by_cases hr : (0 ≤ a ∧ a ≤ 100) ∧ (0 ≤ b ∧ b ≤ 100) ∧ (0 ≤ c ∧ c ≤ 100) ∧ (0 ≤ d ∧ d ≤ 100)
  · rw [if_pos (by simpa using hr), crs_wraps hr.1 hr.2.1 hr.2.2.1 hr.2.2.2] at h
    exact h
  · rw [if_neg (by simpa using hr)] at h
    unfold crs
    rw [if_neg hr]
    exact h

theorem numberOk_eq (a : Int) : impl_numberOk.f a = some (decide (1 ≤ a ∧ a ≤ 10000)) := by
  unfold impl_numberOk.f
  by_cases h : a ≥ 1
  · rw [if_pos h]; simp [h]
  · rw [if_neg h]; congr 1; symm; simp; intro h2; omega

theorem sq_cast (a : Nat) : (a : Int) * (a : Int) = ((a * a : Nat) : Int) := by simp
theorem sq_le {a m : Nat} (h : a ≤ m) : a * a ≤ m * m := Nat.mul_le_mul h h
theorem sq_le' {a m : Nat} (h : a ≤ m) : a * a ≤ m * m := Nat.mul_le_mul h h

theorem impl_strip (x : List (List Int)) (hx : x.length ≤ 1000) (p : Nat) (hp : 2 ≤ p) (hp2 : p ≤ 10000) (R : List (List Int)) : ∀ (f n c : Nat), 1 ≤ n → n ≤ 10000 → n < 2 ^ f → c + f ≤ 1000 →
    Ev (fun k => impl_factors.l0 k ((strip f n p c).1 : Int) (if 0 < (strip f n p c).2 then x ++ [[(p : Int), ((strip f n p c).2 : Int)]] else x) ((p : Int) + 1)) R →
    Ev (fun k => impl_factors.l1 k (n : Int) x (p : Int) (c : Int)) R := by
  intro f
  induction f with
  | zero => intro n c h1 _ h2; simp at h2; omega
  | succ f ih =>
    intro n c h1 h3 h2 hc hR
    by_cases h : n % p = 0
    · have e := Nat.mul_div_cancel' (Nat.dvd_of_mod_eq_zero h)
      have hq1 : 1 ≤ n / p := by
        refine Nat.pos_of_ne_zero (fun hz => ?_)
        rw [hz] at e; omega
      have hq2 : n / p < 2 ^ f := by
        have : 2 * (n / p) ≤ p * (n / p) := Nat.mul_le_mul_right _ hp
        rw [Nat.pow_succ] at h2
        omega
      have hq3 : n / p ≤ 10000 := Nat.le_trans (Nat.div_le_self _ _) h3
      simp only [strip, if_pos h] at hR
      refine Ev.step (fun k => ?_) (ih (n / p) (c + 1) hq1 hq3 hq2 (by omega) hR)
      simp only [impl_factors.l1, tmod_nat, tdiv_nat]
      generalize n / p = q at *
      rw [if_neg (by omega), if_pos (by omega), w64 (n := (q : Int)) (by omega) (by omega), w64 (n := (c : Int) + 1) (by omega) (by omega)]
      rfl
    · simp only [strip, if_neg h] at hR
      refine Ev.step (fun k => ?_) hR
      simp only [impl_factors.l1, tmod_nat]
      rw [if_neg (by omega), if_neg (by omega)]
      by_cases hc0 : 0 < c
      · rw [if_pos (by omega), if_pos (by omega), if_pos hc0, w64 (by omega) (by omega)]
      · rw [if_neg (by omega), if_neg hc0, w64 (by omega) (by omega)]
theorem impl_facL : ∀ (f n p : Nat) (x : List (List Int)), 1 ≤ n → n ≤ 10000 → 2 ≤ p → p ≤ 10001 → (n ≤ 1 ∨ (103 ≤ p + f ∧ 1 ≤ f)) → x.length + f ≤ 500 →
    Ev (fun k => impl_factors.l0 k (n : Int) x (p : Int)) (x ++ fints (facI f n p)) := by
  intro f
  induction f with
  | zero =>
    intro n p x h1 h2 h3 h4 h5 h6
    have hn : n = 1 := by omega
    subst hn
    refine Ev.step (fun k => ?_) (Ev.now _)
    simp only [impl_factors.l0]
    rw [if_neg (by omega)]
    simp [facI, fints]
  | succ f ih =>
    intro n p x h1 h2 h3 h4 h5 h6
    by_cases hn : 1 < n
    · have hpp : p * p ≤ 10001 * 10001 := sq_le h4
      by_cases hc : p * p > n
      · -- the number itself
        have hs := strip_self (show 2 ≤ n by omega)
        have ih := ih 1 (n + 1) (x ++ [[(n : Int), 1]]) (by omega) (by omega) (by omega) (by omega) (by omega) (by simp; omega)
        have h := impl_strip x (by omega) n (by omega) h2 (x ++ [[(n : Int), 1]] ++ fints (facI f 1 (n + 1))) 14 n 0 h1 h2 (by omega) (by omega) (by rw [hs]; exact ih)
        have e : x ++ fints (facI (f + 1) n p) = x ++ [[(n : Int), 1]] ++ fints (facI f 1 (n + 1)) := by
          rw [facI_prime f p hn hc, facI_one f _ (Nat.le_refl _)]; simp [fints]
        rw [e]
        refine Ev.step (f := fun k => impl_factors.j1 k (n : Int) x (n : Int)) (fun k => ?_) (Ev.step (fun k => ?_) h)
        · simp only [impl_factors.l0, sq_cast]
          rw [if_pos (by omega), w64 (n := ((p * p : Nat) : Int)) (by omega) (by omega), if_pos (by omega)]
        · simp only [impl_factors.j1]
          rfl
      · have hp100 : p ≤ 100 := by
          refine Nat.le_of_not_lt (fun hp => ?_)
          have : 101 * 101 ≤ p * p := sq_le hp
          omega
        obtain ⟨s1, s2, s3, s4, s5, s6, s7⟩ := strip_spec p h3 14 n 0 h1 (by omega)
        have e : x ++ fints (facI (f + 1) n p) = (if 0 < (strip 14 n p 0).2 then x ++ [[(p : Int), ((strip 14 n p 0).2 : Int)]] else x) ++ fints (facI f (strip 14 n p 0).1 (p + 1)) := by
          rw [facI_succ, if_pos hn]
          simp only [if_neg hc]
          split <;> simp [fints]
        rw [e]
        have hlen : (if 0 < (strip 14 n p 0).2 then x ++ [[(p : Int), ((strip 14 n p 0).2 : Int)]] else x).length + f ≤ 500 := by
          by_cases hcc : 0 < (strip 14 n p 0).2
          · rw [if_pos hcc]; simp; omega
          · rw [if_neg hcc]; omega
        have ih := ih (strip 14 n p 0).1 (p + 1) (if 0 < (strip 14 n p 0).2 then x ++ [[(p : Int), ((strip 14 n p 0).2 : Int)]] else x) s1 (by omega) (by omega) (by omega) (.inr ⟨by omega, by omega⟩) hlen
        have h := impl_strip x (by omega) p h3 (by omega) _ 14 n 0 h1 h2 (by omega) (by omega) ih
        refine Ev.step (f := fun k => impl_factors.j1 k (n : Int) x (p : Int)) (fun k => ?_) (Ev.step (fun k => ?_) h)
        · simp only [impl_factors.l0, sq_cast]
          rw [if_pos (by omega), w64 (n := ((p * p : Nat) : Int)) (by omega) (by omega), if_neg (by omega)]
        · simp only [impl_factors.j1]
          rfl
    · rw [facI_one _ _ (by omega)]
      refine Ev.step (fun k => ?_) (Ev.now _)
      simp only [impl_factors.l0]
      rw [if_neg (by omega)]
      simp [fints]
theorem impl_fac {n : Nat} (h1 : 1 ≤ n) (h2 : n ≤ 10000) : Ev (fun k => impl_factors.f k (n : Int)) (fints (fac n)) := by
  unfold impl_factors.f
  have h := impl_facL 101 n 2 [] h1 h2 (by omega) (by omega) (.inr ⟨by omega, by omega⟩) (by simp)
  rw [List.nil_append] at h
  exact h

theorem fints_at (l : List (Nat × Nat)) (i : Nat) (x : Nat × Nat) (h : l[i]? = some x) : rd_L1 (fints l) (i : Int) = [(x.1 : Int), (x.2 : Int)] := by
  unfold rd_L1 fints
  rw [Int.toNat_natCast, List.getD_eq_getElem?_getD, List.getElem?_map, h]
  rfl



theorem impl_sqL (l : List (Nat × Nat)) (hl : l.length ≤ 1000) : ∀ (r : List (Nat × Nat)) (i : Nat), l.drop i = r → i ≤ l.length →
    Ev (fun k => impl_SquaresOk.l0 k (fints l) (l.length : Int) (i : Int)) (sqF r) := by
  intro r
  induction r with
  | nil =>
    intro i hd hi
    have : l.length ≤ i := List.drop_eq_nil_iff.1 hd
    refine Ev.step (fun k => ?_) (Ev.now _)
    simp only [impl_SquaresOk.l0]
    rw [if_neg (by omega)]
    rfl
  | cons x r ih =>
    intro i hd hi
    obtain ⟨hlt, hx, hr⟩ := drop_at hd
    have ih := ih (i + 1) hr hlt
    have t1 : Int.tmod (x.1 : Int) 4 = ((x.1 % 4 : Nat) : Int) := tmod_nat _ 4
    have t2 : Int.tmod (x.2 : Int) 2 = ((x.2 % 2 : Nat) : Int) := tmod_nat _ 2
    have e : sqF (x :: r) = (!(x.1 % 4 == 3 && x.2 % 2 == 1) && sqF r) := by simp [sqF]
    rw [e]
    by_cases h3 : x.1 % 4 = 3
    · by_cases h1 : x.2 % 2 = 1
      · refine Ev.step (fun k => ?_) (Ev.now _)
        simp only [impl_SquaresOk.l0, fints_at l i x hx, fints_length, rd_p0, rd_p1, len_p, t1, t2]
        rw [if_pos (by omega), if_pos (by omega), if_pos (by omega), if_pos (by omega), if_pos (by omega), if_pos (by omega), if_neg (by omega)]
        simp [h3, h1]
      · refine Ev.step (fun k => ?_) (by rw [show (!(x.1 % 4 == 3 && x.2 % 2 == 1) && sqF r) = sqF r by simp [h1]]; exact ih)
        simp only [impl_SquaresOk.l0, fints_at l i x hx, fints_length, rd_p0, rd_p1, len_p, t1, t2]
        rw [if_pos (by omega), if_pos (by omega), if_pos (by omega), if_pos (by omega), if_pos (by omega), if_pos (by omega), if_pos (by omega), w64 (by omega) (by omega)]
        rfl
    · refine Ev.step (fun k => ?_) (by rw [show (!(x.1 % 4 == 3 && x.2 % 2 == 1) && sqF r) = sqF r by simp [h3]]; exact ih)
      simp only [impl_SquaresOk.l0, fints_at l i x hx, fints_length, rd_p0, rd_p1, len_p, t1, t2]
      rw [if_pos (by omega), if_pos (by omega), if_pos (by omega), if_pos (by omega), if_neg (by omega), w64 (by omega) (by omega)]
      rfl
theorem impl_sqOk {n : Nat} (h1 : 1 ≤ n) (h2 : n ≤ 10000) : Ev (fun k => impl_SquaresOk.f k (n : Int)) (sqOk n) := by
  unfold impl_SquaresOk.f
  simp only [numberOk_eq, Option.bind_some, show (1 : Int) ≤ n ∧ (n : Int) ≤ 10000 from ⟨by omega, by omega⟩, and_self, decide_true, if_true]
  refine Ev.bind (impl_fac h1 h2) ?_
  rw [fints_length]
  exact impl_sqL (fac n) (fac_length n) (fac n) 0 rfl (Nat.zero_le _)
theorem impl_sqOk_no {a : Int} (h : ¬ (1 ≤ a ∧ a ≤ 10000)) : Ev (fun k => impl_SquaresOk.f k a) false := by
  unfold impl_SquaresOk.f
  simp only [numberOk_eq, Option.bind_some, h, decide_false]
  exact Ev.now _


theorem alive_eq : laws_alive.f = some true := by
  unfold laws_alive.f impl_DividesOk.f
  simp only [numberOk_eq]
  decide +kernel

theorem pick_ev {bs : List Int} (hb : Bytes bs) (hl : bs.length ≤ 2000) {p n : Int} (h0 : 0 ≤ p) (h1 : p ≤ 1000000) (hn : 1 ≤ n) :
    ∃ r, 0 ≤ r ∧ r < n ∧ Ev (fun k => spec_l20Rd_pick.f k bs p n) (r, p + 1) := by
  have ep : wrap64 (p + 1) = p + 1 := w64 (by omega) (by omega)
  have e1 : wrap64 (p + 1 - 1) = p := by rw [w64 (by omega) (by omega)]; omega
  have hf : ∀ k, spec_l20Rd_pick.f k bs p n = spec_l20Rd_pick.j0 k n ((bs.length : Int) == 0) bs (p + 1) := by
    intro k
    unfold spec_l20Rd_pick.f
    rw [if_neg (by omega), ep]
  by_cases hz : bs.length = 0
  · refine ⟨0, by omega, by omega, Ev.congr hf (Ev.step (fun k => ?_) (Ev.now _))⟩
    simp only [spec_l20Rd_pick.j0]
    rw [if_pos (by simp [hz])]
  · have hz2 : ((bs.length : Int) == 0) = false := by simpa using hz
    by_cases hp : p < (bs.length : Int)
    · have hr := hb.at_ p
      have ht := tmod_range hr.1 hn
      refine ⟨Int.tmod (rd bs p) n, ht.1, ht.2, Ev.congr hf (Ev.step (fun k => ?_) (Ev.now _))⟩
      simp only [spec_l20Rd_pick.j0, hz2, e1]
      rw [if_neg (by simp), if_pos hp, if_pos h0, if_neg (by omega), w64 (by omega) (by omega)]
    · have hl1 : (1 : Int) ≤ (bs.length : Int) := by omega
      have t1 := tmod_range h0 hl1
      have t2 := tmod_range (show 0 ≤ p * 7 + 3 by omega) hl1
      have t3 := tdiv_range h0 hl1
      have e7 : wrap64 (p * 7) = p * 7 := w64 (by omega) (by omega)
      have e73 : wrap64 (p * 7 + 3) = p * 7 + 3 := w64 (by omega) (by omega)
      have u1 := hb.at_ (Int.tmod p (bs.length : Int))
      have u2 := hb.at_ (Int.tmod (p * 7 + 3) (bs.length : Int))
      have key : ∀ k, spec_l20Rd_pick.j0 (k + 1) n ((bs.length : Int) == 0) bs (p + 1) = some (Int.tmod (Go.bits .xor .i64 (rd bs (Int.tmod p (bs.length : Int)) * 131 + rd bs (Int.tmod (p * 7 + 3) (bs.length : Int)) * 1117 + p * 29 + Int.tdiv p (bs.length : Int) * 53) (Int.tdiv (rd bs (Int.tmod p (bs.length : Int)) * 131 + rd bs (Int.tmod (p * 7 + 3) (bs.length : Int)) * 1117 + p * 29 + Int.tdiv p (bs.length : Int) * 53) 64)) n, p + 1) := by
        intro k
        simp only [spec_l20Rd_pick.j0, hz2, e1, e7, e73]
        rw [if_neg (by simp), if_neg hp, if_neg (by omega), if_pos t1.1, if_pos t1.2, if_pos t2.1, if_pos t2.2, if_neg (by omega)]
        generalize rd bs (Int.tmod p (bs.length : Int)) = u at *
        generalize rd bs (Int.tmod (p * 7 + 3) (bs.length : Int)) = v at *
        generalize Int.tdiv p (bs.length : Int) = q at *
        rw [w64 (n := u) (by omega) (by omega), w64 (n := v) (by omega) (by omega), w64 (n := u * 131) (by omega) (by omega), w64 (n := v * 1117) (by omega) (by omega), w64 (n := u * 131 + v * 1117) (by omega) (by omega), w64 (n := p * 29) (by omega) (by omega), w64 (n := u * 131 + v * 1117 + p * 29) (by omega) (by omega), w64 (n := q) (by omega) (by omega), w64 (n := q * 53) (by omega) (by omega), w64 (n := u * 131 + v * 1117 + p * 29 + q * 53) (by omega) (by omega)]
        have t4 := tdiv_range (show 0 ≤ u * 131 + v * 1117 + p * 29 + q * 53 by omega) (show (1 : Int) ≤ 64 by omega)
        rw [w64 (n := Int.tdiv (u * 131 + v * 1117 + p * 29 + q * 53) 64) (by omega) (by omega)]
      generalize rd bs (Int.tmod p (bs.length : Int)) = u at *
      generalize rd bs (Int.tmod (p * 7 + 3) (bs.length : Int)) = v at *
      generalize Int.tdiv p (bs.length : Int) = q at *
      have t4 := tdiv_range (show 0 ≤ u * 131 + v * 1117 + p * 29 + q * 53 by omega) (show (1 : Int) ≤ 64 by omega)
      have hx := xor_pos (a := u * 131 + v * 1117 + p * 29 + q * 53) (b := Int.tdiv (u * 131 + v * 1117 + p * 29 + q * 53) 64) (by omega) (by omega) (by omega) (by omega)
      have ht := tmod_range hx hn
      exact ⟨_, ht.1, ht.2, Ev.congr hf (Ev.step key (Ev.now _))⟩
theorem open_ev {l0 : List Int} (hb : Bytes l0) : ∃ bs, Bytes bs ∧ bs.length ≤ 2000 ∧ spec_l20Open.f l0 = some (bs, 0) := by
  unfold spec_l20Open.f
  by_cases h : (l0.length : Int) > 2000
  · exact ⟨l0.take 2000, hb.take _, by rw [List.length_take]; omega, by rw [if_pos h, if_pos (by omega)]⟩
  · exact ⟨l0, hb, by omega, by rw [if_neg h]⟩

theorem draw_ev {l0 : List Int} (hb : Bytes l0) : ∃ r, Ev (fun k => spec_DrawCrossedOf.f k l0) r := by
  obtain ⟨bs, h1, h2, h3⟩ := open_ev hb
  obtain ⟨r1, a1, b1, c1⟩ := pick_ev h1 h2 (p := 0) (n := 12) (by omega) (by omega) (by omega)
  obtain ⟨r2, a2, b2, c2⟩ := pick_ev h1 h2 (p := 0 + 1) (n := 12) (by omega) (by omega) (by omega)
  obtain ⟨r3, a3, b3, c3⟩ := pick_ev h1 h2 (p := 0 + 1 + 1) (n := 101) (by omega) (by omega) (by omega)
  obtain ⟨r4, a4, b4, c4⟩ := pick_ev h1 h2 (p := 0 + 1 + 1 + 1) (n := 20) (by omega) (by omega) (by omega)
  obtain ⟨r5, a5, b5, c5⟩ := pick_ev h1 h2 (p := 0 + 1 + 1 + 1 + 1) (n := 102) (by omega) (by omega) (by omega)
  refine ⟨(r1, r2, wrap64 (r3 - (wrap64 (Int.tdiv r4 19))), r5), ?_⟩
  unfold spec_DrawCrossedOf.f
  exact Ev.bindc h3 (Ev.bind c1 (Ev.bind c2 (Ev.bind c3 (Ev.bind c4 (Ev.bind c5 (Ev.now _))))))
theorem j0_no (a b c d : Int) : Ev (fun k => laws_FnCrossedOf.j0 k a b c d (-1) (-1) false false) true := by
  refine Ev.step (fun k => ?_) (Ev.now _)
  simp [laws_FnCrossedOf.j0, alive_eq]
theorem mx_sq (x : Int) : mx x (-x) * mx x (-x) = x * x := by
  unfold mx
  split
  · rw [Int.neg_mul_neg]
  · rfl
theorem cross_id (a b c d : Int) : (a * c - b * d) * (a * c - b * d) + (a * d + b * c) * (a * d + b * c) = (a * a + b * b) * (c * c + d * d) := by grind
theorem prod4 {A B C D : Int} (hA : 0 ≤ A ∧ A ≤ 100 * 100) (hB : 0 ≤ B ∧ B ≤ 100 * 100) (hC : 0 ≤ C ∧ C ≤ 100 * 100) (hD : 0 ≤ D ∧ D ≤ 100 * 100) :
    wrap64 ((wrap64 ((wrap64 A) + (wrap64 B))) * (wrap64 ((wrap64 C) + (wrap64 D)))) = (A + B) * (C + D) := by
  have h1 : 0 ≤ (A + B) * (C + D) := Int.mul_nonneg (by omega) (by omega)
  have h2 : (A + B) * (C + D) ≤ 20000 * 20000 := Int.mul_le_mul (by omega) (by omega) (by omega) (by omega)
  rw [w64 (n := A) (by omega) (by omega), w64 (n := B) (by omega) (by omega), w64 (n := C) (by omega) (by omega), w64 (n := D) (by omega) (by omega), w64 (n := A + B) (by omega) (by omega), w64 (n := C + D) (by omega) (by omega)]
  generalize (A + B) * (C + D) = z at *
  exact w64 (by omega) (by omega)
theorem j0_yes {a b c d : Int} (h1 : 0 ≤ a ∧ a ≤ 100) (h2 : 0 ≤ b ∧ b ≤ 100) (h3 : 0 ≤ c ∧ c ≤ 100) (h4 : 0 ≤ d ∧ d ≤ 100) :
    Ev (fun k => laws_FnCrossedOf.j0 k a b c d (mx (a * c - b * d) (b * d - a * c)) (a * d + b * c) true false) true := by
  have e1 := prod_rng h1 h3
  have e2 := prod_rng h2 h4
  have e3 := prod_rng h1 h4
  have e4 := prod_rng h2 h3
  have f1 := prod_rng h1 h1
  have f2 := prod_rng h2 h2
  have f3 := prod_rng h3 h3
  have f4 := prod_rng h4 h4
  have hid := cross_id a b c d
  have hneg : b * d - a * c = -(a * c - b * d) := by omega
  have hsq := mx_sq (a * c - b * d)
  rw [← hneg] at hsq
  have hlow : 0 ≤ mx (a * c - b * d) (b * d - a * c) := by unfold mx; split <;> omega
  have hup : mx (a * c - b * d) (b * d - a * c) ≤ 10000 := by unfold mx; split <;> omega
  have hq : 0 ≤ a * d + b * c ∧ a * d + b * c ≤ 20000 := by omega
  rw [← hsq] at hid
  generalize mx (a * c - b * d) (b * d - a * c) = p at *
  generalize a * d + b * c = q at *
  have hp2 : 0 ≤ p * p ∧ p * p ≤ 10000 * 10000 := ⟨Int.mul_nonneg hlow hlow, Int.mul_le_mul hup hup hlow (by omega)⟩
  have hq2 : 0 ≤ q * q ∧ q * q ≤ 20000 * 20000 := ⟨Int.mul_nonneg hq.1 hq.1, Int.mul_le_mul hq.2 hq.2 hq.1 (by omega)⟩
  have w1 : wrap64 ((wrap64 (p * p)) + (wrap64 (q * q))) = p * p + q * q := by
    rw [w64 (n := p * p) (by omega) (by omega), w64 (n := q * q) (by omega) (by omega), w64 (by omega) (by omega)]
  have w2 : wrap64 ((wrap64 ((wrap64 (a * a)) + (wrap64 (b * b)))) * (wrap64 ((wrap64 (c * c)) + (wrap64 (d * d))))) = p * p + q * q := by
    rw [prod4 f1 f2 f3 f4, hid]
  clear hid e1 e2 e3 e4 f1 f2 f3 f4
  have key : ∀ k, laws_FnCrossedOf.j0 (k + 1) a b c d p q true false = if p * p + q * q < 1 then ((laws_alive.f).bind fun t158 => (some t158)) else (if p * p + q * q > 10000 then ((laws_alive.f).bind fun t159 => (some t159)) else ((impl_SquaresOk.f k (p * p + q * q)).bind fun t160 => (if t160 = true then ((laws_alive.f).bind fun t161 => (some t161)) else (some false)))) := by
    intro k
    simp only [laws_FnCrossedOf.j0, w1, w2, if_true, Bool.false_eq_true, if_false]
    rw [if_pos hlow]
  refine Ev.step key ?_
  by_cases c1 : p * p + q * q < 1
  · exact Ev.ite_pos c1 (Ev.bindc alive_eq (Ev.now _))
  · refine Ev.ite_neg c1 ?_
    by_cases c2 : p * p + q * q > 10000
    · exact Ev.ite_pos c2 (Ev.bindc alive_eq (Ev.now _))
    · refine Ev.ite_neg c2 ?_
      obtain ⟨x, rfl⟩ : ∃ x : Nat, p = x := ⟨p.toNat, by omega⟩
      obtain ⟨y, rfl⟩ : ∃ y : Nat, q = y := ⟨q.toNat, by omega⟩
      have e : (x : Int) * (x : Int) + (y : Int) * (y : Int) = ((x * x + y * y : Nat) : Int) := by simp
      rw [e] at c1 c2 ⊢
      clear hsq hp2 hq2 hq hlow hup e w1 w2 key
      obtain ⟨n, hn⟩ : ∃ n, x * x + y * y = n := ⟨_, rfl⟩
      rw [hn] at c1 c2 ⊢
      have hn1 : 1 ≤ n := by omega
      have hn2 : n ≤ 10000 := by omega
      have hcs : 1 ≤ cs n := cs_pos (a := x) (b := y) hn2 hn
      have hs : sqOk n = true := (sqOk_iff hn1 hn2).trans (decide_eq_true hcs)
      have h := impl_sqOk hn1 hn2
      rw [hs] at h
      exact Ev.bind h (Ev.ite_pos rfl (Ev.bindc alive_eq (Ev.now _)))
theorem FnCrossedOf : laws_FnCrossedOf.Pure := by
  intro l0 _ _ hw
  refine Ev.rounds ?_
  unfold laws_FnCrossedOf.f
  by_cases hl : (l0.length : Int) > 1048576
  · exact Ev.ite_pos hl (Ev.now _)
  refine Ev.ite_neg hl ?_
  obtain ⟨⟨a, b, c, d⟩, h3⟩ := draw_ev (Bytes.of hw)
  refine Ev.bind h3 (Ev.bind (impl_crs a b c d) (Ev.bindc (spec_crs a b c d) (Ev.ite_pos rfl (Ev.ite_pos rfl ?_))))
  rw [bne_self_eq_false]
  by_cases hr : (0 ≤ a ∧ a ≤ 100) ∧ (0 ≤ b ∧ b ≤ 100) ∧ (0 ≤ c ∧ c ≤ 100) ∧ (0 ≤ d ∧ d ≤ 100)
  · unfold crs
    rw [if_pos hr]
    exact j0_yes hr.1 hr.2.1 hr.2.2.1 hr.2.2.2
  · unfold crs
    rw [if_neg hr]
    exact j0_no a b c d

end Go.Proofs.Ytegdgaldbjdcmaa.Pure
