/-
  With one number more there are as many more divisors together as that number has; and the program and the reference agree.
-/
import Derived.Test.YtegdgaldbjdcmaaPFnDivisorsUpTox3
import Derived.Test.YtegdgaldbjdcmaaLib
import Derived.Test.YtegdgaldbjdcmaaLibDup
import Derived.Test.YtegdgaldbjdcmaaLibDraw
import Derived.Test.YtegdgaldbjdcmaaLibDiv
import Derived.Test.YtegdgaldbjdcmaaLibDupK
namespace Go.Proofs.Ytegdgaldbjdcmaa.Pure
open Go.RowKit Go.Proofs.Ytegdgaldbjdcmaa.PFnDivisorsUpTo Go.Proofs.YtegdgaldbjdcmaaW.PrintWords Go.Proofs.YtegdgaldbjdcmaaW.PrintLast Go.Proofs.Ytegdgaldbjdcmaa.Lib
set_option linter.unusedVariables false
set_option linter.unusedSimpArgs false

theorem l1In_eq (a b c : Int) : spec_l1In.f a b c = some (decide (b ≤ a ∧ a ≤ c)) := by
  unfold spec_l1In.f
  by_cases h : a ≥ b
  · rw [if_pos h]; simp [h]
  · rw [if_neg h]; congr 1; symm; simp; intro h2; omega

theorem upToOk_eq (a : Int) : impl_upToOk.f a = some (decide (1 ≤ a ∧ a ≤ 1000)) := by
  unfold impl_upToOk.f
  by_cases h : a ≥ 1
  · rw [if_pos h]; simp [h]
  · rw [if_neg h]; congr 1; symm; simp; intro h2; omega

theorem spec_dupL (n : Nat) (h1 : 1 ≤ n) (h2 : n ≤ 1000) : ∀ (f s r d : Nat), d + f = 33 → 1 ≤ d → s ≤ 2000 * d → r ≤ 33 →
    Ev (fun k => spec_DivisorsUpTo.l0 k (n : Int) (s : Int) (r : Int) (d : Int)) (dupL n f s r d) := by
  intro f
  induction f with
  | zero =>
    intro s r d hd h3 h4 h5
    have e : d = 33 := by omega
    subst e
    refine Ev.step (f := fun _ => some ((s : Int) - (r * r : Nat))) (fun k => ?_) (Ev.now _)
    have hq : r * r ≤ 33 * 33 := Nat.mul_le_mul h5 h5
    simp only [spec_DivisorsUpTo.l0]
    rw [w64 (n := ((33 : Nat) : Int) * ((33 : Nat) : Int)) (by omega) (by omega), if_neg (by omega), w64 (n := (r : Int) * (r : Int)) (by omega) (by omega), w64 (by omega) (by omega)]
    rfl
  | succ f ih =>
    intro s r d hd h3 h4 h5
    have hdd : d * d ≤ 33 * 33 := Nat.mul_le_mul (by omega) (by omega)
    have hq : r * r ≤ 33 * 33 := Nat.mul_le_mul h5 h5
    have hdi : (d : Int) * (d : Int) = ((d * d : Nat) : Int) := by simp
    have hri : (r : Int) * (r : Int) = ((r * r : Nat) : Int) := by simp
    have hdv : n / d ≤ 1000 := Nat.le_trans (Nat.div_le_self n d) h2
    by_cases hc : d * d ≤ n
    · have := ih (s + 2 * (n / d)) d (d + 1) (by omega) (by omega) (by omega) (by omega)
      simp only [dupL, if_pos hc]
      refine Ev.step (fun k => ?_) this
      simp only [spec_DivisorsUpTo.l0]
      rw [hdi, w64 (n := ((d * d : Nat) : Int)) (by omega) (by omega), if_pos (by omega), if_neg (by omega), tdiv_nat]
      generalize n / d = q at *
      rw [w64 (n := (q : Int)) (by omega) (by omega), w64 (n := 2 * (q : Int)) (by omega) (by omega), w64 (n := (s : Int) + 2 * (q : Int)) (by omega) (by omega), w64 (n := (d : Int) + 1) (by omega) (by omega)]
      simp
    · simp only [dupL, if_neg hc]
      refine Ev.step (f := fun _ => some ((s : Int) - (r * r : Nat))) (fun k => ?_) (Ev.now _)
      simp only [spec_DivisorsUpTo.l0]
      rw [hdi, w64 (n := ((d * d : Nat) : Int)) (by omega) (by omega), if_neg (by omega), hri, w64 (n := ((r * r : Nat) : Int)) (by omega) (by omega), w64 (by omega) (by omega)]

theorem impl_dupL (n : Nat) (h1 : 1 ≤ n) (h2 : n ≤ 1000) : ∀ (f s r d : Nat), d + f = 33 → 1 ≤ d → s ≤ 2000 * d → r ≤ 33 →
    Ev (fun k => impl_DivisorsUpTo.l0 k (n : Int) (s : Int) (r : Int) (d : Int)) (dupL n f s r d) := by
  intro f
  induction f with
  | zero =>
    intro s r d hd h3 h4 h5
    have e : d = 33 := by omega
    subst e
    refine Ev.step (f := fun _ => some ((s : Int) - (r * r : Nat))) (fun k => ?_) (Ev.now _)
    have hq : r * r ≤ 33 * 33 := Nat.mul_le_mul h5 h5
    simp only [impl_DivisorsUpTo.l0]
    rw [w64 (n := ((33 : Nat) : Int) * ((33 : Nat) : Int)) (by omega) (by omega), if_neg (by omega), w64 (n := (r : Int) * (r : Int)) (by omega) (by omega), w64 (by omega) (by omega)]
    rfl
  | succ f ih =>
    intro s r d hd h3 h4 h5
    have hdd : d * d ≤ 33 * 33 := Nat.mul_le_mul (by omega) (by omega)
    have hq : r * r ≤ 33 * 33 := Nat.mul_le_mul h5 h5
    have hdi : (d : Int) * (d : Int) = ((d * d : Nat) : Int) := by simp
    have hri : (r : Int) * (r : Int) = ((r * r : Nat) : Int) := by simp
    have hdv : n / d ≤ 1000 := Nat.le_trans (Nat.div_le_self n d) h2
    by_cases hc : d * d ≤ n
    · have := ih (s + 2 * (n / d)) d (d + 1) (by omega) (by omega) (by omega) (by omega)
      simp only [dupL, if_pos hc]
      refine Ev.step (fun k => ?_) this
      simp only [impl_DivisorsUpTo.l0]
      rw [hdi, w64 (n := ((d * d : Nat) : Int)) (by omega) (by omega), if_pos (by omega), if_neg (by omega), tdiv_nat]
      generalize n / d = q at *
      rw [w64 (n := (q : Int)) (by omega) (by omega), w64 (n := 2 * (q : Int)) (by omega) (by omega), w64 (n := (s : Int) + 2 * (q : Int)) (by omega) (by omega), w64 (n := (d : Int) + 1) (by omega) (by omega)]
      simp
    · simp only [dupL, if_neg hc]
      refine Ev.step (f := fun _ => some ((s : Int) - (r * r : Nat))) (fun k => ?_) (Ev.now _)
      simp only [impl_DivisorsUpTo.l0]
      rw [hdi, w64 (n := ((d * d : Nat) : Int)) (by omega) (by omega), if_neg (by omega), hri, w64 (n := ((r * r : Nat) : Int)) (by omega) (by omega), w64 (by omega) (by omega)]

theorem spec_dup (n : Nat) (h1 : 1 ≤ n) (h2 : n ≤ 1000) : Ev (fun k => spec_DivisorsUpTo.f k (n : Int)) (dup n) := by
  unfold spec_DivisorsUpTo.f
  simp only [l1In_eq, Option.bind_some, show (1 : Int) ≤ n ∧ (n : Int) ≤ 1000 from ⟨by omega, by omega⟩, and_self, decide_true, if_true]
  exact spec_dupL n h1 h2 32 0 0 1 (by omega) (by omega) (by omega) (by omega)
theorem impl_dup (n : Nat) (h1 : 1 ≤ n) (h2 : n ≤ 1000) : Ev (fun k => impl_DivisorsUpTo.f k (n : Int)) (dup n) := by
  unfold impl_DivisorsUpTo.f
  simp only [upToOk_eq, Option.bind_some, show (1 : Int) ≤ n ∧ (n : Int) ≤ 1000 from ⟨by omega, by omega⟩, and_self, decide_true, if_true]
  exact impl_dupL n h1 h2 32 0 0 1 (by omega) (by omega) (by omega) (by omega)
theorem spec_dup_no (a : Int) (h : ¬ (1 ≤ a ∧ a ≤ 1000)) : Ev (fun k => spec_DivisorsUpTo.f k a) (-1) := by
  unfold spec_DivisorsUpTo.f
  simp only [l1In_eq, Option.bind_some, h, decide_false]
  exact Ev.now _
theorem impl_dup_no (a : Int) (h : ¬ (1 ≤ a ∧ a ≤ 1000)) : Ev (fun k => impl_DivisorsUpTo.f k a) (-1) := by
  unfold impl_DivisorsUpTo.f
  simp only [upToOk_eq, Option.bind_some, h, decide_false]
  exact Ev.now _

theorem numberOk_eq (a : Int) : impl_numberOk.f a = some (decide (1 ≤ a ∧ a ≤ 10000)) := by
  unfold impl_numberOk.f
  by_cases h : a ≥ 1
  · rw [if_pos h]; simp [h]
  · rw [if_neg h]; congr 1; symm; simp; intro h2; omega

theorem alive_eq : laws_alive.f = some true := by
  unfold laws_alive.f impl_DividesOk.f
  simp only [numberOk_eq]
  decide +kernel

theorem pick_ev {bs : List Int} (hb : Bytes bs) (hl : bs.length ≤ 2000) {p n : Int} (h0 : 0 ≤ p) (h1 : p ≤ 1000000) (hn : 1 ≤ n) :
    ∃ r, 0 ≤ r ∧ r < n ∧ Ev (fun k => spec_l20Rd_pick.f k bs p n) (r, p + 1) := by
  have ep : wrap64 (p + 1) = p + 1 := w64 (by omega) (by omega)
  have e1 : wrap64 (p + 1 - 1) = p := by rw [w64 (by omega) (by omega)]; omega
  have hf : ∀ k, spec_l20Rd_pick.f k bs p n = spec_l20Rd_pick.j0 k n ((bs.length : Int) == 0) bs (p + 1) := by
    intro k
    unfold spec_l20Rd_pick.f
    rw [if_neg (by omega), ep]
  by_cases hz : bs.length = 0
  · refine ⟨0, by omega, by omega, Ev.congr hf (Ev.step (fun k => ?_) (Ev.now _))⟩
    simp only [spec_l20Rd_pick.j0]
    rw [if_pos (by simp [hz])]
  · have hz2 : ((bs.length : Int) == 0) = false := by simpa using hz
    by_cases hp : p < (bs.length : Int)
    · have hr := hb.at_ p
      have ht := tmod_range hr.1 hn
      refine ⟨Int.tmod (rd bs p) n, ht.1, ht.2, Ev.congr hf (Ev.step (fun k => ?_) (Ev.now _))⟩
      simp only [spec_l20Rd_pick.j0, hz2, e1]
      rw [if_neg (by simp), if_pos hp, if_pos h0, if_neg (by omega), w64 (by omega) (by omega)]
    · have hl1 : (1 : Int) ≤ (bs.length : Int) := by omega
      have t1 := tmod_range h0 hl1
      have t2 := tmod_range (show 0 ≤ p * 7 + 3 by omega) hl1
      have t3 := tdiv_range h0 hl1
      have e7 : wrap64 (p * 7) = p * 7 := w64 (by omega) (by omega)
      have e73 : wrap64 (p * 7 + 3) = p * 7 + 3 := w64 (by omega) (by omega)
      have u1 := hb.at_ (Int.tmod p (bs.length : Int))
      have u2 := hb.at_ (Int.tmod (p * 7 + 3) (bs.length : Int))
      have key : ∀ k, spec_l20Rd_pick.j0 (k + 1) n ((bs.length : Int) == 0) bs (p + 1) = some (Int.tmod (Go.bits .xor .i64 (rd bs (Int.tmod p (bs.length : Int)) * 131 + rd bs (Int.tmod (p * 7 + 3) (bs.length : Int)) * 1117 + p * 29 + Int.tdiv p (bs.length : Int) * 53) (Int.tdiv (rd bs (Int.tmod p (bs.length : Int)) * 131 + rd bs (Int.tmod (p * 7 + 3) (bs.length : Int)) * 1117 + p * 29 + Int.tdiv p (bs.length : Int) * 53) 64)) n, p + 1) := by
        intro k
        simp only [spec_l20Rd_pick.j0, hz2, e1, e7, e73]
        rw [if_neg (by simp), if_neg hp, if_neg (by omega), if_pos t1.1, if_pos t1.2, if_pos t2.1, if_pos t2.2, if_neg (by omega)]
        generalize rd bs (Int.tmod p (bs.length : Int)) = u at *
        generalize rd bs (Int.tmod (p * 7 + 3) (bs.length : Int)) = v at *
        generalize Int.tdiv p (bs.length : Int) = q at *
        rw [w64 (n := u) (by omega) (by omega), w64 (n := v) (by omega) (by omega), w64 (n := u * 131) (by omega) (by omega), w64 (n := v * 1117) (by omega) (by omega), w64 (n := u * 131 + v * 1117) (by omega) (by omega), w64 (n := p * 29) (by omega) (by omega), w64 (n := u * 131 + v * 1117 + p * 29) (by omega) (by omega), w64 (n := q) (by omega) (by omega), w64 (n := q * 53) (by omega) (by omega), w64 (n := u * 131 + v * 1117 + p * 29 + q * 53) (by omega) (by omega)]
        have t4 := tdiv_range (show 0 ≤ u * 131 + v * 1117 + p * 29 + q * 53 by omega) (show (1 : Int) ≤ 64 by omega)
        rw [w64 (n := Int.tdiv (u * 131 + v * 1117 + p * 29 + q * 53) 64) (by omega) (by omega)]
      generalize rd bs (Int.tmod p (bs.length : Int)) = u at *
      generalize rd bs (Int.tmod (p * 7 + 3) (bs.length : Int)) = v at *
      generalize Int.tdiv p (bs.length : Int) = q at *
      have t4 := tdiv_range (show 0 ≤ u * 131 + v * 1117 + p * 29 + q * 53 by omega) (show (1 : Int) ≤ 64 by omega)
      have hx := xor_pos (a := u * 131 + v * 1117 + p * 29 + q * 53) (b := Int.tdiv (u * 131 + v * 1117 + p * 29 + q * 53) 64) (by omega) (by omega) (by omega) (by omega)
      have ht := tmod_range hx hn
      exact ⟨_, ht.1, ht.2, Ev.congr hf (Ev.step key (Ev.now _))⟩
theorem open_ev {l0 : List Int} (hb : Bytes l0) : ∃ bs, Bytes bs ∧ bs.length ≤ 2000 ∧ spec_l20Open.f l0 = some (bs, 0) := by
  unfold spec_l20Open.f
  by_cases h : (l0.length : Int) > 2000
  · exact ⟨l0.take 2000, hb.take _, by rw [List.length_take]; omega, by rw [if_pos h, if_pos (by omega)]⟩
  · exact ⟨l0, hb, by omega, by rw [if_neg h]⟩

theorem upTo_ev {bs : List Int} (hb : Bytes bs) (hl : bs.length ≤ 2000) {p : Int} (h0 : 0 ≤ p) (h1 : p ≤ 900000) :
    ∃ r, 0 ≤ r ∧ r ≤ 2000 ∧ Ev (fun k => spec_l20UpTo.f k bs p) (r, p + 7) := by
  obtain ⟨r1, a1, b1, c1⟩ := pick_ev hb hl (p := p) (n := 30) (by omega) (by omega) (by omega)
  obtain ⟨r2, a2, b2, c2⟩ := pick_ev hb hl (p := p + 1) (n := 250) (by omega) (by omega) (by omega)
  obtain ⟨r3, a3, b3, c3⟩ := pick_ev hb hl (p := p + 1 + 1) (n := 40) (by omega) (by omega) (by omega)
  obtain ⟨r4, a4, b4, c4⟩ := pick_ev hb hl (p := p + 1 + 1 + 1) (n := 32) (by omega) (by omega) (by omega)
  obtain ⟨r5, a5, b5, c5⟩ := pick_ev hb hl (p := p + 1 + 1 + 1 + 1) (n := 32) (by omega) (by omega) (by omega)
  obtain ⟨r6, a6, b6, c6⟩ := pick_ev hb hl (p := p + 1 + 1 + 1 + 1 + 1) (n := 7) (by omega) (by omega) (by omega)
  obtain ⟨r7, a7, b7, c7⟩ := pick_ev hb hl (p := p + 1 + 1 + 1 + 1 + 1 + 1) (n := 40) (by omega) (by omega) (by omega)
  have hm : 0 ≤ r4 * r5 ∧ r4 * r5 ≤ 31 * 31 := ⟨Int.mul_nonneg a4 a5, Int.mul_le_mul (by omega) (by omega) a5 (by omega)⟩
  have d6 := tdiv_pos (b := 2) a6
  have d7 := tdiv_pos (b := 39) a7
  have hq : ∃ q : Nat, q < 4 ∧ Int.tdiv r6 2 = q := ⟨(Int.tdiv r6 2).toNat, by omega, by omega⟩
  obtain ⟨q, hq7, hq⟩ := hq
  generalize hmm : r4 * r5 = m at *
  have hy : ∀ y, y ∈ [wrap64 (1 + r1), wrap64 (1 + r2), wrap64 (1000 - r3), wrap64 m] → 0 ≤ y ∧ y ≤ 1000 := by
    rw [w64 (n := 1 + r1) (by omega) (by omega), w64 (n := 1 + r2) (by omega) (by omega), w64 (n := 1000 - r3) (by omega) (by omega), w64 (n := m) (by omega) (by omega)]
    intro y hy
    simp only [List.mem_cons, List.not_mem_nil, or_false] at hy
    omega
  have hv : 0 ≤ rd [wrap64 (1 + r1), wrap64 (1 + r2), wrap64 (1000 - r3), wrap64 m] (q : Int) ∧ rd [wrap64 (1 + r1), wrap64 (1 + r2), wrap64 (1000 - r3), wrap64 m] (q : Int) ≤ 1000 := by
    refine hy _ ?_
    unfold rd
    rw [List.getD_eq_getElem?_getD, List.getElem?_eq_getElem (by simp; omega)]
    exact List.getElem_mem _
  refine ⟨rd [wrap64 (1 + r1), wrap64 (1 + r2), wrap64 (1000 - r3), wrap64 m] (q : Int) + Int.tdiv r7 39 * 1000, by omega, by omega, ?_⟩
  unfold spec_l20UpTo.f
  refine Ev.bind c1 (Ev.bind c2 (Ev.bind c3 (Ev.bind c4 (Ev.bind c5 ?_))))
  simp only [Option.bind_some]
  refine Ev.bind c6 ?_
  have ew : wrap64 (Int.tdiv r6 2) = (q : Int) := by rw [hq]; exact w64 (by omega) (by omega)
  simp only [ew]
  refine Ev.ite_pos (by omega) (Ev.ite_pos (by simp; omega) ?_)
  refine Ev.bind c7 (Ev.const ?_)
  simp only [hmm]
  generalize rd [wrap64 (1 + r1), wrap64 (1 + r2), wrap64 (1000 - r3), wrap64 m] (q : Int) = z at *
  rw [show p + 1 + 1 + 1 + 1 + 1 + 1 + 1 = p + 7 by omega, w64 (n := Int.tdiv r7 39) (by omega) (by omega), w64 (n := Int.tdiv r7 39 * 1000) (by omega) (by omega), w64 (n := z + Int.tdiv r7 39 * 1000) (by omega) (by omega)]

theorem reverse_mid : ∀ (m : Nat) (A M B : List Int), M.length ≤ m → (A ++ M ++ B).length ≤ 1000000 →
    Ev (fun k => slices_Reverse_int_int.l0 k (A ++ M ++ B) (A.length : Int) ((A.length : Int) + (M.length : Int) - 1)) (A ++ M.reverse ++ B) := by
  intro m
  induction m with
  | zero =>
    intro A M B hm hl
    have e : M = [] := List.length_eq_zero_iff.1 (by omega)
    subst e
    refine Ev.step (fun k => ?_) (Ev.now _)
    simp only [slices_Reverse_int_int.l0]
    rw [if_neg (by simp; omega)]
    rfl
  | succ m ih =>
    intro A M B hm hl
    match M, hm, hl with
    | [], _, _ =>
      refine Ev.step (fun k => ?_) (Ev.now _)
      simp only [slices_Reverse_int_int.l0]
      rw [if_neg (by simp; omega)]
      rfl
    | x :: M, hm, hl =>
      rcases List.eq_nil_or_concat M with rfl | ⟨M', y, rfl⟩
      · refine Ev.step (fun k => ?_) (Ev.now _)
        simp only [slices_Reverse_int_int.l0]
        rw [if_neg (by simp)]
        rfl
      · have hlen : A.length + (M'.length + 2) + B.length ≤ 1000000 := by
          simp at hl ⊢; omega
        have ih := ih (A ++ [y]) M' (x :: B) (by simp at hm; omega) (by simp; omega)
        have e1 : A ++ [y] ++ M' ++ x :: B = A ++ (y :: M' ++ x :: B) := by simp
        rw [e1] at ih
        have er : A ++ [y] ++ M'.reverse ++ x :: B = A ++ (x :: M'.concat y).reverse ++ B := by simp
        rw [er] at ih
        have ei : ((A ++ [y]).length : Int) = (A.length : Int) + 1 := by simp
        rw [ei] at ih
        have ej : (A.length : Int) + 1 + (M'.length : Int) - 1 = (A.length : Int) + (M'.length : Int) := by omega
        rw [ej] at ih
        refine Ev.step (fun k => ?_) ih
        have e0 : A ++ x :: M'.concat y ++ B = A ++ (x :: (M' ++ y :: B)) := by simp
        have ej2 : (A.length : Int) + ((x :: M'.concat y).length : Int) - 1 = ((A.length + (M'.length + 1) : Nat) : Int) := by simp; omega
        simp only [slices_Reverse_int_int.l0]
        rw [e0, ej2]
        have r1 : rd (A ++ (x :: (M' ++ y :: B))) ((A.length + (M'.length + 1) : Nat) : Int) = y := by
          unfold rd
          rw [Int.toNat_natCast, List.getD_eq_getElem?_getD, List.getElem?_append_right (by omega)]
          simp
        have r2 : rd (A ++ (x :: (M' ++ y :: B))) (A.length : Int) = x := by
          unfold rd
          rw [Int.toNat_natCast, List.getD_eq_getElem?_getD, List.getElem?_append_right (by omega)]
          simp
        have hL : (A ++ (x :: (M' ++ y :: B))).length = A.length + (M'.length + 2) + B.length := by simp; omega
        rw [if_pos (by omega), if_pos (by omega), if_pos (by omega), if_pos (by omega), if_pos (by omega), r1, r2, w64 (by omega) (by omega), w64 (by omega) (by omega)]
        have s1 : ((A ++ (x :: (M' ++ y :: B))).set ((A.length : Nat) : Int).toNat y).set ((A.length + (M'.length + 1) : Nat) : Int).toNat x = A ++ (y :: M' ++ x :: B) := by
          rw [Int.toNat_natCast, Int.toNat_natCast, List.set_append_right _ _ (Nat.le_refl _), List.set_append_right _ _ (by omega)]
          simp
        rw [s1]
        congr 1
        omega
theorem reverse_ev (l : List Int) (hl : l.length ≤ 1000000) : Ev (fun k => slices_Reverse_int_int.f k l) l.reverse := by
  unfold slices_Reverse_int_int.f
  have h := reverse_mid l.length [] l [] (Nat.le_refl _) (by simpa using hl)
  simp only [List.nil_append, List.append_nil, List.length_nil] at h
  rw [w64 (by omega) (by omega)]
  refine Ev.congr (fun k => ?_) h
  congr 1
  omega

theorem sq_cast (a : Nat) : (a : Int) * (a : Int) = ((a * a : Nat) : Int) := by simp
theorem sq_le {a m : Nat} (h : a ≤ m) : a * a ≤ m * m := Nat.mul_le_mul h h
theorem sq_le' {a m : Nat} (h : a ≤ m) : a * a ≤ m * m := Nat.mul_le_mul h h

theorem impl_dvL {n : Nat} (h1 : 1 ≤ n) (h2 : n ≤ 10000) : ∀ (f d : Nat) (x y : List Int), d + f = 102 → 1 ≤ d → x.length < d → y.length < d →
    Ev (fun k => impl_divisors.l0 k (n : Int) x y (d : Int)) (x ++ ints (sm n f d) ++ (y ++ ints (bk n f d)).reverse) := by
  intro f
  induction f with
  | zero =>
    intro d x y hd hd1 hx hy
    have e : d = 102 := by omega
    subst e
    have hr := reverse_ev y (by omega)
    simp only [sm, bk, ints, List.map_nil, List.append_nil]
    refine Ev.step (f := fun k => (slices_Reverse_int_int.f k y).bind fun t => (if x.length + t.length < 17592186044416 then (some (x ++ t)) else (none))) (fun k => ?_) (Ev.bind hr (Ev.ite_pos (by rw [List.length_reverse]; omega) (Ev.now _)))
    simp only [impl_divisors.l0, sq_cast]
    rw [w64 (n := ((102 * 102 : Nat) : Int)) (by omega) (by omega), if_neg (by omega)]
  | succ f ih =>
    intro d x y hd hd1 hx hy
    have hdd := sq_le (show d ≤ 102 by omega)
    by_cases hc : d * d ≤ n
    · by_cases hm : n % d = 0
      · have hq : n / d ≤ n := Nat.div_le_self _ _
        by_cases hl : d * d < n
        · have ih := ih (d + 1) (x ++ [(d : Int)]) (y ++ [((n / d : Nat) : Int)]) (by omega) (by omega) (by simp; omega) (by simp; omega)
          simp only [sm, bk, if_pos hc, if_pos hm, if_pos hl]
          have e : x ++ ints (d :: sm n f (d + 1)) ++ (y ++ ints (n / d :: bk n f (d + 1))).reverse = x ++ [(d : Int)] ++ ints (sm n f (d + 1)) ++ (y ++ [((n / d : Nat) : Int)] ++ ints (bk n f (d + 1))).reverse := by simp [ints]
          rw [e]
          refine Ev.step (fun k => ?_) ih
          simp only [impl_divisors.l0, sq_cast, tmod_nat, tdiv_nat]
          rw [w64 (n := ((d * d : Nat) : Int)) (by omega) (by omega), if_pos (by omega), if_neg (by omega), if_pos (by omega), if_pos (by omega)]
          simp only [Option.bind_some]
          generalize n / d = q at *
          rw [if_pos (by omega), if_pos (by omega), w64 (n := (q : Int)) (by omega) (by omega), w64 (n := (d : Int) + 1) (by omega) (by omega)]
          rfl
        · have ih := ih (d + 1) (x ++ [(d : Int)]) y (by omega) (by omega) (by simp; omega) (by omega)
          simp only [sm, bk, if_pos hc, if_pos hm, if_neg hl]
          have e : x ++ ints (d :: sm n f (d + 1)) ++ (y ++ ints (bk n f (d + 1))).reverse = x ++ [(d : Int)] ++ ints (sm n f (d + 1)) ++ (y ++ ints (bk n f (d + 1))).reverse := by simp [ints]
          rw [e]
          refine Ev.step (fun k => ?_) ih
          simp only [impl_divisors.l0, sq_cast, tmod_nat, tdiv_nat]
          rw [w64 (n := ((d * d : Nat) : Int)) (by omega) (by omega), if_pos (by omega), if_neg (by omega), if_pos (by omega), if_pos (by omega)]
          simp only [Option.bind_some]
          rw [if_neg (by omega), w64 (n := (d : Int) + 1) (by omega) (by omega)]
          rfl
      · have ih := ih (d + 1) x y (by omega) (by omega) (by omega) (by omega)
        simp only [sm, bk, if_pos hc, if_neg hm]
        refine Ev.step (fun k => ?_) ih
        simp only [impl_divisors.l0, sq_cast, tmod_nat]
        rw [w64 (n := ((d * d : Nat) : Int)) (by omega) (by omega), if_pos (by omega), if_neg (by omega), if_neg (by omega), w64 (n := (d : Int) + 1) (by omega) (by omega)]
        rfl
    · have hr := reverse_ev y (by omega)
      simp only [sm, bk, if_neg hc, ints, List.map_nil, List.append_nil]
      refine Ev.step (f := fun k => (slices_Reverse_int_int.f k y).bind fun t => (if x.length + t.length < 17592186044416 then (some (x ++ t)) else (none))) (fun k => ?_) (Ev.bind hr (Ev.ite_pos (by rw [List.length_reverse]; omega) (Ev.now _)))
      simp only [impl_divisors.l0, sq_cast]
      rw [w64 (n := ((d * d : Nat) : Int)) (by omega) (by omega), if_neg (by omega)]
theorem impl_dv {n : Nat} (h1 : 1 ≤ n) (h2 : n ≤ 10000) : Ev (fun k => impl_divisors.f k (n : Int)) (ints (dv n)) := by
  unfold impl_divisors.f
  have h := impl_dvL h1 h2 101 1 [] [] (by omega) (by omega) (by simp) (by simp)
  have e : ints (dv n) = [] ++ ints (sm n 101 1) ++ ([] ++ ints (bk n 101 1)).reverse := by simp [dv, ints]
  rw [e]
  exact h

theorem impl_dvT {n : Nat} (h1 : 1 ≤ n) (h2 : n ≤ 10000) : Ev (fun k => impl_DivisorsOf.f k (n : Int)) (ints (dv n)) := by
  unfold impl_DivisorsOf.f
  simp only [numberOk_eq, Option.bind_some, show (1 : Int) ≤ n ∧ (n : Int) ≤ 10000 from ⟨by omega, by omega⟩, and_self, decide_true, if_true]
  exact Ev.bind (impl_dv h1 h2) (Ev.now _)

theorem draw_ev {l0 : List Int} (hb : Bytes l0) : ∃ n, 0 ≤ n ∧ n ≤ 2000 ∧ Ev (fun k => spec_DrawDivisorsUpTo.f k l0) n := by
  obtain ⟨bs, h1, h2, h3⟩ := open_ev hb
  obtain ⟨r, h4, h5, h6⟩ := upTo_ev h1 h2 (p := 0) (by omega) (by omega)
  refine ⟨r, h4, h5, ?_⟩
  unfold spec_DrawDivisorsUpTo.f
  exact Ev.bindc h3 (Ev.bind h6 (Ev.now _))
theorem FnDivisorsUpTo : laws_FnDivisorsUpTo.Pure := by
  intro l0 _ _ hw
  refine Ev.rounds ?_
  unfold laws_FnDivisorsUpTo.f
  by_cases hl : (l0.length : Int) > 1048576
  · exact Ev.ite_pos hl (Ev.now _)
  refine Ev.ite_neg hl ?_
  obtain ⟨a, h1, h2, h3⟩ := draw_ev (Bytes.of hw)
  refine Ev.bind h3 ?_
  by_cases hr : 1 ≤ a ∧ a ≤ 1000
  · obtain ⟨n, rfl⟩ : ∃ n : Nat, a = n := ⟨a.toNat, by omega⟩
    have hp := dup_pos n (by omega) (by omega)
    refine Ev.bind (impl_dup n (by omega) (by omega)) (Ev.bind (spec_dup n (by omega) (by omega)) (Ev.ite_pos rfl (Ev.ite_neg (by omega) ?_)))
    refine Ev.bind (impl_dup 1 (by omega) (by omega)) (Ev.ite_pos dup_one ?_)
    by_cases h0 : (n : Int) = 1
    · exact Ev.ite_pos h0 (Ev.now _)
    · refine Ev.ite_neg h0 ?_
      obtain ⟨m, rfl⟩ : ∃ m, n = m + 1 := ⟨n - 1, by omega⟩
      have e : wrap64 (((m + 1 : Nat) : Int) - 1) = (m : Int) := by rw [w64 (by omega) (by omega)]; omega
      rw [e]
      refine Ev.bind (impl_dup m (by omega) (by omega)) (Ev.bind (impl_dvT (by omega) (by omega)) (Ev.const ?_))
      have hs := dup_step (n := m) (by omega) (by omega)
      have hlen : (dv (m + 1)).length ≤ 10000 := by
        rw [dv_eq (by omega) (by omega)]
        have := dvF_length (m + 1) 1 (m + 1)
        unfold dvs
        omega
      have hp2 := dup_pos m (by omega) (by omega)
      have hb2 : dup m ≤ 100000 := dup_bound (by omega)
      rw [ints_length, w64 (by omega) (by omega), hs]
      simp
  · refine Ev.bind (impl_dup_no a hr) (Ev.bind (spec_dup_no a hr) (Ev.ite_pos rfl (Ev.ite_pos (by decide) (Ev.ite_pos rfl (Ev.bindc alive_eq (Ev.now _))))))

end Go.Proofs.Ytegdgaldbjdcmaa.Pure
