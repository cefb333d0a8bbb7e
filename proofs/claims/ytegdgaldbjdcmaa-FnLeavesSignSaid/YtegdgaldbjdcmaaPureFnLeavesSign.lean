/-
  At the product of a number and any one from 1 to 9 the sign is the product of both signs; and the program and the reference agree.
-/
import Derived.Test.YtegdgaldbjdcmaaPFnLeavesSignx2
import Derived.Test.YtegdgaldbjdcmaaLib
import Derived.Test.YtegdgaldbjdcmaaLibLsg
import Derived.Test.YtegdgaldbjdcmaaLibDraw
namespace Go.Proofs.Ytegdgaldbjdcmaa.Pure
open Go.RowKit Go.Proofs.Ytegdgaldbjdcmaa.PFnLeavesSign Go.Proofs.YtegdgaldbjdcmaaW.PrintWords Go.Proofs.YtegdgaldbjdcmaaW.PrintLast Go.Proofs.Ytegdgaldbjdcmaa.Lib
set_option linter.unusedVariables false
set_option linter.unusedSimpArgs false

theorem l1In_eq (a b c : Int) : spec_l1In.f a b c = some (decide (b ≤ a ∧ a ≤ c)) := by
  unfold spec_l1In.f
  by_cases h : a ≥ b
  · rw [if_pos h]; simp [h]
  · rw [if_neg h]; congr 1; symm; simp; intro h2; omega

theorem numberOk_eq (a : Int) : impl_numberOk.f a = some (decide (1 ≤ a ∧ a ≤ 10000)) := by
  unfold impl_numberOk.f
  by_cases h : a ≥ 1
  · rw [if_pos h]; simp [h]
  · rw [if_neg h]; congr 1; symm; simp; intro h2; omega

theorem impl_lsg (a : Int) (h : 0 ≤ a) : impl_leavesSign.f a = some (lsg a) := by
  unfold impl_leavesSign.f lsg
  rw [tmod_pos h]
  split
  · rfl
  · split <;> rfl
theorem impl_Lsg (a : Int) : impl_LeavesSign.f a = some (if 1 ≤ a ∧ a ≤ 10000 then lsg a else 0) := by
  unfold impl_LeavesSign.f
  rw [numberOk_eq]
  simp only [Option.bind_some]
  by_cases h : 1 ≤ a ∧ a ≤ 10000
  · rw [impl_lsg a (by omega)]
    simp [h]
  · simp [h]
theorem spec_Lsg (a : Int) : spec_LeavesSign.f a = some (if 1 ≤ a ∧ a ≤ 10000 then lsg a else 0) := by
  unfold spec_LeavesSign.f
  rw [l1In_eq]
  simp only [Option.bind_some]
  by_cases hr : 1 ≤ a ∧ a ≤ 10000
  · simp only [hr, decide_true, if_true, and_self]
    rw [tmod_pos (by omega), tmod_pos (by omega)]
    unfold lsg
    have h4 : a % 4 = 0 ∨ a % 4 = 1 ∨ a % 4 = 2 ∨ a % 4 = 3 := by omega
    rcases h4 with h4 | h4 | h4 | h4
    · rw [if_pos (by omega), if_neg (by omega), if_neg (by omega)]
    · rw [if_neg (by omega), if_pos (by omega), h4, w64 (by omega) (by omega)]; rfl
    · rw [if_pos (by omega), if_neg (by omega), if_neg (by omega)]
    · rw [if_neg (by omega), if_neg (by omega), if_pos (by omega), h4, w64 (by omega) (by omega)]; rfl
  · simp [hr]


theorem alive_eq : laws_alive.f = some true := by
  unfold laws_alive.f impl_DividesOk.f
  simp only [numberOk_eq]
  decide +kernel

theorem pick_ev {bs : List Int} (hb : Bytes bs) (hl : bs.length ≤ 2000) {p n : Int} (h0 : 0 ≤ p) (h1 : p ≤ 1000000) (hn : 1 ≤ n) :
    ∃ r, 0 ≤ r ∧ r < n ∧ Ev (fun k => spec_l20Rd_pick.f k bs p n) (r, p + 1) := by
  have ep : wrap64 (p + 1) = p + 1 := w64 (by omega) (by omega)
  have e1 : wrap64 (p + 1 - 1) = p := by rw [w64 (by omega) (by omega)]; omega
  have hf : ∀ k, spec_l20Rd_pick.f k bs p n = spec_l20Rd_pick.j0 k n ((bs.length : Int) == 0) bs (p + 1) := by
    intro k
    unfold spec_l20Rd_pick.f
    rw [if_neg (by omega), ep]
  by_cases hz : bs.length = 0
  · refine ⟨0, by omega, by omega, Ev.congr hf (Ev.step (fun k => ?_) (Ev.now _))⟩
    simp only [spec_l20Rd_pick.j0]
    rw [if_pos (by simp [hz])]
  · have hz2 : ((bs.length : Int) == 0) = false := by simpa using hz
    by_cases hp : p < (bs.length : Int)
    · have hr := hb.at_ p
      have ht := tmod_range hr.1 hn
      refine ⟨Int.tmod (rd bs p) n, ht.1, ht.2, Ev.congr hf (Ev.step (fun k => ?_) (Ev.now _))⟩
      simp only [spec_l20Rd_pick.j0, hz2, e1]
      rw [if_neg (by simp), if_pos hp, if_pos h0, if_neg (by omega), w64 (by omega) (by omega)]
    · have hl1 : (1 : Int) ≤ (bs.length : Int) := by omega
      have t1 := tmod_range h0 hl1
      have t2 := tmod_range (show 0 ≤ p * 7 + 3 by omega) hl1
      have t3 := tdiv_range h0 hl1
      have e7 : wrap64 (p * 7) = p * 7 := w64 (by omega) (by omega)
      have e73 : wrap64 (p * 7 + 3) = p * 7 + 3 := w64 (by omega) (by omega)
      have u1 := hb.at_ (Int.tmod p (bs.length : Int))
      have u2 := hb.at_ (Int.tmod (p * 7 + 3) (bs.length : Int))
      have key : ∀ k, spec_l20Rd_pick.j0 (k + 1) n ((bs.length : Int) == 0) bs (p + 1) = some (Int.tmod (Go.bits .xor .i64 (rd bs (Int.tmod p (bs.length : Int)) * 131 + rd bs (Int.tmod (p * 7 + 3) (bs.length : Int)) * 1117 + p * 29 + Int.tdiv p (bs.length : Int) * 53) (Int.tdiv (rd bs (Int.tmod p (bs.length : Int)) * 131 + rd bs (Int.tmod (p * 7 + 3) (bs.length : Int)) * 1117 + p * 29 + Int.tdiv p (bs.length : Int) * 53) 64)) n, p + 1) := by
        intro k
        simp only [spec_l20Rd_pick.j0, hz2, e1, e7, e73]
        rw [if_neg (by simp), if_neg hp, if_neg (by omega), if_pos t1.1, if_pos t1.2, if_pos t2.1, if_pos t2.2, if_neg (by omega)]
        generalize rd bs (Int.tmod p (bs.length : Int)) = u at *
        generalize rd bs (Int.tmod (p * 7 + 3) (bs.length : Int)) = v at *
        generalize Int.tdiv p (bs.length : Int) = q at *
        rw [w64 (n := u) (by omega) (by omega), w64 (n := v) (by omega) (by omega), w64 (n := u * 131) (by omega) (by omega), w64 (n := v * 1117) (by omega) (by omega), w64 (n := u * 131 + v * 1117) (by omega) (by omega), w64 (n := p * 29) (by omega) (by omega), w64 (n := u * 131 + v * 1117 + p * 29) (by omega) (by omega), w64 (n := q) (by omega) (by omega), w64 (n := q * 53) (by omega) (by omega), w64 (n := u * 131 + v * 1117 + p * 29 + q * 53) (by omega) (by omega)]
        have t4 := tdiv_range (show 0 ≤ u * 131 + v * 1117 + p * 29 + q * 53 by omega) (show (1 : Int) ≤ 64 by omega)
        rw [w64 (n := Int.tdiv (u * 131 + v * 1117 + p * 29 + q * 53) 64) (by omega) (by omega)]
      generalize rd bs (Int.tmod p (bs.length : Int)) = u at *
      generalize rd bs (Int.tmod (p * 7 + 3) (bs.length : Int)) = v at *
      generalize Int.tdiv p (bs.length : Int) = q at *
      have t4 := tdiv_range (show 0 ≤ u * 131 + v * 1117 + p * 29 + q * 53 by omega) (show (1 : Int) ≤ 64 by omega)
      have hx := xor_pos (a := u * 131 + v * 1117 + p * 29 + q * 53) (b := Int.tdiv (u * 131 + v * 1117 + p * 29 + q * 53) 64) (by omega) (by omega) (by omega) (by omega)
      have ht := tmod_range hx hn
      exact ⟨_, ht.1, ht.2, Ev.congr hf (Ev.step key (Ev.now _))⟩
theorem open_ev {l0 : List Int} (hb : Bytes l0) : ∃ bs, Bytes bs ∧ bs.length ≤ 2000 ∧ spec_l20Open.f l0 = some (bs, 0) := by
  unfold spec_l20Open.f
  by_cases h : (l0.length : Int) > 2000
  · exact ⟨l0.take 2000, hb.take _, by rw [List.length_take]; omega, by rw [if_pos h, if_pos (by omega)]⟩
  · exact ⟨l0, hb, by omega, by rw [if_neg h]⟩

theorem some_ev {bs : List Int} (hb : Bytes bs) (hl : bs.length ≤ 2000) {p : Int} (h0 : 0 ≤ p) (h1 : p ≤ 900000) :
    ∃ r, -30000 ≤ r ∧ r ≤ 30000 ∧ Ev (fun k => spec_l20Some.f k bs p) (r, p + 8) := by
  obtain ⟨r1, a1, b1, c1⟩ := pick_ev hb hl (p := p) (n := 12) (by omega) (by omega) (by omega)
  obtain ⟨r2, a2, b2, c2⟩ := pick_ev hb hl (p := p + 1) (n := 60) (by omega) (by omega) (by omega)
  obtain ⟨r3, a3, b3, c3⟩ := pick_ev hb hl (p := p + 1 + 1) (n := 100) (by omega) (by omega) (by omega)
  obtain ⟨r4, a4, b4, c4⟩ := pick_ev hb hl (p := p + 1 + 1 + 1) (n := 100) (by omega) (by omega) (by omega)
  obtain ⟨r5, a5, b5, c5⟩ := pick_ev hb hl (p := p + 1 + 1 + 1 + 1) (n := 60) (by omega) (by omega) (by omega)
  obtain ⟨r6, a6, b6, c6⟩ := pick_ev hb hl (p := p + 1 + 1 + 1 + 1 + 1) (n := 13) (by omega) (by omega) (by omega)
  obtain ⟨r7, a7, b7, c7⟩ := pick_ev hb hl (p := p + 1 + 1 + 1 + 1 + 1 + 1) (n := 40) (by omega) (by omega) (by omega)
  obtain ⟨r8, a8, b8, c8⟩ := pick_ev hb hl (p := p + 1 + 1 + 1 + 1 + 1 + 1 + 1) (n := 50) (by omega) (by omega) (by omega)
  have hm : 0 ≤ r3 * r4 ∧ r3 * r4 ≤ 99 * 99 := ⟨Int.mul_nonneg a3 a4, Int.mul_le_mul (by omega) (by omega) a4 (by omega)⟩
  have d6 := tdiv_pos (b := 2) a6
  have d7 := tdiv_pos (b := 39) a7
  have d8 := tdiv_pos (b := 49) a8
  have hq : ∃ q : Nat, q < 7 ∧ Int.tdiv r6 2 = q := ⟨(Int.tdiv r6 2).toNat, by omega, by omega⟩
  obtain ⟨q, hq7, hq⟩ := hq
  generalize hmm : r3 * r4 = m at *
  have hy : ∀ y, y ∈ [wrap64 (1 + r1), wrap64 (1 + r2), wrap64 (1 + (wrap64 m)), wrap64 (12 * (wrap64 (1 + r5))), 9973, 8192, 9240] → 0 ≤ y ∧ y ≤ 10000 := by
    rw [w64 (n := 1 + r1) (by omega) (by omega), w64 (n := 1 + r2) (by omega) (by omega), w64 (n := m) (by omega) (by omega), w64 (n := 1 + m) (by omega) (by omega), w64 (n := 1 + r5) (by omega) (by omega), w64 (n := 12 * (1 + r5)) (by omega) (by omega)]
    intro y hy
    simp only [List.mem_cons, List.not_mem_nil, or_false] at hy
    omega
  have hv : 0 ≤ rd [wrap64 (1 + r1), wrap64 (1 + r2), wrap64 (1 + (wrap64 m)), wrap64 (12 * (wrap64 (1 + r5))), 9973, 8192, 9240] (q : Int) ∧ rd [wrap64 (1 + r1), wrap64 (1 + r2), wrap64 (1 + (wrap64 m)), wrap64 (12 * (wrap64 (1 + r5))), 9973, 8192, 9240] (q : Int) ≤ 10000 := by
    refine hy _ ?_
    unfold rd
    rw [List.getD_eq_getElem?_getD, List.getElem?_eq_getElem (by simp; omega)]
    exact List.getElem_mem _
  refine ⟨rd [wrap64 (1 + r1), wrap64 (1 + r2), wrap64 (1 + (wrap64 m)), wrap64 (12 * (wrap64 (1 + r5))), 9973, 8192, 9240] (q : Int) + Int.tdiv r7 39 * 10000 - Int.tdiv r8 49 * 20000, by omega, by omega, ?_⟩
  unfold spec_l20Some.f
  refine Ev.bind c1 ?_
  refine Ev.bind c2 ?_
  refine Ev.bind c3 ?_
  refine Ev.bind c4 ?_
  refine Ev.bind c5 ?_
  simp only [Option.bind_some]
  refine Ev.bind c6 ?_
  have ew : wrap64 (Int.tdiv r6 2) = (q : Int) := by rw [hq]; exact w64 (by omega) (by omega)
  simp only [ew]
  refine Ev.ite_pos (by omega) (Ev.ite_pos (by simp; omega) ?_)
  refine Ev.bind c7 (Ev.bind c8 ?_)
  refine Ev.const ?_
  simp only [hmm]
  generalize rd [wrap64 (1 + r1), wrap64 (1 + r2), wrap64 (1 + (wrap64 m)), wrap64 (12 * (wrap64 (1 + r5))), 9973, 8192, 9240] (q : Int) = z at *
  rw [show p + 1 + 1 + 1 + 1 + 1 + 1 + 1 + 1 = p + 8 by omega, w64 (n := Int.tdiv r7 39) (by omega) (by omega), w64 (n := Int.tdiv r7 39 * 10000) (by omega) (by omega), w64 (n := z + Int.tdiv r7 39 * 10000) (by omega) (by omega), w64 (n := Int.tdiv r8 49) (by omega) (by omega), w64 (n := Int.tdiv r8 49 * 20000) (by omega) (by omega), w64 (n := z + Int.tdiv r7 39 * 10000 - Int.tdiv r8 49 * 20000) (by omega) (by omega)]

theorem draw_ev {l0 : List Int} (hb : Bytes l0) : ∃ n, -30000 ≤ n ∧ n ≤ 30000 ∧ Ev (fun k => spec_DrawLeavesSign.f k l0) n := by
  obtain ⟨bs, h1, h2, h3⟩ := open_ev hb
  obtain ⟨r, h4, h5, h6⟩ := some_ev h1 h2 (p := 0) (by omega) (by omega)
  refine ⟨r, h4, h5, ?_⟩
  unfold spec_DrawLeavesSign.f
  refine Ev.bindc h3 (Ev.bind h6 (Ev.now _))
theorem lsg_mul (a b : Int) : lsg (a * b) = lsg a * lsg b := by
  unfold lsg
  rw [Int.mul_emod]
  have ha : a % 4 = 0 ∨ a % 4 = 1 ∨ a % 4 = 2 ∨ a % 4 = 3 := by omega
  have hb : b % 4 = 0 ∨ b % 4 = 1 ∨ b % 4 = 2 ∨ b % 4 = 3 := by omega
  rcases ha with ha | ha | ha | ha <;> rcases hb with hb | hb | hb | hb <;> rw [ha, hb] <;> decide
theorem lsg_even (a : Int) (h : 0 ≤ a) : ((lsg a == 0) == ((Int.tmod a 2) == 0)) = true := by
  rw [tmod_pos h]
  unfold lsg
  have h4 : a % 4 = 0 ∨ a % 4 = 1 ∨ a % 4 = 2 ∨ a % 4 = 3 := by omega
  rcases h4 with h4 | h4 | h4 | h4
  · rw [h4, show a % 2 = 0 by omega]; rfl
  · rw [h4, show a % 2 = 1 by omega]; rfl
  · rw [h4, show a % 2 = 0 by omega]; rfl
  · rw [h4, show a % 2 = 1 by omega]; rfl
theorem loop_ev (n : Int) (h1 : 1 ≤ n) (h2 : n ≤ 10000) : ∀ (f : Nat) (i : Int), i + f = 10 → 1 ≤ i → Ev (fun k => laws_FnLeavesSign.l0 k n (lsg n) i) true := by
  intro f
  induction f with
  | zero =>
    intro i hi _
    refine Ev.step (fun k => ?_) (Ev.now _)
    simp only [laws_FnLeavesSign.l0]
    rw [if_neg (by omega), if_pos (lsg_even n (by omega)), impl_Lsg]
    decide
  | succ f ih =>
    intro i hi hi1
    have hm : 0 ≤ i * n ∧ i * n ≤ 9 * 10000 := ⟨Int.mul_nonneg (by omega) (by omega), Int.mul_le_mul (by omega) (by omega) (by omega) (by omega)⟩
    have hm1 : 1 * 1 ≤ i * n := Int.mul_le_mul (by omega) (by omega) (by omega) (by omega)
    have hl := lsg_mul i n
    have ha := lsg_rng i
    have hb := lsg_rng n
    have hp : -1 ≤ lsg i * lsg n ∧ lsg i * lsg n ≤ 1 := by
      have x1 : lsg i = -1 ∨ lsg i = 0 ∨ lsg i = 1 := by omega
      rcases x1 with x | x | x <;> rw [x] <;> omega
    by_cases hc : i * n ≤ 10000
    · refine Ev.step (fun k => ?_) (ih (i + 1) (by omega) (by omega))
      simp only [laws_FnLeavesSign.l0]
      rw [if_pos (by omega), w64 (n := i * n) (by omega) (by omega), if_pos hc, impl_Lsg, impl_Lsg]
      simp only [Option.bind_some]
      rw [if_pos (show 1 ≤ i * n ∧ i * n ≤ 10000 from ⟨by omega, hc⟩), if_pos (show 1 ≤ i ∧ i ≤ 10000 from ⟨by omega, by omega⟩), Int.mul_comm (lsg n), w64 (n := lsg i * lsg n) (by omega) (by omega), if_pos hl, w64 (by omega) (by omega)]
    · refine Ev.step (fun k => ?_) (ih (i + 1) (by omega) (by omega))
      simp only [laws_FnLeavesSign.l0]
      rw [if_pos (by omega), w64 (n := i * n) (by omega) (by omega), if_neg hc, w64 (by omega) (by omega)]
theorem j0_ev (n s : Int) (b : Bool) (h : b = true → s = 0) (h2 : b = false → 1 ≤ n ∧ n ≤ 10000 ∧ s = lsg n) : Ev (fun k => laws_FnLeavesSign.j0 k n s b) true := by
  cases b with
  | true =>
    obtain rfl := h rfl
    refine Ev.step (fun k => ?_) (Ev.now _)
    simp [laws_FnLeavesSign.j0, alive_eq]
  | false =>
    obtain ⟨h3, h4, rfl⟩ := h2 rfl
    refine Ev.step (fun k => ?_) (loop_ev n h3 h4 9 1 (by omega) (by omega))
    simp [laws_FnLeavesSign.j0]
theorem FnLeavesSign : laws_FnLeavesSign.Pure := by
  intro l0 _ _ hw
  refine Ev.rounds ?_
  unfold laws_FnLeavesSign.f
  by_cases hl : (l0.length : Int) > 1048576
  · exact Ev.ite_pos hl (Ev.now _)
  refine Ev.ite_neg hl ?_
  obtain ⟨n, h1, h2, h3⟩ := draw_ev (Bytes.of hw)
  refine Ev.bind h3 (Ev.bindc (impl_Lsg n) (Ev.bindc (spec_Lsg n) (Ev.ite_pos rfl ?_)))
  by_cases hn : n < 1
  · refine Ev.ite_pos hn (j0_ev _ _ _ (fun _ => ?_) (fun h => by cases h))
    rw [if_neg (by omega)]
  · refine Ev.ite_neg hn (j0_ev _ _ _ (fun h => ?_) (fun h => ?_))
    · have h : n > 10000 := of_decide_eq_true h
      rw [if_neg (by omega)]
    · have h : ¬ n > 10000 := of_decide_eq_false h
      exact ⟨by omega, by omega, by rw [if_pos (by omega)]⟩

end Go.Proofs.Ytegdgaldbjdcmaa.Pure
