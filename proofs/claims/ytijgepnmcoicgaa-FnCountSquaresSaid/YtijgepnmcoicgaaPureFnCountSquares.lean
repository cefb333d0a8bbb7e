/-
  The ways are those that divisors count; twice the number has as many; and the program and the reference agree.
-/
import Derived.Test.YtijgepnmcoicgaaPFnCountSquaresx3
import Derived.Test.YtijgepnmcoicgaaLib
import Derived.Test.YtijgepnmcoicgaaLibCs
import Derived.Test.YtijgepnmcoicgaaLibDraw
import Derived.Test.YtijgepnmcoicgaaLibDiv
import Derived.Test.YtijgepnmcoicgaaLibLsg
import Derived.Test.YtijgepnmcoicgaaLibJacM
namespace Go.Proofs.Ytijgepnmcoicgaa.Pure
open Go.RowKit Go.Proofs.Ytijgepnmcoicgaa.PFnCountSquares Go.Proofs.YtijgepnmcoicgaaW.PrintWords Go.Proofs.YtijgepnmcoicgaaW.PrintLast Go.Proofs.YtijgepnmcoicgaaW.PrintMore Go.Proofs.Ytijgepnmcoicgaa.Lib
set_option linter.unusedVariables false
set_option linter.unusedSimpArgs false

theorem l1In_eq (a b c : Int) : spec_l1In.f a b c = some (decide (b ≤ a ∧ a ≤ c)) := by
  unfold spec_l1In.f
  by_cases h : a ≥ b
  · rw [if_pos h]; simp [h]
  · rw [if_neg h]; congr 1; symm; simp; intro h2; omega

theorem numberOk_eq (a : Int) : impl_numberOk.f a = some (decide (1 ≤ a ∧ a ≤ 10000)) := by
  unfold impl_numberOk.f
  by_cases h : a ≥ 1
  · rw [if_pos h]; simp [h]
  · rw [if_neg h]; congr 1; symm; simp; intro h2; omega

theorem sq_cast (a : Nat) : (a : Int) * (a : Int) = ((a * a : Nat) : Int) := by simp
theorem sq_le {a m : Nat} (h : a ≤ m) : a * a ≤ m * m := Nat.mul_le_mul h h
theorem sq_le' {a m : Nat} (h : a ≤ m) : a * a ≤ m * m := Nat.mul_le_mul h h

/-- The program's inner loop. -/
theorem impl_csIn (n a : Nat) (hn : n ≤ 10000) (ha : a ≤ 101) (R : Int) : ∀ (f b s : Nat), b + f = 101 → s + 4 * f ≤ 100000 →
    Ev (fun k => impl_CountSquares.l0 k (n : Int) ((s + wt a * tsum (csG n (a * a)) f b : Nat) : Int) ((a : Int) + 1)) R →
    Ev (fun k => impl_CountSquares.l1 k (n : Int) (s : Int) (a : Int) (b : Int)) R := by
  intro f
  have haa := sq_le ha
  induction f with
  | zero =>
    intro b s hb hs hR
    have e : b = 101 := by omega
    subst e
    refine Ev.step (fun k => ?_) hR
    simp only [impl_CountSquares.l1, tsum, sq_cast]
    rw [w64 (n := ((a * a : Nat) : Int)) (by omega) (by omega), w64 (n := ((101 * 101 : Nat) : Int)) (by omega) (by omega), w64 (n := ((a * a : Nat) : Int) + ((101 * 101 : Nat) : Int)) (by omega) (by omega), if_neg (by omega), w64 (by omega) (by omega)]
    simp
  | succ f ih =>
    intro b s hb hs hR
    have hbb := sq_le (show b ≤ 101 by omega)
    by_cases hc : a * a + b * b ≤ n
    · by_cases he : a * a + b * b = n
      · simp only [tsum, csG, if_pos he] at hR
        rw [Nat.mul_add, ← Nat.add_assoc] at hR
        have hw : wt a * wt b ≤ 2 * 2 := Nat.mul_le_mul (wt_le a) (wt_le b)
        refine Ev.step (fun k => ?_) (ih (b + 1) (s + wt a * wt b) (by omega) (by omega) hR)
        simp only [impl_CountSquares.l1, sq_cast]
        rw [w64 (n := ((a * a : Nat) : Int)) (by omega) (by omega), w64 (n := ((b * b : Nat) : Int)) (by omega) (by omega), w64 (n := ((a * a : Nat) : Int) + ((b * b : Nat) : Int)) (by omega) (by omega), if_pos (by omega), if_pos (by omega), w64 (n := (b : Int) + 1) (by omega) (by omega)]
        by_cases h1 : a = 0
        · by_cases h2 : b = 0
          · subst h1 h2
            rw [if_neg (by omega), if_neg (by omega), w64 (by omega) (by omega)]; rfl
          · rw [if_neg (by omega), if_pos (by omega), w64 (by omega) (by omega)]
            simp [wt, h1, h2]
        · by_cases h2 : b = 0
          · rw [if_pos (by omega), if_neg (by omega), w64 (by omega) (by omega)]
            simp [wt, h1, h2]
          · rw [if_pos (by omega), if_pos (by omega), w64 (by omega) (by omega)]
            simp [wt, h1, h2]
      · simp only [tsum, csG, if_neg he] at hR
        rw [Nat.zero_add] at hR
        refine Ev.step (fun k => ?_) (ih (b + 1) s (by omega) (by omega) hR)
        simp only [impl_CountSquares.l1, sq_cast]
        rw [w64 (n := ((a * a : Nat) : Int)) (by omega) (by omega), w64 (n := ((b * b : Nat) : Int)) (by omega) (by omega), w64 (n := ((a * a : Nat) : Int) + ((b * b : Nat) : Int)) (by omega) (by omega), if_pos (by omega), if_neg (by omega), w64 (n := (b : Int) + 1) (by omega) (by omega)]
        rfl
    · have hz : tsum (csG n (a * a)) (f + 1) b = 0 := by
        refine tsum_zero _ _ (fun j hj => ?_)
        have : b * b ≤ j * j := Nat.mul_le_mul hj hj
        unfold csG
        rw [if_neg (by omega)]
      rw [hz] at hR
      refine Ev.step (fun k => ?_) hR
      simp only [impl_CountSquares.l1, sq_cast]
      rw [w64 (n := ((a * a : Nat) : Int)) (by omega) (by omega), w64 (n := ((b * b : Nat) : Int)) (by omega) (by omega), w64 (n := ((a * a : Nat) : Int) + ((b * b : Nat) : Int)) (by omega) (by omega), if_neg (by omega), w64 (n := (a : Int) + 1) (by omega) (by omega)]
      simp
theorem impl_csOut (n : Nat) (hn : n ≤ 10000) : ∀ (f a s : Nat), a + f = 101 → s + 404 * f ≤ 90000 →
    Ev (fun k => impl_CountSquares.l0 k (n : Int) (s : Int) (a : Int)) ((s + tsum (fun a => wt a * csIn n (a * a)) f a : Nat) : Int) := by
  intro f
  induction f with
  | zero =>
    intro a s ha hs
    have e : a = 101 := by omega
    subst e
    refine Ev.step (fun k => ?_) (Ev.now _)
    simp only [impl_CountSquares.l0, tsum, sq_cast]
    rw [w64 (n := ((101 * 101 : Nat) : Int)) (by omega) (by omega), if_neg (by omega)]
    simp
  | succ f ih =>
    intro a s ha hs
    have haa := sq_le (show a ≤ 101 by omega)
    rw [Nat.mul_succ, ← Nat.add_assoc] at hs
    have hq1 : s + 404 ≤ 100000 := by omega
    have hq2 : a ≤ 101 := by omega
    have hq3 : 0 + 101 = 101 := rfl
    have hle : wt a * csIn n (a * a) ≤ 2 * 202 := Nat.mul_le_mul (wt_le a) (csIn_le _ _)
    by_cases hc : a * a ≤ n
    · have hh := ih (a + 1) (s + wt a * csIn n (a * a)) (by omega) (by generalize wt a * csIn n (a * a) = z at *; omega)
      have e : csIn n (a * a) = tsum (csG n (a * a)) 101 0 := by unfold csIn; rfl
      rw [show ((a + 1 : Nat) : Int) = (a : Int) + 1 by omega, e] at hh
      have h := impl_csIn n a hn hq2 _ 101 0 s hq3 hq1 hh
      rw [← e] at h
      simp only [tsum]
      rw [← Nat.add_assoc]
      refine Ev.step (fun k => ?_) h
      simp only [impl_CountSquares.l0, sq_cast]
      rw [w64 (n := ((a * a : Nat) : Int)) (by omega) (by omega), if_pos (by omega)]
      rfl
    · have hz : tsum (fun a => wt a * csIn n (a * a)) (f + 1) a = 0 := by
        refine tsum_zero _ _ (fun j hj => ?_)
        have : a * a ≤ j * j := Nat.mul_le_mul hj hj
        have : csIn n (j * j) = 0 := tsum_zero _ _ (fun b _ => by unfold csG; rw [if_neg (by omega)])
        simp only [this, Nat.mul_zero]
      rw [hz]
      refine Ev.step (fun k => ?_) (Ev.now _)
      simp only [impl_CountSquares.l0, sq_cast]
      rw [w64 (n := ((a * a : Nat) : Int)) (by omega) (by omega), if_neg (by omega)]
      rfl
theorem impl_cs (n : Nat) (h1 : 1 ≤ n) (h2 : n ≤ 10000) : Ev (fun k => impl_CountSquares.f k (n : Int)) ((cs n : Nat) : Int) := by
  unfold impl_CountSquares.f
  simp only [numberOk_eq, Option.bind_some, show (1 : Int) ≤ n ∧ (n : Int) ≤ 10000 from ⟨by omega, by omega⟩, and_self, decide_true, if_true]
  have h := impl_csOut n h2 101 0 0 (by omega) (by omega)
  rw [Nat.zero_add] at h
  exact h
theorem impl_cs_no (a : Int) (h : ¬ (1 ≤ a ∧ a ≤ 10000)) : Ev (fun k => impl_CountSquares.f k a) (-1) := by
  unfold impl_CountSquares.f
  simp only [numberOk_eq, Option.bind_some, h, decide_false]
  exact Ev.now _

theorem zsq (z : Int) : z * z = ((z.natAbs * z.natAbs : Nat) : Int) := by rw [← Int.natAbs_mul_self' z]; rfl
/-- The reference's inner loop. -/
theorem spec_csIn (n : Nat) (hn : n ≤ 10000) (a : Int) (ha : -100 ≤ a ∧ a ≤ 100) (R : Int) : ∀ (f : Nat) (b : Int) (s : Nat), b + f = 101 → -100 ≤ b → s + f ≤ 100000 →
    Ev (fun k => spec_CountSquares.l0 k (n : Int) ((s + zsum (fun z => if a.natAbs * a.natAbs + z.natAbs * z.natAbs = n then 1 else 0) f b : Nat) : Int) (a + 1)) R →
    Ev (fun k => spec_CountSquares.l1 k (n : Int) (s : Int) a b) R := by
  intro f
  have haa := sq_le (show a.natAbs ≤ 100 by omega)
  induction f with
  | zero =>
    intro b s hb hb2 hs hR
    refine Ev.step (fun k => ?_) hR
    simp only [spec_CountSquares.l1, zsum]
    rw [if_neg (by omega), w64 (by omega) (by omega)]
    simp
  | succ f ih =>
    intro b s hb hb2 hs hR
    have hbb := sq_le (show b.natAbs ≤ 100 by omega)
    simp only [zsum] at hR
    by_cases he : a.natAbs * a.natAbs + b.natAbs * b.natAbs = n
    · rw [if_pos he] at hR
      refine Ev.step (fun k => ?_) (ih (b + 1) (s + 1) (by omega) (by omega) (by omega) (by rw [show s + 1 + zsum (fun z => if a.natAbs * a.natAbs + z.natAbs * z.natAbs = n then 1 else 0) f (b + 1) = s + (1 + zsum (fun z => if a.natAbs * a.natAbs + z.natAbs * z.natAbs = n then 1 else 0) f (b + 1)) by omega]; exact hR))
      simp only [spec_CountSquares.l1]
      rw [if_pos (by omega), zsq a, zsq b, w64 (n := ((a.natAbs * a.natAbs : Nat) : Int)) (by omega) (by omega), w64 (n := ((b.natAbs * b.natAbs : Nat) : Int)) (by omega) (by omega), w64 (n := ((a.natAbs * a.natAbs : Nat) : Int) + ((b.natAbs * b.natAbs : Nat) : Int)) (by omega) (by omega), if_pos (by omega), w64 (n := (s : Int) + 1) (by omega) (by omega), w64 (n := b + 1) (by omega) (by omega)]
      rfl
    · rw [if_neg he] at hR
      refine Ev.step (fun k => ?_) (ih (b + 1) s (by omega) (by omega) (by omega) (by rw [Nat.zero_add] at hR; exact hR))
      simp only [spec_CountSquares.l1]
      rw [if_pos (by omega), zsq a, zsq b, w64 (n := ((a.natAbs * a.natAbs : Nat) : Int)) (by omega) (by omega), w64 (n := ((b.natAbs * b.natAbs : Nat) : Int)) (by omega) (by omega), w64 (n := ((a.natAbs * a.natAbs : Nat) : Int) + ((b.natAbs * b.natAbs : Nat) : Int)) (by omega) (by omega), if_neg (by omega), w64 (n := b + 1) (by omega) (by omega)]
theorem spec_csIn_eq (n x : Nat) : zsum (fun z => if x + z.natAbs * z.natAbs = n then 1 else 0) 201 (-100) = csIn n x := by
  have := zsum_abs (fun b => if x + b * b = n then 1 else 0) 100
  refine Eq.trans this ?_
  unfold csIn
  refine tsum_congr _ _ (fun j _ _ => ?_)
  unfold csG
  split <;> omega
theorem spec_csOut (n : Nat) (hn : n ≤ 10000) : ∀ (f : Nat) (a : Int) (s : Nat), a + f = 101 → -100 ≤ a → s + 202 * f ≤ 100000 - 202 →
    Ev (fun k => spec_CountSquares.l0 k (n : Int) (s : Int) a) ((s + zsum (fun z => csIn n (z.natAbs * z.natAbs)) f a : Nat) : Int) := by
  intro f
  induction f with
  | zero =>
    intro a s ha ha2 hs
    refine Ev.step (fun k => ?_) (Ev.now _)
    simp only [spec_CountSquares.l0, zsum]
    rw [if_neg (by omega)]
    simp
  | succ f ih =>
    intro a s ha ha2 hs
    rw [Nat.mul_succ, ← Nat.add_assoc] at hs
    have hle := csIn_le n (a.natAbs * a.natAbs)
    have h := spec_csIn n hn a ⟨by omega, by omega⟩ _ 201 (-100) s (by omega) (by omega) (by omega)
      (by rw [spec_csIn_eq]; exact ih (a + 1) (s + csIn n (a.natAbs * a.natAbs)) (by omega) (by omega) (by omega))
    simp only [zsum]
    rw [← Nat.add_assoc]
    refine Ev.step (fun k => ?_) h
    simp only [spec_CountSquares.l0]
    rw [if_pos (by omega)]
theorem spec_cs (n : Nat) (h1 : 1 ≤ n) (h2 : n ≤ 10000) : Ev (fun k => spec_CountSquares.f k (n : Int)) ((cs n : Nat) : Int) := by
  unfold spec_CountSquares.f
  simp only [l1In_eq, Option.bind_some, show (1 : Int) ≤ n ∧ (n : Int) ≤ 10000 from ⟨by omega, by omega⟩, and_self, decide_true, if_true]
  have h := spec_csOut n h2 201 (-100) 0 (by omega) (by omega) (by omega)
  rw [Nat.zero_add] at h
  have e := zsum_abs (fun a => csIn n (a * a)) 100
  have e2 : zsum (fun z => csIn n (z.natAbs * z.natAbs)) 201 (-100) = cs n := e
  rw [e2] at h
  exact h
theorem spec_cs_no (a : Int) (h : ¬ (1 ≤ a ∧ a ≤ 10000)) : Ev (fun k => spec_CountSquares.f k a) (-1) := by
  unfold spec_CountSquares.f
  simp only [l1In_eq, Option.bind_some, h, decide_false]
  exact Ev.now _

theorem alive_eq : laws_alive.f = some true := by
  unfold laws_alive.f impl_DividesOk.f
  simp only [numberOk_eq]
  decide +kernel

theorem pick_ev {bs : List Int} (hb : Bytes bs) (hl : bs.length ≤ 2000) {p n : Int} (h0 : 0 ≤ p) (h1 : p ≤ 1000000) (hn : 1 ≤ n) :
    ∃ r, 0 ≤ r ∧ r < n ∧ Ev (fun k => spec_l20Rd_pick.f k bs p n) (r, p + 1) := by
  have ep : wrap64 (p + 1) = p + 1 := w64 (by omega) (by omega)
  have e1 : wrap64 (p + 1 - 1) = p := by rw [w64 (by omega) (by omega)]; omega
  have hf : ∀ k, spec_l20Rd_pick.f k bs p n = spec_l20Rd_pick.j0 k n ((bs.length : Int) == 0) bs (p + 1) := by
    intro k
    unfold spec_l20Rd_pick.f
    rw [if_neg (by omega), ep]
  by_cases hz : bs.length = 0
  · refine ⟨0, by omega, by omega, Ev.congr hf (Ev.step (fun k => ?_) (Ev.now _))⟩
    simp only [spec_l20Rd_pick.j0]
    rw [if_pos (by simp [hz])]
  · have hz2 : ((bs.length : Int) == 0) = false := by simpa using hz
    by_cases hp : p < (bs.length : Int)
    · have hr := hb.at_ p
      have ht := tmod_range hr.1 hn
      refine ⟨Int.tmod (rd bs p) n, ht.1, ht.2, Ev.congr hf (Ev.step (fun k => ?_) (Ev.now _))⟩
      simp only [spec_l20Rd_pick.j0, hz2, e1]
      rw [if_neg (by simp), if_pos hp, if_pos h0, if_neg (by omega), w64 (by omega) (by omega)]
    · have hl1 : (1 : Int) ≤ (bs.length : Int) := by omega
      have t1 := tmod_range h0 hl1
      have t2 := tmod_range (show 0 ≤ p * 7 + 3 by omega) hl1
      have t3 := tdiv_range h0 hl1
      have e7 : wrap64 (p * 7) = p * 7 := w64 (by omega) (by omega)
      have e73 : wrap64 (p * 7 + 3) = p * 7 + 3 := w64 (by omega) (by omega)
      have u1 := hb.at_ (Int.tmod p (bs.length : Int))
      have u2 := hb.at_ (Int.tmod (p * 7 + 3) (bs.length : Int))
      have key : ∀ k, spec_l20Rd_pick.j0 (k + 1) n ((bs.length : Int) == 0) bs (p + 1) = some (Int.tmod (Go.bits .xor .i64 (rd bs (Int.tmod p (bs.length : Int)) * 131 + rd bs (Int.tmod (p * 7 + 3) (bs.length : Int)) * 1117 + p * 29 + Int.tdiv p (bs.length : Int) * 53) (Int.tdiv (rd bs (Int.tmod p (bs.length : Int)) * 131 + rd bs (Int.tmod (p * 7 + 3) (bs.length : Int)) * 1117 + p * 29 + Int.tdiv p (bs.length : Int) * 53) 64)) n, p + 1) := by
        intro k
        simp only [spec_l20Rd_pick.j0, hz2, e1, e7, e73]
        rw [if_neg (by simp), if_neg hp, if_neg (by omega), if_pos t1.1, if_pos t1.2, if_pos t2.1, if_pos t2.2, if_neg (by omega)]
        generalize rd bs (Int.tmod p (bs.length : Int)) = u at *
        generalize rd bs (Int.tmod (p * 7 + 3) (bs.length : Int)) = v at *
        generalize Int.tdiv p (bs.length : Int) = q at *
        rw [w64 (n := u) (by omega) (by omega), w64 (n := v) (by omega) (by omega), w64 (n := u * 131) (by omega) (by omega), w64 (n := v * 1117) (by omega) (by omega), w64 (n := u * 131 + v * 1117) (by omega) (by omega), w64 (n := p * 29) (by omega) (by omega), w64 (n := u * 131 + v * 1117 + p * 29) (by omega) (by omega), w64 (n := q) (by omega) (by omega), w64 (n := q * 53) (by omega) (by omega), w64 (n := u * 131 + v * 1117 + p * 29 + q * 53) (by omega) (by omega)]
        have t4 := tdiv_range (show 0 ≤ u * 131 + v * 1117 + p * 29 + q * 53 by omega) (show (1 : Int) ≤ 64 by omega)
        rw [w64 (n := Int.tdiv (u * 131 + v * 1117 + p * 29 + q * 53) 64) (by omega) (by omega)]
      generalize rd bs (Int.tmod p (bs.length : Int)) = u at *
      generalize rd bs (Int.tmod (p * 7 + 3) (bs.length : Int)) = v at *
      generalize Int.tdiv p (bs.length : Int) = q at *
      have t4 := tdiv_range (show 0 ≤ u * 131 + v * 1117 + p * 29 + q * 53 by omega) (show (1 : Int) ≤ 64 by omega)
      have hx := xor_pos (a := u * 131 + v * 1117 + p * 29 + q * 53) (b := Int.tdiv (u * 131 + v * 1117 + p * 29 + q * 53) 64) (by omega) (by omega) (by omega) (by omega)
      have ht := tmod_range hx hn
      exact ⟨_, ht.1, ht.2, Ev.congr hf (Ev.step key (Ev.now _))⟩
theorem open_ev {l0 : List Int} (hb : Bytes l0) : ∃ bs, Bytes bs ∧ bs.length ≤ 2000 ∧ spec_l20Open.f l0 = some (bs, 0) := by
  unfold spec_l20Open.f
  by_cases h : (l0.length : Int) > 2000
  · exact ⟨l0.take 2000, hb.take _, by rw [List.length_take]; omega, by rw [if_pos h, if_pos (by omega)]⟩
  · exact ⟨l0, hb, by omega, by rw [if_neg h]⟩

theorem some_ev {bs : List Int} (hb : Bytes bs) (hl : bs.length ≤ 2000) {p : Int} (h0 : 0 ≤ p) (h1 : p ≤ 900000) :
    ∃ r, -30000 ≤ r ∧ r ≤ 30000 ∧ Ev (fun k => spec_l20Some.f k bs p) (r, p + 8) := by
  obtain ⟨r1, a1, b1, c1⟩ := pick_ev hb hl (p := p) (n := 12) (by omega) (by omega) (by omega)
  obtain ⟨r2, a2, b2, c2⟩ := pick_ev hb hl (p := p + 1) (n := 60) (by omega) (by omega) (by omega)
  obtain ⟨r3, a3, b3, c3⟩ := pick_ev hb hl (p := p + 1 + 1) (n := 100) (by omega) (by omega) (by omega)
  obtain ⟨r4, a4, b4, c4⟩ := pick_ev hb hl (p := p + 1 + 1 + 1) (n := 100) (by omega) (by omega) (by omega)
  obtain ⟨r5, a5, b5, c5⟩ := pick_ev hb hl (p := p + 1 + 1 + 1 + 1) (n := 60) (by omega) (by omega) (by omega)
  obtain ⟨r6, a6, b6, c6⟩ := pick_ev hb hl (p := p + 1 + 1 + 1 + 1 + 1) (n := 13) (by omega) (by omega) (by omega)
  obtain ⟨r7, a7, b7, c7⟩ := pick_ev hb hl (p := p + 1 + 1 + 1 + 1 + 1 + 1) (n := 40) (by omega) (by omega) (by omega)
  obtain ⟨r8, a8, b8, c8⟩ := pick_ev hb hl (p := p + 1 + 1 + 1 + 1 + 1 + 1 + 1) (n := 50) (by omega) (by omega) (by omega)
  have hm : 0 ≤ r3 * r4 ∧ r3 * r4 ≤ 99 * 99 := ⟨Int.mul_nonneg a3 a4, Int.mul_le_mul (by omega) (by omega) a4 (by omega)⟩
  have d6 := tdiv_pos (b := 2) a6
  have d7 := tdiv_pos (b := 39) a7
  have d8 := tdiv_pos (b := 49) a8
  have hq : ∃ q : Nat, q < 7 ∧ Int.tdiv r6 2 = q := ⟨(Int.tdiv r6 2).toNat, by omega, by omega⟩
  obtain ⟨q, hq7, hq⟩ := hq
  generalize hmm : r3 * r4 = m at *
  have hy : ∀ y, y ∈ [wrap64 (1 + r1), wrap64 (1 + r2), wrap64 (1 + (wrap64 m)), wrap64 (12 * (wrap64 (1 + r5))), 9973, 8192, 9240] → 0 ≤ y ∧ y ≤ 10000 := by
    rw [w64 (n := 1 + r1) (by omega) (by omega), w64 (n := 1 + r2) (by omega) (by omega), w64 (n := m) (by omega) (by omega), w64 (n := 1 + m) (by omega) (by omega), w64 (n := 1 + r5) (by omega) (by omega), w64 (n := 12 * (1 + r5)) (by omega) (by omega)]
    intro y hy
    simp only [List.mem_cons, List.not_mem_nil, or_false] at hy
    omega
  have hv : 0 ≤ rd [wrap64 (1 + r1), wrap64 (1 + r2), wrap64 (1 + (wrap64 m)), wrap64 (12 * (wrap64 (1 + r5))), 9973, 8192, 9240] (q : Int) ∧ rd [wrap64 (1 + r1), wrap64 (1 + r2), wrap64 (1 + (wrap64 m)), wrap64 (12 * (wrap64 (1 + r5))), 9973, 8192, 9240] (q : Int) ≤ 10000 := by
    refine hy _ ?_
    unfold rd
    rw [List.getD_eq_getElem?_getD, List.getElem?_eq_getElem (by simp; omega)]
    exact List.getElem_mem _
  refine ⟨rd [wrap64 (1 + r1), wrap64 (1 + r2), wrap64 (1 + (wrap64 m)), wrap64 (12 * (wrap64 (1 + r5))), 9973, 8192, 9240] (q : Int) + Int.tdiv r7 39 * 10000 - Int.tdiv r8 49 * 20000, by omega, by omega, ?_⟩
  unfold spec_l20Some.f
  refine Ev.bind c1 ?_
  refine Ev.bind c2 ?_
  refine Ev.bind c3 ?_
  refine Ev.bind c4 ?_
  refine Ev.bind c5 ?_
  simp only [Option.bind_some]
  refine Ev.bind c6 ?_
  have ew : wrap64 (Int.tdiv r6 2) = (q : Int) := by rw [hq]; exact w64 (by omega) (by omega)
  simp only [ew]
  refine Ev.ite_pos (by omega) (Ev.ite_pos (by simp; omega) ?_)
  refine Ev.bind c7 (Ev.bind c8 ?_)
  refine Ev.const ?_
  simp only [hmm]
  generalize rd [wrap64 (1 + r1), wrap64 (1 + r2), wrap64 (1 + (wrap64 m)), wrap64 (12 * (wrap64 (1 + r5))), 9973, 8192, 9240] (q : Int) = z at *
  rw [show p + 1 + 1 + 1 + 1 + 1 + 1 + 1 + 1 = p + 8 by omega, w64 (n := Int.tdiv r7 39) (by omega) (by omega), w64 (n := Int.tdiv r7 39 * 10000) (by omega) (by omega), w64 (n := z + Int.tdiv r7 39 * 10000) (by omega) (by omega), w64 (n := Int.tdiv r8 49) (by omega) (by omega), w64 (n := Int.tdiv r8 49 * 20000) (by omega) (by omega), w64 (n := z + Int.tdiv r7 39 * 10000 - Int.tdiv r8 49 * 20000) (by omega) (by omega)]

theorem mx_bound {a b m : Int} (h1 : a ≤ m) (h2 : b ≤ m) : mx a b ≤ m := by
  unfold mx
  split <;> omega
theorem mx_low {a b : Int} : b ≤ mx a b := by
  unfold mx
  split <;> omega
theorem square_ev {bs : List Int} (hb : Bytes bs) (hl : bs.length ≤ 2000) {p : Int} (h0 : 0 ≤ p) (h1 : p ≤ 800000) :
    ∃ r q, -30000 ≤ r ∧ r ≤ 30000 ∧ Ev (fun k => spec_l20Square.f k bs p) (r, q) := by
  obtain ⟨r1, a1, b1, c1⟩ := pick_ev hb hl (p := p) (n := 40) (by omega) (by omega) (by omega)
  obtain ⟨r2, a2, b2, c2⟩ := pick_ev hb hl (p := p + 1) (n := 40) (by omega) (by omega) (by omega)
  obtain ⟨r3, a3, b3, c3⟩ := pick_ev hb hl (p := p + 1 + 1) (n := 200) (by omega) (by omega) (by omega)
  obtain ⟨r4, a4, b4, c4⟩ := some_ev hb hl (p := p + 1 + 1 + 1) (by omega) (by omega)
  obtain ⟨r5, a5, b5, c5⟩ := pick_ev hb hl (p := p + 1 + 1 + 1 + 8) (n := 20) (by omega) (by omega) (by omega)
  obtain ⟨r6, a6, b6, c6⟩ := pick_ev hb hl (p := p + 1 + 1 + 1 + 8 + 1) (n := 90) (by omega) (by omega) (by omega)
  obtain ⟨r7, a7, b7, c7⟩ := pick_ev hb hl (p := p + 1 + 1 + 1 + 8 + 1 + 1) (n := 9) (by omega) (by omega) (by omega)
  have hm : 0 ≤ r1 * r1 ∧ r1 * r1 ≤ 39 * 39 := ⟨Int.mul_nonneg a1 a1, Int.mul_le_mul (by omega) (by omega) a1 (by omega)⟩
  have hm2 : 0 ≤ r2 * r2 ∧ r2 * r2 ≤ 39 * 39 := ⟨Int.mul_nonneg a2 a2, Int.mul_le_mul (by omega) (by omega) a2 (by omega)⟩
  have d7 := tdiv_pos (b := 2) a7
  have hq : ∃ q : Nat, q < 5 ∧ Int.tdiv r7 2 = q := ⟨(Int.tdiv r7 2).toNat, by omega, by omega⟩
  obtain ⟨q, hq7, hq⟩ := hq
  generalize hmm : r1 * r1 = m at *
  generalize hmm2 : r2 * r2 = m2 at *
  have hy : ∀ y, y ∈ [mx (wrap64 ((wrap64 m) + (wrap64 m2))) 1, wrap64 (1 + r3), r4, wrap64 (65 * (wrap64 (1 + r5))), wrap64 (3 * (wrap64 (1 + r6)))] → -30000 ≤ y ∧ y ≤ 30000 := by
    rw [w64 (n := m) (by omega) (by omega), w64 (n := m2) (by omega) (by omega), w64 (n := m + m2) (by omega) (by omega), w64 (n := 1 + r3) (by omega) (by omega), w64 (n := 1 + r5) (by omega) (by omega), w64 (n := 65 * (1 + r5)) (by omega) (by omega), w64 (n := 1 + r6) (by omega) (by omega), w64 (n := 3 * (1 + r6)) (by omega) (by omega)]
    have hx1 := mx_bound (a := m + m2) (b := 1) (m := 30000) (by omega) (by omega)
    have hx2 := mx_low (a := m + m2) (b := 1)
    intro y hy
    simp only [List.mem_cons, List.not_mem_nil, or_false] at hy
    omega
  have hv : -30000 ≤ rd [mx (wrap64 ((wrap64 m) + (wrap64 m2))) 1, wrap64 (1 + r3), r4, wrap64 (65 * (wrap64 (1 + r5))), wrap64 (3 * (wrap64 (1 + r6)))] (q : Int) ∧ rd [mx (wrap64 ((wrap64 m) + (wrap64 m2))) 1, wrap64 (1 + r3), r4, wrap64 (65 * (wrap64 (1 + r5))), wrap64 (3 * (wrap64 (1 + r6)))] (q : Int) ≤ 30000 := by
    refine hy _ ?_
    unfold rd
    rw [List.getD_eq_getElem?_getD, List.getElem?_eq_getElem (by simp; omega)]
    exact List.getElem_mem _
  refine ⟨rd [mx (wrap64 ((wrap64 m) + (wrap64 m2))) 1, wrap64 (1 + r3), r4, wrap64 (65 * (wrap64 (1 + r5))), wrap64 (3 * (wrap64 (1 + r6)))] (q : Int), p + 1 + 1 + 1 + 8 + 1 + 1 + 1, hv.1, hv.2, ?_⟩
  unfold spec_l20Square.f
  refine Ev.bind c1 (Ev.bind c2 (Ev.bind c3 (Ev.bind c4 (Ev.bind c5 (Ev.bind c6 ?_)))))
  simp only [Option.bind_some]
  refine Ev.bind c7 ?_
  have ew : wrap64 (Int.tdiv r7 2) = (q : Int) := by rw [hq]; exact w64 (by omega) (by omega)
  simp only [ew, hmm, hmm2]
  exact Ev.ite_pos (by omega) (Ev.ite_pos (by simp; omega) (Ev.now _))

theorem reverse_mid : ∀ (m : Nat) (A M B : List Int), M.length ≤ m → (A ++ M ++ B).length ≤ 1000000 →
    Ev (fun k => slices_Reverse_int_int.l0 k (A ++ M ++ B) (A.length : Int) ((A.length : Int) + (M.length : Int) - 1)) (A ++ M.reverse ++ B) := by
  intro m
  induction m with
  | zero =>
    intro A M B hm hl
    have e : M = [] := List.length_eq_zero_iff.1 (by omega)
    subst e
    refine Ev.step (fun k => ?_) (Ev.now _)
    simp only [slices_Reverse_int_int.l0]
    rw [if_neg (by simp; omega)]
    rfl
  | succ m ih =>
    intro A M B hm hl
    match M, hm, hl with
    | [], _, _ =>
      refine Ev.step (fun k => ?_) (Ev.now _)
      simp only [slices_Reverse_int_int.l0]
      rw [if_neg (by simp; omega)]
      rfl
    | x :: M, hm, hl =>
      rcases List.eq_nil_or_concat M with rfl | ⟨M', y, rfl⟩
      · refine Ev.step (fun k => ?_) (Ev.now _)
        simp only [slices_Reverse_int_int.l0]
        rw [if_neg (by simp)]
        rfl
      · have hlen : A.length + (M'.length + 2) + B.length ≤ 1000000 := by
          simp at hl ⊢; omega
        have ih := ih (A ++ [y]) M' (x :: B) (by simp at hm; omega) (by simp; omega)
        have e1 : A ++ [y] ++ M' ++ x :: B = A ++ (y :: M' ++ x :: B) := by simp
        rw [e1] at ih
        have er : A ++ [y] ++ M'.reverse ++ x :: B = A ++ (x :: M'.concat y).reverse ++ B := by simp
        rw [er] at ih
        have ei : ((A ++ [y]).length : Int) = (A.length : Int) + 1 := by simp
        rw [ei] at ih
        have ej : (A.length : Int) + 1 + (M'.length : Int) - 1 = (A.length : Int) + (M'.length : Int) := by omega
        rw [ej] at ih
        refine Ev.step (fun k => ?_) ih
        have e0 : A ++ x :: M'.concat y ++ B = A ++ (x :: (M' ++ y :: B)) := by simp
        have ej2 : (A.length : Int) + ((x :: M'.concat y).length : Int) - 1 = ((A.length + (M'.length + 1) : Nat) : Int) := by simp; omega
        simp only [slices_Reverse_int_int.l0]
        rw [e0, ej2]
        have r1 : rd (A ++ (x :: (M' ++ y :: B))) ((A.length + (M'.length + 1) : Nat) : Int) = y := by
          unfold rd
          rw [Int.toNat_natCast, List.getD_eq_getElem?_getD, List.getElem?_append_right (by omega)]
          simp
        have r2 : rd (A ++ (x :: (M' ++ y :: B))) (A.length : Int) = x := by
          unfold rd
          rw [Int.toNat_natCast, List.getD_eq_getElem?_getD, List.getElem?_append_right (by omega)]
          simp
        have hL : (A ++ (x :: (M' ++ y :: B))).length = A.length + (M'.length + 2) + B.length := by simp; omega
        rw [if_pos (by omega), if_pos (by omega), if_pos (by omega), if_pos (by omega), if_pos (by omega), r1, r2, w64 (by omega) (by omega), w64 (by omega) (by omega)]
        have s1 : ((A ++ (x :: (M' ++ y :: B))).set ((A.length : Nat) : Int).toNat y).set ((A.length + (M'.length + 1) : Nat) : Int).toNat x = A ++ (y :: M' ++ x :: B) := by
          rw [Int.toNat_natCast, Int.toNat_natCast, List.set_append_right _ _ (Nat.le_refl _), List.set_append_right _ _ (by omega)]
          simp
        rw [s1]
        congr 1
        omega
theorem reverse_ev (l : List Int) (hl : l.length ≤ 1000000) : Ev (fun k => slices_Reverse_int_int.f k l) l.reverse := by
  unfold slices_Reverse_int_int.f
  have h := reverse_mid l.length [] l [] (Nat.le_refl _) (by simpa using hl)
  simp only [List.nil_append, List.append_nil, List.length_nil] at h
  rw [w64 (by omega) (by omega)]
  refine Ev.congr (fun k => ?_) h
  congr 1
  omega

theorem impl_dvL {n : Nat} (h1 : 1 ≤ n) (h2 : n ≤ 10000) : ∀ (f d : Nat) (x y : List Int), d + f = 102 → 1 ≤ d → x.length < d → y.length < d →
    Ev (fun k => impl_divisors.l0 k (n : Int) x y (d : Int)) (x ++ ints (sm n f d) ++ (y ++ ints (bk n f d)).reverse) := by
  intro f
  induction f with
  | zero =>
    intro d x y hd hd1 hx hy
    have e : d = 102 := by omega
    subst e
    have hr := reverse_ev y (by omega)
    simp only [sm, bk, ints, List.map_nil, List.append_nil]
    refine Ev.step (f := fun k => (slices_Reverse_int_int.f k y).bind fun t => (if x.length + t.length < 17592186044416 then (some (x ++ t)) else (none))) (fun k => ?_) (Ev.bind hr (Ev.ite_pos (by rw [List.length_reverse]; omega) (Ev.now _)))
    simp only [impl_divisors.l0, sq_cast]
    rw [w64 (n := ((102 * 102 : Nat) : Int)) (by omega) (by omega), if_neg (by omega)]
  | succ f ih =>
    intro d x y hd hd1 hx hy
    have hdd := sq_le (show d ≤ 102 by omega)
    by_cases hc : d * d ≤ n
    · by_cases hm : n % d = 0
      · have hq : n / d ≤ n := Nat.div_le_self _ _
        by_cases hl : d * d < n
        · have ih := ih (d + 1) (x ++ [(d : Int)]) (y ++ [((n / d : Nat) : Int)]) (by omega) (by omega) (by simp; omega) (by simp; omega)
          simp only [sm, bk, if_pos hc, if_pos hm, if_pos hl]
          have e : x ++ ints (d :: sm n f (d + 1)) ++ (y ++ ints (n / d :: bk n f (d + 1))).reverse = x ++ [(d : Int)] ++ ints (sm n f (d + 1)) ++ (y ++ [((n / d : Nat) : Int)] ++ ints (bk n f (d + 1))).reverse := by simp [ints]
          rw [e]
          refine Ev.step (fun k => ?_) ih
          simp only [impl_divisors.l0, sq_cast, tmod_nat, tdiv_nat]
          rw [w64 (n := ((d * d : Nat) : Int)) (by omega) (by omega), if_pos (by omega), if_neg (by omega), if_pos (by omega), if_pos (by omega)]
          simp only [Option.bind_some]
          generalize n / d = q at *
          rw [if_pos (by omega), if_pos (by omega), w64 (n := (q : Int)) (by omega) (by omega), w64 (n := (d : Int) + 1) (by omega) (by omega)]
          rfl
        · have ih := ih (d + 1) (x ++ [(d : Int)]) y (by omega) (by omega) (by simp; omega) (by omega)
          simp only [sm, bk, if_pos hc, if_pos hm, if_neg hl]
          have e : x ++ ints (d :: sm n f (d + 1)) ++ (y ++ ints (bk n f (d + 1))).reverse = x ++ [(d : Int)] ++ ints (sm n f (d + 1)) ++ (y ++ ints (bk n f (d + 1))).reverse := by simp [ints]
          rw [e]
          refine Ev.step (fun k => ?_) ih
          simp only [impl_divisors.l0, sq_cast, tmod_nat, tdiv_nat]
          rw [w64 (n := ((d * d : Nat) : Int)) (by omega) (by omega), if_pos (by omega), if_neg (by omega), if_pos (by omega), if_pos (by omega)]
          simp only [Option.bind_some]
          rw [if_neg (by omega), w64 (n := (d : Int) + 1) (by omega) (by omega)]
          rfl
      · have ih := ih (d + 1) x y (by omega) (by omega) (by omega) (by omega)
        simp only [sm, bk, if_pos hc, if_neg hm]
        refine Ev.step (fun k => ?_) ih
        simp only [impl_divisors.l0, sq_cast, tmod_nat]
        rw [w64 (n := ((d * d : Nat) : Int)) (by omega) (by omega), if_pos (by omega), if_neg (by omega), if_neg (by omega), w64 (n := (d : Int) + 1) (by omega) (by omega)]
        rfl
    · have hr := reverse_ev y (by omega)
      simp only [sm, bk, if_neg hc, ints, List.map_nil, List.append_nil]
      refine Ev.step (f := fun k => (slices_Reverse_int_int.f k y).bind fun t => (if x.length + t.length < 17592186044416 then (some (x ++ t)) else (none))) (fun k => ?_) (Ev.bind hr (Ev.ite_pos (by rw [List.length_reverse]; omega) (Ev.now _)))
      simp only [impl_divisors.l0, sq_cast]
      rw [w64 (n := ((d * d : Nat) : Int)) (by omega) (by omega), if_neg (by omega)]
theorem impl_dv {n : Nat} (h1 : 1 ≤ n) (h2 : n ≤ 10000) : Ev (fun k => impl_divisors.f k (n : Int)) (ints (dv n)) := by
  unfold impl_divisors.f
  have h := impl_dvL h1 h2 101 1 [] [] (by omega) (by omega) (by simp) (by simp)
  have e : ints (dv n) = [] ++ ints (sm n 101 1) ++ ([] ++ ints (bk n 101 1)).reverse := by simp [dv, ints]
  rw [e]
  exact h

theorem impl_lsg (a : Int) (h : 0 ≤ a) : impl_leavesSign.f a = some (lsg a) := by
  unfold impl_leavesSign.f lsg
  rw [tmod_pos h]
  split
  · rfl
  · split <;> rfl




theorem impl_byL (l : List Nat) (hl : l.length ≤ 20000) : ∀ (r : List Nat) (i : Nat) (s : Int), l.drop i = r → i ≤ l.length → -(4 * (i : Int)) ≤ s → s ≤ 4 * (i : Int) →
    Ev (fun k => impl_ByDivisors.l0 k s (ints l) (l.length : Int) (i : Int)) (s + 4 * bySum r) := by
  intro r
  induction r with
  | nil =>
    intro i s hd hi h1 h2
    have : l.length ≤ i := List.drop_eq_nil_iff.1 hd
    refine Ev.step (fun k => ?_) (Ev.now _)
    simp only [impl_ByDivisors.l0]
    rw [if_neg (by omega)]
    simp [bySum]
  | cons x r ih =>
    intro i s hd hi h1 h2
    obtain ⟨hlt, hx, hr⟩ := drop_at hd
    have hg := lsg_rng (x : Int)
    have ih := ih (i + 1) (s + 4 * lsg (x : Int)) hr hlt (by omega) (by omega)
    have e : s + 4 * bySum (x :: r) = s + 4 * lsg (x : Int) + 4 * bySum r := by rw [bySum_cons]; omega
    rw [e]
    refine Ev.step (fun k => ?_) ih
    simp only [impl_ByDivisors.l0, ints_at hx, ints_length]
    rw [if_pos (by omega), if_pos (by omega), if_pos (by omega), impl_lsg _ (by omega)]
    simp only [Option.bind_some]
    rw [w64 (n := 4 * lsg (x : Int)) (by omega) (by omega), w64 (n := s + 4 * lsg (x : Int)) (by omega) (by omega), w64 (by omega) (by omega)]
    rfl
theorem impl_by {n : Nat} (h1 : 1 ≤ n) (h2 : n ≤ 10000) : Ev (fun k => impl_ByDivisors.f k (n : Int)) (byD n) := by
  unfold impl_ByDivisors.f
  simp only [numberOk_eq, Option.bind_some, show (1 : Int) ≤ n ∧ (n : Int) ≤ 10000 from ⟨by omega, by omega⟩, and_self, decide_true, if_true]
  have hl := dv_len h1 h2
  refine Ev.bind (impl_dv h1 h2) ?_
  have h := impl_byL (dv n) (by omega) (dv n) 0 0 rfl (by omega) (by omega) (by omega)
  rw [Int.zero_add] at h
  rw [ints_length]
  exact h
theorem impl_by_no {a : Int} (h : ¬ (1 ≤ a ∧ a ≤ 10000)) : Ev (fun k => impl_ByDivisors.f k a) (-1) := by
  unfold impl_ByDivisors.f
  simp only [numberOk_eq, Option.bind_some, h, decide_false]
  exact Ev.now _


theorem draw_ev {l0 : List Int} (hb : Bytes l0) : ∃ n, -30000 ≤ n ∧ n ≤ 30000 ∧ Ev (fun k => spec_DrawCountSquares.f k l0) n := by
  obtain ⟨bs, h1, h2, h3⟩ := open_ev hb
  obtain ⟨r, q, h4, h5, h6⟩ := square_ev h1 h2 (p := 0) (by omega) (by omega)
  refine ⟨r, h4, h5, ?_⟩
  unfold spec_DrawCountSquares.f
  exact Ev.bindc h3 (Ev.bind h6 (Ev.now _))
theorem FnCountSquares : laws_FnCountSquares.Pure := by
  intro l0 _ _ hw
  refine Ev.rounds ?_
  unfold laws_FnCountSquares.f
  by_cases hl : (l0.length : Int) > 1048576
  · exact Ev.ite_pos hl (Ev.now _)
  refine Ev.ite_neg hl ?_
  obtain ⟨a, h1, h2, h3⟩ := draw_ev (Bytes.of hw)
  refine Ev.bind h3 ?_
  by_cases hr : 1 ≤ a ∧ a ≤ 10000
  · obtain ⟨n, rfl⟩ : ∃ n : Nat, a = n := ⟨a.toNat, by omega⟩
    have hc := cs_eq_byD (n := n) (by omega) (by omega)
    refine Ev.bind (impl_cs n (by omega) (by omega)) (Ev.bind (spec_cs n (by omega) (by omega)) (Ev.ite_pos rfl (Ev.ite_neg (by omega) (Ev.bind (impl_by (by omega) (by omega)) (Ev.ite_pos hc (Ev.ite_pos ?_ ?_))))))
    · rw [tmod_pos (by omega), hc]
      unfold byD
      omega
    · have e2 : wrap64 (2 * (n : Int)) = ((2 * n : Nat) : Int) := by rw [w64 (by omega) (by omega)]; simp
      rw [e2]
      by_cases hbig : ((2 * n : Nat) : Int) > 10000
      · exact Ev.ite_pos hbig (Ev.now _)
      · refine Ev.ite_neg hbig (Ev.bind (impl_cs (2 * n) (by omega) (by omega)) (Ev.const ?_))
        rw [cs_two (by omega) (by omega)]
        simp
  · refine Ev.bind (impl_cs_no a hr) (Ev.bind (spec_cs_no a hr) (Ev.ite_pos rfl (Ev.ite_pos (by decide) (Ev.ite_pos rfl (Ev.bindc alive_eq (Ev.now _))))))

end Go.Proofs.Ytijgepnmcoicgaa.Pure
