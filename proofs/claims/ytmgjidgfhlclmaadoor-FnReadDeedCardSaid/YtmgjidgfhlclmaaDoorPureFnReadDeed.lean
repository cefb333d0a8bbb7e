/-
  What is read of a drawn text has that text; with a space behind it a text is refused.
-/
import Derived.Test.YtmgjidgfhlclmaaDoorPFnReadDeedx10
import Derived.Test.YtmgjidgfhlclmaaDoorLib
import Derived.Test.YtmgjidgfhlclmaaDoorLibDraw
import Derived.Test.YtmgjidgfhlclmaaDoorLibTxt
import Derived.Test.YtmgjidgfhlclmaaDoorLibRd
namespace Go.Proofs.YtmgjidgfhlclmaaDoor.Pure
open Go.RowKit Go.Proofs.YtmgjidgfhlclmaaDoor.PFnReadDeed Go.Proofs.YtmgjidgfhlclmaaDoorW.PrintWords Go.Proofs.YtmgjidgfhlclmaaDoorW.PrintLast Go.Proofs.YtmgjidgfhlclmaaDoorW.PrintMore Go.Proofs.YtmgjidgfhlclmaaDoor.Lib
set_option linter.unusedVariables false
set_option linter.unusedSimpArgs false

theorem pick_ev {bs : List Int} (hb : Bytes bs) (hl : bs.length ≤ 2000) {p n : Int} (h0 : 0 ≤ p) (h1 : p ≤ 1000000) (hn : 1 ≤ n) :
    ∃ r, 0 ≤ r ∧ r < n ∧ Ev (fun k => spec_l20Rd_pick.f k bs p n) (r, p + 1) := by
  have ep : wrap64 (p + 1) = p + 1 := w64 (by omega) (by omega)
  have e1 : wrap64 (p + 1 - 1) = p := by rw [w64 (by omega) (by omega)]; omega
  have hf : ∀ k, spec_l20Rd_pick.f k bs p n = spec_l20Rd_pick.j0 k n ((bs.length : Int) == 0) bs (p + 1) := by
    intro k
    unfold spec_l20Rd_pick.f
    rw [if_neg (by omega), ep]
  by_cases hz : bs.length = 0
  · refine ⟨0, by omega, by omega, Ev.congr hf (Ev.step (fun k => ?_) (Ev.now _))⟩
    simp only [spec_l20Rd_pick.j0]
    rw [if_pos (by simp [hz])]
  · have hz2 : ((bs.length : Int) == 0) = false := by simpa using hz
    by_cases hp : p < (bs.length : Int)
    · have hr := hb.at_ p
      have ht := tmod_range hr.1 hn
      refine ⟨Int.tmod (rd bs p) n, ht.1, ht.2, Ev.congr hf (Ev.step (fun k => ?_) (Ev.now _))⟩
      simp only [spec_l20Rd_pick.j0, hz2, e1]
      rw [if_neg (by simp), if_pos hp, if_pos h0, if_neg (by omega), w64 (by omega) (by omega)]
    · have hl1 : (1 : Int) ≤ (bs.length : Int) := by omega
      have t1 := tmod_range h0 hl1
      have t2 := tmod_range (show 0 ≤ p * 7 + 3 by omega) hl1
      have t3 := tdiv_range h0 hl1
      have e7 : wrap64 (p * 7) = p * 7 := w64 (by omega) (by omega)
      have e73 : wrap64 (p * 7 + 3) = p * 7 + 3 := w64 (by omega) (by omega)
      have u1 := hb.at_ (Int.tmod p (bs.length : Int))
      have u2 := hb.at_ (Int.tmod (p * 7 + 3) (bs.length : Int))
      have key : ∀ k, spec_l20Rd_pick.j0 (k + 1) n ((bs.length : Int) == 0) bs (p + 1) = some (Int.tmod (Go.bits .xor .i64 (rd bs (Int.tmod p (bs.length : Int)) * 131 + rd bs (Int.tmod (p * 7 + 3) (bs.length : Int)) * 1117 + p * 29 + Int.tdiv p (bs.length : Int) * 53) (Int.tdiv (rd bs (Int.tmod p (bs.length : Int)) * 131 + rd bs (Int.tmod (p * 7 + 3) (bs.length : Int)) * 1117 + p * 29 + Int.tdiv p (bs.length : Int) * 53) 64)) n, p + 1) := by
        intro k
        simp only [spec_l20Rd_pick.j0, hz2, e1, e7, e73]
        rw [if_neg (by simp), if_neg hp, if_neg (by omega), if_pos t1.1, if_pos t1.2, if_pos t2.1, if_pos t2.2, if_neg (by omega)]
        generalize rd bs (Int.tmod p (bs.length : Int)) = u at *
        generalize rd bs (Int.tmod (p * 7 + 3) (bs.length : Int)) = v at *
        generalize Int.tdiv p (bs.length : Int) = q at *
        rw [w64 (n := u) (by omega) (by omega), w64 (n := v) (by omega) (by omega), w64 (n := u * 131) (by omega) (by omega), w64 (n := v * 1117) (by omega) (by omega), w64 (n := u * 131 + v * 1117) (by omega) (by omega), w64 (n := p * 29) (by omega) (by omega), w64 (n := u * 131 + v * 1117 + p * 29) (by omega) (by omega), w64 (n := q) (by omega) (by omega), w64 (n := q * 53) (by omega) (by omega), w64 (n := u * 131 + v * 1117 + p * 29 + q * 53) (by omega) (by omega)]
        have t4 := tdiv_range (show 0 ≤ u * 131 + v * 1117 + p * 29 + q * 53 by omega) (show (1 : Int) ≤ 64 by omega)
        rw [w64 (n := Int.tdiv (u * 131 + v * 1117 + p * 29 + q * 53) 64) (by omega) (by omega)]
      generalize rd bs (Int.tmod p (bs.length : Int)) = u at *
      generalize rd bs (Int.tmod (p * 7 + 3) (bs.length : Int)) = v at *
      generalize Int.tdiv p (bs.length : Int) = q at *
      have t4 := tdiv_range (show 0 ≤ u * 131 + v * 1117 + p * 29 + q * 53 by omega) (show (1 : Int) ≤ 64 by omega)
      have hx := xor_pos (a := u * 131 + v * 1117 + p * 29 + q * 53) (b := Int.tdiv (u * 131 + v * 1117 + p * 29 + q * 53) 64) (by omega) (by omega) (by omega) (by omega)
      have ht := tmod_range hx hn
      exact ⟨_, ht.1, ht.2, Ev.congr hf (Ev.step key (Ev.now _))⟩
theorem open_ev {l0 : List Int} (hb : Bytes l0) : ∃ bs, Bytes bs ∧ bs.length ≤ 2000 ∧ spec_l20Open.f l0 = some (bs, 0) := by
  unfold spec_l20Open.f
  by_cases h : (l0.length : Int) > 2000
  · exact ⟨l0.take 2000, hb.take _, by rw [List.length_take]; omega, by rw [if_pos h, if_pos (by omega)]⟩
  · exact ⟨l0, hb, by omega, by rw [if_neg h]⟩

theorem odd_ev {bs : List Int} (hb : Bytes bs) (hl : bs.length ≤ 2000) {p n : Int} (h0 : 0 ≤ p) (h1 : p ≤ 1000000) (hn : 1 ≤ n) : ∃ b : Bool, Ev (fun k => spec_l20Rd_odd.f k bs p n) (b, p + 1) := by
  obtain ⟨r, a1, b1, c1⟩ := pick_ev hb hl h0 h1 hn
  refine ⟨r == wrap64 (n - 1), ?_⟩
  unfold spec_l20Rd_odd.f
  exact Ev.ite_pos (by omega) (Ev.bind c1 (Ev.now _))
theorem deed_j1 {bs : List Int} (hb : Bytes bs) (hl : bs.length ≤ 2000) {p : Int} (h0 : 0 ≤ p) (h1 : p ≤ 900000) (a b c : Int) : ∃ b' q, p ≤ q ∧ q ≤ p + 2 ∧ Ev (fun k => spec_l20Deed.j1 k bs p a b c) (a, b', c, q) := by
  obtain ⟨o, ho⟩ := odd_ev hb hl h0 (by omega : p ≤ 1000000) (by omega : (1 : Int) ≤ 40)
  cases o with
  | true =>
    obtain ⟨r, a1, b1, c1⟩ := pick_ev hb hl (by omega : 0 ≤ p + 1) (by omega) (by omega : (1 : Int) ≤ 3)
    refine ⟨rd [-1, 25, 100] r, p + 1 + 1, by omega, by omega, Ev.step (f := fun k => (spec_l20Rd_odd.f k bs p 40).bind fun bt152 => (if bt152.1 = true then ((some (([(-1), 25, 100] : List Int) : List Int)).bind fun y154 => ((spec_l20Rd_pick.f k bs bt152.2 3).bind fun bt157 => (if 0 ≤ bt157.1 then (if bt157.1 < (y154.length : Int) then (some (a, rd y154 bt157.1, c, bt157.2)) else (none)) else (none)))) else (some (a, b, c, bt152.2)))) (fun k => ?_) (Ev.bind ho (Ev.ite_pos rfl (Ev.bindc rfl (Ev.bind c1 (Ev.ite_pos a1 (Ev.ite_pos (by simp; omega) (Ev.now _)))))))⟩
    simp only [spec_l20Deed.j1]
  | false =>
    refine ⟨b, p + 1, by omega, by omega, Ev.step (f := fun k => (spec_l20Rd_odd.f k bs p 40).bind fun bt152 => (if bt152.1 = true then ((some (([(-1), 25, 100] : List Int) : List Int)).bind fun y154 => ((spec_l20Rd_pick.f k bs bt152.2 3).bind fun bt157 => (if 0 ≤ bt157.1 then (if bt157.1 < (y154.length : Int) then (some (a, rd y154 bt157.1, c, bt157.2)) else (none)) else (none)))) else (some (a, b, c, bt152.2)))) (fun k => ?_) (Ev.bind ho (Ev.ite_neg (by simp) (Ev.now _)))⟩
    simp only [spec_l20Deed.j1]
theorem deed_j0 {bs : List Int} (hb : Bytes bs) (hl : bs.length ≤ 2000) {p : Int} (h0 : 0 ≤ p) (h1 : p ≤ 800000) (x : Int) (f : Bool) (a b c : Int) : ∃ b' c' q, p ≤ q ∧ q ≤ p + 5 ∧ Ev (fun k => spec_l20Deed.j0 k x f bs p a b c) (a, b', c', q) := by
  by_cases hf : f = true
  · obtain ⟨r, a1, b1, c1⟩ := pick_ev hb hl h0 (by omega) (by omega : (1 : Int) ≤ 9)
    obtain ⟨b', q, q1, q2, hj⟩ := deed_j1 hb hl (by omega : 0 ≤ p + 1) (by omega) a r c
    refine ⟨b', c, q, by omega, by omega, Ev.step (f := fun k => (spec_l20Rd_pick.f k bs p 9).bind fun bt140 => (spec_l20Deed.j1 k bs bt140.2 a bt140.1 c)) (fun k => ?_) (Ev.bind c1 hj)⟩
    simp only [spec_l20Deed.j0]
    rw [if_pos hf]
  · by_cases hx : x = 3
    · obtain ⟨r1, a1, b1, c1⟩ := pick_ev hb hl h0 (by omega) (by omega : (1 : Int) ≤ 24)
      obtain ⟨r2, a2, b2, c2⟩ := pick_ev hb hl (by omega : 0 ≤ p + 1) (by omega) (by omega : (1 : Int) ≤ 100)
      obtain ⟨r3, a3, b3, c3⟩ := pick_ev hb hl (by omega : 0 ≤ p + 1 + 1) (by omega) (by omega : (1 : Int) ≤ 4)
      obtain ⟨b', q, q1, q2, hj⟩ := deed_j1 hb hl (by omega : 0 ≤ p + 1 + 1 + 1) (by omega) a (wrap64 (1 + r1)) (rd [0, 1, r2, 9999] r3)
      refine ⟨b', rd [0, 1, r2, 9999] r3, q, by omega, by omega, Ev.step (f := fun k => (spec_l20Rd_pick.f k bs p 24).bind fun bt142 => ((spec_l20Rd_pick.f k bs bt142.2 100).bind fun bt144 => ((some (([0, 1, bt144.1, 9999] : List Int) : List Int)).bind fun y146 => ((spec_l20Rd_pick.f k bs bt144.2 4).bind fun bt149 => (if 0 ≤ bt149.1 then (if bt149.1 < (y146.length : Int) then (spec_l20Deed.j1 k bs bt149.2 a (wrap64 (1 + bt142.1)) (rd y146 bt149.1)) else (none)) else (none)))))) (fun k => ?_) (Ev.bind c1 (Ev.bind c2 (Ev.bindc rfl (Ev.bind c3 (Ev.ite_pos a3 (Ev.ite_pos (by simp; omega) hj))))))⟩
      simp only [spec_l20Deed.j0]
      rw [if_neg hf, if_pos hx]
    · obtain ⟨b', q, q1, q2, hj⟩ := deed_j1 hb hl h0 (by omega) a b c
      refine ⟨b', c, q, by omega, by omega, Ev.step (fun k => ?_) hj⟩
      simp only [spec_l20Deed.j0]
      rw [if_neg hf, if_neg hx]
theorem deed_ev {bs : List Int} (hb : Bytes bs) (hl : bs.length ≤ 2000) {p : Int} (h0 : 0 ≤ p) (h1 : p ≤ 700000) : ∃ a b c q, p ≤ q ∧ q ≤ p + 7 ∧ Ev (fun k => spec_l20Deed.f k bs p) (a, b, c, q) := by
  obtain ⟨r1, a1, b1, c1⟩ := pick_ev hb hl h0 (by omega) (by omega : (1 : Int) ≤ 7)
  obtain ⟨r2, a2, b2, c2⟩ := pick_ev hb hl (by omega : 0 ≤ p + 1) (by omega) (by omega : (1 : Int) ≤ 60)
  unfold spec_l20Deed.f
  by_cases hk : wrap64 (rd [0, 0, 1, 2, 3, 3, 4] r1 + wrap64 (wrap64 (Int.tdiv r2 59) * 5)) = 0
  · obtain ⟨b', c', q, q1, q2, hj⟩ := deed_j0 hb hl (by omega : 0 ≤ p + 1 + 1) (by omega) (wrap64 (rd [0, 0, 1, 2, 3, 3, 4] r1 + wrap64 (wrap64 (Int.tdiv r2 59) * 5))) (wrap64 (rd [0, 0, 1, 2, 3, 3, 4] r1 + wrap64 (wrap64 (Int.tdiv r2 59) * 5)) == 0) (wrap64 (rd [0, 0, 1, 2, 3, 3, 4] r1 + wrap64 (wrap64 (Int.tdiv r2 59) * 5))) 0 0
    exact ⟨_, b', c', q, by omega, by omega, Ev.bindc rfl (Ev.bind c1 (Ev.ite_pos a1 (Ev.ite_pos (by simp; omega) (Ev.bind c2 (Ev.ite_pos hk hj)))))⟩
  · obtain ⟨b', c', q, q1, q2, hj⟩ := deed_j0 hb hl (by omega : 0 ≤ p + 1 + 1) (by omega) (wrap64 (rd [0, 0, 1, 2, 3, 3, 4] r1 + wrap64 (wrap64 (Int.tdiv r2 59) * 5))) (wrap64 (rd [0, 0, 1, 2, 3, 3, 4] r1 + wrap64 (wrap64 (Int.tdiv r2 59) * 5)) == 1) (wrap64 (rd [0, 0, 1, 2, 3, 3, 4] r1 + wrap64 (wrap64 (Int.tdiv r2 59) * 5))) 0 0
    exact ⟨_, b', c', q, by omega, by omega, Ev.bindc rfl (Ev.bind c1 (Ev.ite_pos a1 (Ev.ite_pos (by simp; omega) (Ev.bind c2 (Ev.ite_neg hk hj)))))⟩

theorem numberOk_eq (a : Int) : impl_numberOk.f a = some (decide (1 ≤ a ∧ a ≤ 10000)) := by
  unfold impl_numberOk.f
  by_cases h : a ≥ 1
  · rw [if_pos h]; simp [h]
  · rw [if_neg h]; congr 1; symm; simp; intro h2; omega

theorem alive_eq : laws_alive.f = some true := by
  unfold laws_alive.f impl_DividesOk.f
  simp only [numberOk_eq]
  decide +kernel

theorem l1In_eq (a b c : Int) : spec_l1In.f a b c = some (decide (b ≤ a ∧ a ≤ c)) := by
  unfold spec_l1In.f
  by_cases h : a ≥ b
  · rw [if_pos h]; simp [h]
  · rw [if_neg h]; congr 1; symm; simp; intro h2; omega

theorem spec_number : ∀ (m n : Nat), n ≤ m → n ≤ 100000 → Ev (fun k => spec_l1Number.f k (n : Int)) (digB (n : Int)) := by
  intro m
  induction m with
  | zero =>
    intro n hn hb
    obtain rfl : n = 0 := by omega
    rw [digB_nat, Go.Lib.decDigits_one (by omega)]
    refine Ev.step (f := fun k => spec_l1Number.j0 k 0 false) (fun k => ?_) (Ev.step (f := fun _ => some (strOfNums [((48 + 0 : Nat) : Int) % 256])) (fun k => ?_) ?_)
    · simp only [spec_l1Number.f]; rfl
    · simp only [spec_l1Number.j0]; rw [if_neg (by simp), if_neg (by omega), if_pos (by omega), w64 (by omega) (by omega)]; rfl
    · rw [strOf_one]; exact Ev.now _
  | succ m ih =>
    intro n hn hb
    rw [digB_nat]
    refine Ev.step (f := fun k => spec_l1Number.j0 k (n : Int) false) (fun k => ?_) ?_
    · simp only [spec_l1Number.f]; rw [if_neg (by omega)]
    by_cases h : n < 10
    · rw [Go.Lib.decDigits_one h, ← strOf_one]
      refine Ev.step (f := fun k => some _) (fun k => ?_) (Ev.now _)
      simp only [spec_l1Number.j0]
      rw [if_neg (by simp), if_neg (by omega), if_pos (by omega), w64 (by omega) (by omega)]
      rfl
    · have h1 := ih (n / 10) (by omega) (by omega)
      have hsz := digB_size (n / 10) (by omega)
      refine Ev.step (f := fun k => (spec_l1Number.f k ((n / 10 : Nat) : Int)).bind fun t => if t.size + (strOfNums [((48 + n % 10 : Nat) : Int) % 256]).size ≤ 9223372036854775807 then some (t ++ strOfNums [((48 + n % 10 : Nat) : Int) % 256]) else none) (fun k => ?_) (Ev.bind h1 ?_)
      · simp only [spec_l1Number.j0]
        rw [if_neg (by simp), if_neg (by omega), if_neg (by omega), show (10 : Int) = ((10 : Nat) : Int) from rfl, tdiv_nat, tmod_nat, w64 (by omega) (by omega), w64 (by omega) (by omega)]
        rfl
      · rw [strOf_one]
        refine Ev.ite_pos ?_ ?_
        · have : (⟨[UInt8.ofNat (48 + n % 10)].toArray⟩ : ByteArray).size = 1 := rfl
          omega
        · rw [digB_nat, bytes_append]
          have e : Go.Lib.decDigits n = Go.Lib.decDigits (n / 10) ++ [UInt8.ofNat (48 + n % 10)] := by rw [Go.Lib.decDigits, dif_neg h]
          rw [e]
          exact Ev.now _

theorem spec_j2f (a x y : Int) : Ev (fun k => spec_DeedText.j2 k false a x y) (if a = 4 ∧ x = 0 ∧ y = 0 then tBack else tNone) := by
  refine Ev.step (f := fun _ => some (if a = 4 ∧ x = 0 ∧ y = 0 then tBack else tNone)) (fun k => ?_) (Ev.now _)
  simp only [spec_DeedText.j2]
  rw [if_neg (by simp)]
  by_cases h : a = 4 ∧ x = 0 ∧ y = 0
  · rw [if_pos (by simp [h]), if_pos h]; rfl
  · rw [if_neg (by simpa using h), if_neg h]; rfl
theorem spec_j2t (a x y : Int) (h : 0 ≤ x ∧ x ≤ 99 ∧ 0 ≤ y ∧ y ≤ 9999) : Ev (fun k => spec_DeedText.j2 k true a x y) (((tSet ++ digB x) ++ tSp) ++ digB y) := by
  obtain ⟨h1, h2, h4, h5⟩ := h
  obtain ⟨n, rfl⟩ : ∃ n : Nat, x = n := ⟨x.toNat, by omega⟩
  obtain ⟨m, rfl⟩ : ∃ m : Nat, y = m := ⟨y.toNat, by omega⟩
  have s1 := digB_size n (by omega)
  have s2 := digB_size m (by omega)
  refine Ev.step (f := fun k => (spec_l1Number.f k (n : Int)).bind fun t116 => (if 4 + t116.size ≤ 9223372036854775807 then (if (tSet ++ t116).size + 1 ≤ 9223372036854775807 then ((spec_l1Number.f k (m : Int)).bind fun t117 => (if ((tSet ++ t116) ++ tSp).size + t117.size ≤ 9223372036854775807 then (some (((tSet ++ t116) ++ tSp) ++ t117)) else (none))) else (none)) else (none))) (fun k => ?_) ?_
  · simp only [spec_DeedText.j2, if_true]; rfl
  · refine Ev.bind (spec_number n n (Nat.le_refl _) (by omega)) (Ev.ite_pos (by omega) (Ev.ite_pos ?_ (Ev.bind (spec_number m m (Nat.le_refl _) (by omega)) (Ev.ite_pos ?_ (Ev.now _)))))
    · rw [ByteArray.size_append, show tSet.size = 4 from rfl]; omega
    · rw [ByteArray.size_append, ByteArray.size_append, show tSet.size = 4 from rfl, show tSp.size = 1 from rfl]; omega
/-- What comes behind times and unitary. -/
theorem spec_rest (a x y : Int) (h0 : ¬ (a = 0 ∧ 0 ≤ x ∧ x ≤ 9 ∧ y = 0)) (h1 : ¬ (a = 1 ∧ 0 ≤ x ∧ x ≤ 9 ∧ y = 0)) : Ev (fun k => spec_DeedText.j1 k false a x y) (dText a x y) := by
  by_cases hi : a = 2 ∧ x = 0 ∧ y = 0
  · obtain ⟨rfl, rfl, rfl⟩ := hi
    refine Ev.step (f := fun _ => some tInv) (fun k => ?_) (Ev.now _)
    simp only [spec_DeedText.j1]; rfl
  · have hi2 : ¬ (a == 2 && (x == 0 && y == 0)) = true := by simpa using hi
    by_cases h3 : a = 3
    · subst h3
      by_cases c : 0 ≤ x ∧ x ≤ 99 ∧ 0 ≤ y ∧ y ≤ 9999
      · have e : dText 3 x y = ((tSet ++ digB x) ++ tSp) ++ digB y := by unfold dText; rw [if_pos ⟨rfl, c⟩]
        rw [e]
        refine Ev.step (f := fun k => spec_DeedText.j2 k true 3 x y) (fun k => ?_) (spec_j2t 3 x y c)
        simp only [spec_DeedText.j1]
        rw [if_neg (by simp), if_neg hi2, if_pos trivial, l1In_eq, Option.bind_some, l1In_eq, if_pos (by simp [c]), Option.bind_some]
        congr 1
        simp [c]
      · have e : dText 3 x y = (if (3 : Int) = 4 ∧ x = 0 ∧ y = 0 then tBack else tNone) := by
          unfold dText
          rw [if_neg (fun z => c z.2)]
          by_cases hh : y = 0 ∧ 0 ≤ x ∧ x ≤ 9
          · rw [if_neg (by simpa using hh), if_neg (by omega), if_neg (by omega), if_neg (by omega), if_neg (by omega), if_neg (by omega)]
          · rw [if_pos hh, if_neg (by omega)]
        rw [e]
        refine Ev.step (f := fun k => spec_DeedText.j2 k false 3 x y) (fun k => ?_) (spec_j2f 3 x y)
        simp only [spec_DeedText.j1]
        rw [if_neg (by simp), if_neg hi2, if_pos trivial, l1In_eq, Option.bind_some, l1In_eq]
        by_cases c1 : 0 ≤ x ∧ x ≤ 99
        · rw [if_pos (by simpa using c1), Option.bind_some]
          congr 1
          exact decide_eq_false (fun z => c ⟨c1.1, c1.2, z.1, z.2⟩)
        · rw [if_neg (by simpa using c1)]
    · have e : dText a x y = (if a = 4 ∧ x = 0 ∧ y = 0 then tBack else tNone) := by
        unfold dText
        rw [if_neg (fun z => h3 z.1)]
        by_cases hh : y = 0 ∧ 0 ≤ x ∧ x ≤ 9
        · rw [if_neg (by simpa using hh), if_neg (fun z => h0 ⟨z, hh.2.1, hh.2.2, hh.1⟩), if_neg (fun z => h1 ⟨z, hh.2.1, hh.2.2, hh.1⟩), if_neg (fun z => hi ⟨z.2, z.1, hh.1⟩)]
          by_cases h4 : a = 4 ∧ x = 0 ∧ y = 0
          · rw [if_pos h4, if_pos ⟨h4.2.1, h4.1⟩]
          · rw [if_neg h4, if_neg (fun z => h4 ⟨z.2, z.1, hh.1⟩)]
        · rw [if_pos hh, if_neg (fun z => hh ⟨z.2.2, by omega, by omega⟩)]
      rw [e]
      refine Ev.step (f := fun k => spec_DeedText.j2 k false a x y) (fun k => ?_) (spec_j2f a x y)
      simp only [spec_DeedText.j1]
      rw [if_neg (by simp), if_neg hi2, if_neg h3]
theorem spec_j1 (b : Bool) (a x y : Int) (hb : b = decide (a = 1 ∧ 0 ≤ x ∧ x ≤ 9 ∧ y = 0)) (h0 : ¬ (a = 0 ∧ 0 ≤ x ∧ x ≤ 9 ∧ y = 0)) : Ev (fun k => spec_DeedText.j1 k b a x y) (dText a x y) := by
  cases b with
  | true =>
    obtain ⟨rfl, h1, h2, rfl⟩ := of_decide_eq_true hb.symm
    obtain ⟨n, rfl⟩ : ∃ n : Nat, x = n := ⟨x.toNat, by omega⟩
    have s1 := digB_size n (by omega)
    have e : dText 1 (n : Int) 0 = tUnit ++ digB (n : Int) := by
      unfold dText; rw [if_neg (by omega), if_neg (by omega), if_neg (by omega), if_pos rfl]
    rw [e]
    refine Ev.step (f := fun k => (spec_l1Number.f k (n : Int)).bind fun t => if 8 + t.size ≤ 9223372036854775807 then some (tUnit ++ t) else none) (fun k => ?_) (Ev.bind (spec_number n n (Nat.le_refl _) (by omega)) (Ev.ite_pos (by omega) (Ev.now _)))
    simp only [spec_DeedText.j1, if_true]; rfl
  | false => exact spec_rest a x y h0 (of_decide_eq_false hb.symm)
theorem spec_j0 (b : Bool) (a x y : Int) (hb : b = decide (a = 0 ∧ 0 ≤ x ∧ x ≤ 9 ∧ y = 0)) : Ev (fun k => spec_DeedText.j0 k b a x y) (dText a x y) := by
  cases b with
  | true =>
    obtain ⟨rfl, h1, h2, rfl⟩ := of_decide_eq_true hb.symm
    obtain ⟨n, rfl⟩ : ∃ n : Nat, x = n := ⟨x.toNat, by omega⟩
    have s1 := digB_size n (by omega)
    have e : dText 0 (n : Int) 0 = tTimes ++ digB (n : Int) := by
      unfold dText; rw [if_neg (by omega), if_neg (by omega), if_pos rfl]
    rw [e]
    refine Ev.step (f := fun k => (spec_l1Number.f k (n : Int)).bind fun t => if 6 + t.size ≤ 9223372036854775807 then some (tTimes ++ t) else none) (fun k => ?_) (Ev.bind (spec_number n n (Nat.le_refl _) (by omega)) (Ev.ite_pos (by omega) (Ev.now _)))
    simp only [spec_DeedText.j0, if_true]; rfl
  | false =>
    refine Ev.step (f := fun k => spec_DeedText.j1 k (decide (a = 1 ∧ 0 ≤ x ∧ x ≤ 9 ∧ y = 0)) a x y) (fun k => ?_) (spec_j1 _ a x y rfl (of_decide_eq_false hb.symm))
    simp only [spec_DeedText.j0]
    rw [if_neg (by simp)]
    by_cases h1 : a = 1
    · rw [if_pos h1, l1In_eq, Option.bind_some]
      by_cases h2 : 0 ≤ x ∧ x ≤ 9
      · rw [if_pos (by simpa using h2)]; congr 1
        by_cases h3 : y = 0 <;> simp [h1, h2, h3]
      · rw [if_neg (by simpa using h2)]; congr 1
        exact (decide_eq_false (fun z => h2 ⟨z.2.1, z.2.2.1⟩)).symm
    · rw [if_neg h1]; congr 1
      exact (decide_eq_false (fun z => h1 z.1)).symm
theorem spec_deedText (a x y : Int) : Ev (fun k => spec_DeedText.f k a x y) (dText a x y) := by
  refine Ev.congr (f := fun k => spec_DeedText.j0 k (decide (a = 0 ∧ 0 ≤ x ∧ x ≤ 9 ∧ y = 0)) a x y) (fun k => ?_) (spec_j0 _ a x y rfl)
  unfold spec_DeedText.f
  by_cases h1 : a = 0
  · rw [if_pos h1, l1In_eq, Option.bind_some]
    by_cases h2 : 0 ≤ x ∧ x ≤ 9
    · rw [if_pos (by simpa using h2)]; congr 1
      by_cases h3 : y = 0 <;> simp [h1, h2, h3]
    · rw [if_neg (by simpa using h2)]; congr 1
      exact (decide_eq_false (fun z => h2 ⟨z.2.1, z.2.2.1⟩)).symm
  · rw [if_neg h1]; congr 1
    exact (decide_eq_false (fun z => h1 z.1)).symm

theorem cutL (s : ByteArray) (hs : s.size ≤ 1099511627776) : ∀ (d i f : Nat) (out : List ByteArray), i + d = s.size → f ≤ i → out.length ≤ f → (∀ j, f ≤ j → j < i → s.data.toList[j]? ≠ some 32) →
    Ev (fun k => spec_l1Cut.l0 k s 32 out (f : Int) (i : Int)) (out ++ (wordsL 32 (s.data.toList.drop f)).map bw) := by
  intro d
  induction d with
  | zero =>
    intro i f out h hf ho hn
    have hl : s.data.toList.length = s.size := (size_data s).symm
    have e : s.data.toList.drop f = (s.data.toList.drop f).take (i - f) := by rw [List.take_of_length_le]; rw [List.length_drop]; omega
    rw [wordsL_plain (by rw [e]; exact seg_no hn)]
    refine Ev.step (f := fun _ => some (out ++ [bw (s.data.toList.drop f)])) (fun k => ?_) (Ev.now _)
    simp only [spec_l1Cut.l0]
    rw [if_neg (by omega), if_pos (by omega), if_pos (by omega), if_pos (by omega)]
    have e2 : s.extract ((f : Int).toNat) s.size = bw (s.data.toList.drop f) := by
      rw [show ((f : Int)).toNat = f by omega, ext_bw, List.take_of_length_le]
      rw [List.length_drop]; omega
    rw [e2]
  | succ d ih =>
    intro i f out h hf ho hn
    have hl : s.data.toList.length = s.size := (size_data s).symm
    obtain ⟨b, hb⟩ : ∃ b, s.data.toList[i]? = some b := ⟨_, List.getElem?_eq_getElem (by omega)⟩
    by_cases hc : b = 32
    · subst hc
      have hsp := seg_split hf hb
      have e : (wordsL 32 (s.data.toList.drop f)).map bw = bw ((s.data.toList.drop f).take (i - f)) :: (wordsL 32 (s.data.toList.drop (i + 1))).map bw := by
        conv => lhs; rw [hsp, wordsL_cut _ (seg_no hn)]
        rfl
      rw [e, show out ++ bw ((s.data.toList.drop f).take (i - f)) :: (wordsL 32 (s.data.toList.drop (i + 1))).map bw = (out ++ [bw ((s.data.toList.drop f).take (i - f))]) ++ (wordsL 32 (s.data.toList.drop (i + 1))).map bw by simp]
      refine Ev.step (fun k => ?_) (ih (i + 1) (i + 1) (out ++ [bw ((s.data.toList.drop f).take (i - f))]) (by omega) (Nat.le_refl _) (by simp; omega) (fun j h1 h2 => by omega))
      simp only [spec_l1Cut.l0]
      rw [if_pos (by omega), if_pos (by omega), bt_get hb, if_pos (by decide), if_pos (by omega), if_pos (by omega), if_pos (by omega), if_pos (by omega), w64 (by omega) (by omega), ← ext_bw]
      rw [show ((f : Int)).toNat = f by omega, show ((i : Int)).toNat = i by omega]
      rfl
    · refine Ev.step (fun k => ?_) (ih (i + 1) f out (by omega) (by omega) ho (fun j h1 h2 => ?_))
      · simp only [spec_l1Cut.l0]
        rw [if_pos (by omega), if_pos (by omega), bt_get hb, if_neg (fun hz => hc (UInt8.toNat.inj (by have : (32 : UInt8).toNat = 32 := rfl; omega))), w64 (by omega) (by omega)]
        rfl
      · by_cases hj : j = i
        · subst hj; rw [hb]; exact fun hz => hc (Option.some.inj hz)
        · exact hn j h1 (by omega)
theorem spec_cut (s : ByteArray) (hs : s.size ≤ 1099511627776) : Ev (fun k => spec_l1Cut.f k s 32) (wordsB s) := by
  unfold spec_l1Cut.f
  have h := cutL s hs s.size 0 0 [] (by omega) (Nat.le_refl _) (by simp) (fun j h1 h2 => by omega)
  exact h

def dv (n : Int) : List UInt8 → Int
  | [] => n
  | b :: r => if (b.toNat : Int) < 48 then -1 else if (b.toNat : Int) > 57 then -1 else dv (wrap64 (wrap64 (10 * n) + ((b.toNat : Int) - 48) % 256)) r
theorem digitsL (s : ByteArray) (hs : s.size ≤ 1099511627776) : ∀ (r : List UInt8) (i : Nat) (n : Int), s.data.toList.drop i = r → Ev (fun k => spec_l1Digits.l0 k s n (i : Int)) (dv n r) := by
  intro r
  have hl : s.data.toList.length = s.size := (size_data s).symm
  induction r with
  | nil =>
    intro i n h
    have : s.data.toList.length ≤ i := List.drop_eq_nil_iff.1 h
    refine Ev.step (f := fun _ => some n) (fun k => ?_) (Ev.now _)
    simp only [spec_l1Digits.l0]
    rw [if_neg (by omega)]
  | cons b r ih =>
    intro i n h
    obtain ⟨h1, h2, h3⟩ := drop_at h
    by_cases c1 : (b.toNat : Int) < 48
    · rw [dv, if_pos c1]
      refine Ev.step (f := fun _ => some (-1)) (fun k => ?_) (Ev.now _)
      simp only [spec_l1Digits.l0]
      rw [if_pos (by omega), if_pos (by omega), bt_get h2, if_pos c1]
    · by_cases c2 : (b.toNat : Int) > 57
      · rw [dv, if_neg c1, if_pos c2]
        refine Ev.step (f := fun _ => some (-1)) (fun k => ?_) (Ev.now _)
        simp only [spec_l1Digits.l0]
        rw [if_pos (by omega), if_pos (by omega), bt_get h2, if_neg c1, if_pos c2]
      · rw [dv, if_neg c1, if_neg c2]
        refine Ev.step (fun k => ?_) (ih (i + 1) _ h3)
        simp only [spec_l1Digits.l0]
        rw [if_pos (by omega), if_pos (by omega), bt_get h2, if_neg c1, if_neg c2]
        have e : wrap64 ((i : Int) + 1) = ((i + 1 : Nat) : Int) := by rw [w64 (by omega) (by omega)]; rfl
        rw [e]
theorem dv_app : ∀ (xs ys : List UInt8) (n : Int) (m : Int), (∀ b ∈ xs, 48 ≤ b.toNat ∧ b.toNat ≤ 57) → dv n xs = m → dv n (xs ++ ys) = dv m ys
  | [], ys, n, m, _, h => by simp only [dv] at h; subst h; rfl
  | b :: r, ys, n, m, hd, h => by
    have hb := hd b List.mem_cons_self
    rw [dv, if_neg (by omega), if_neg (by omega)] at h
    rw [List.cons_append, dv, if_neg (by omega), if_neg (by omega)]
    exact dv_app r ys _ m (fun x hx => hd x (List.mem_cons_of_mem _ hx)) h
theorem dv_dec (u : Nat) (h : u ≤ 1000000) : dv 0 (Go.Lib.decDigits u) = (u : Int) := by
  induction u using Nat.strongRecOn with
  | _ u ih =>
    by_cases h1 : u < 10
    · rw [Go.Lib.decDigits_one h1]
      simp only [dv]
      rw [ofNat_toNat (by omega), if_neg (by omega), if_neg (by omega), w64 (n := 10 * 0) (by omega) (by omega), w64 (by omega) (by omega)]
      omega
    · rw [dec_big h1, dv_app _ _ 0 ((u / 10 : Nat) : Int) (dec_digits _) (ih (u / 10) (by omega) (by omega))]
      simp only [dv]
      rw [ofNat_toNat (by omega), if_neg (by omega), if_neg (by omega), w64 (n := 10 * ((u / 10 : Nat) : Int)) (by omega) (by omega), w64 (by omega) (by omega)]
      omega
/-- What l1Digits answers. -/
def dgv (s : ByteArray) : Int := if ¬ (1 ≤ (s.size : Int) ∧ (s.size : Int) ≤ 5) then -1 else if (s.size : Int) > 1 ∧ bt s 0 = 48 then -1 else dv 0 s.data.toList
theorem spec_digits (s : ByteArray) (hs : s.size ≤ 1099511627776) : Ev (fun k => spec_l1Digits.f k s) (dgv s) := by
  unfold spec_l1Digits.f dgv
  rw [l1In_eq]
  have hno : Ev (fun k => spec_l1Digits.j0 k s true) (-1) := by
    refine Ev.step (f := fun _ => some (-1)) (fun k => ?_) (Ev.now _)
    simp only [spec_l1Digits.j0]; rw [if_pos trivial]
  have hgo : Ev (fun k => spec_l1Digits.j0 k s false) (dv 0 s.data.toList) := by
    refine Ev.step (fun k => ?_) (digitsL s hs s.data.toList 0 0 rfl)
    simp only [spec_l1Digits.j0]; rw [if_neg (by simp)]; rfl
  by_cases h1 : 1 ≤ (s.size : Int) ∧ (s.size : Int) ≤ 5
  · rw [if_neg (by simpa using h1)]
    refine Ev.bindc rfl (Ev.ite_pos (by simpa using h1) ?_)
    by_cases h2 : (s.size : Int) > 1
    · refine Ev.ite_pos h2 (Ev.ite_pos (by omega) ?_)
      by_cases h3 : bt s 0 = 48
      · rw [if_pos ⟨h2, h3⟩]
        simp only [h3, beq_self_eq_true]
        exact hno
      · rw [if_neg (fun z => h3 z.2)]
        have : (bt s 0 == 48) = false := by simpa using h3
        simp only [this]
        exact hgo
    · rw [if_neg (fun z => h2 z.1)]
      exact Ev.ite_neg h2 hgo
  · rw [if_pos h1]
    exact Ev.bindc rfl (Ev.ite_neg (by simpa using h1) hno)
theorem dgv_dec (u : Nat) (h : u ≤ 9999) : dgv (bw (Go.Lib.decDigits u)) = (u : Int) := by
  unfold dgv
  have hsz : (bw (Go.Lib.decDigits u)).size = Go.Lib.nDigits u := by rw [bw_size, Go.Lib.decDigits_length]
  have h4 := nDigits_pow 3 u (by omega)
  have h1 := Go.Lib.nDigits_pos u
  rw [hsz, if_neg (by omega), if_neg, data_bw, dv_dec u (by omega)]
  rintro ⟨h2, h3⟩
  obtain ⟨b, r, e, hb⟩ := dec_head u
  have hg : (bw (Go.Lib.decDigits u)).data.toList[0]? = some b := by rw [data_bw, e]; rfl
  have h5 := bt_get hg
  have hu : ¬ u < 10 := fun hz => by rw [Go.Lib.nDigits_small hz] at h2; omega
  have := hb (by omega)
  rw [show ((0 : Nat) : Int) = 0 from rfl] at h5
  omega

theorem itoa_eq (n : Int) (h0 : 0 ≤ n) (h1 : n ≤ 100000) : strconv_Itoa.f n = some (digB n) := by
  unfold strconv_Itoa.f; rw [if_pos (by omega), if_pos (by omega)]; rfl
theorem impl_j1 (b : Bool) (a x y : Int) (hb : b = decide (¬ (y = 0 ∧ 0 ≤ x ∧ x ≤ 9))) (h3 : ¬ (a = 3 ∧ 0 ≤ x ∧ x ≤ 99 ∧ 0 ≤ y ∧ y ≤ 9999)) : Ev (fun k => impl_DeedText.j1 k b a x y) (dText a x y) := by
  cases b with
  | true =>
    have hb := of_decide_eq_true hb.symm
    refine Ev.step (f := fun _ => some (dText a x y)) (fun k => ?_) (Ev.now _)
    simp only [impl_DeedText.j1]
    unfold dText
    rw [if_pos trivial, if_neg h3, if_pos hb]; rfl
  | false =>
    have hb : y = 0 ∧ 0 ≤ x ∧ x ≤ 9 := Decidable.not_not.1 (of_decide_eq_false hb.symm)
    obtain ⟨rfl, h1, h2⟩ := hb
    obtain ⟨n, rfl⟩ : ∃ n : Nat, x = n := ⟨x.toNat, by omega⟩
    have s1 := digB_size n (by omega)
    have e : dText a (n : Int) 0 = (if a = 0 then tTimes ++ digB (n : Int) else if a = 1 then tUnit ++ digB (n : Int) else if (n : Int) = 0 ∧ a = 2 then tInv else if (n : Int) = 0 ∧ a = 4 then tBack else tNone) := by
      unfold dText; rw [if_neg h3, if_neg (by omega)]
    rw [e]
    refine Ev.step (f := fun _ => some (if a = 0 then tTimes ++ digB (n : Int) else if a = 1 then tUnit ++ digB (n : Int) else if (n : Int) = 0 ∧ a = 2 then tInv else if (n : Int) = 0 ∧ a = 4 then tBack else tNone)) (fun k => ?_) (Ev.now _)
    simp only [impl_DeedText.j1]
    rw [if_neg (by simp), itoa_eq _ (by omega) (by omega)]
    simp only [Option.bind_some]
    by_cases c0 : a = 0
    · rw [if_pos c0, if_pos c0, if_pos (by omega)]; rfl
    · rw [if_neg c0, if_neg c0]
      by_cases c1 : a = 1
      · rw [if_pos c1, if_pos c1, if_pos (by omega)]; rfl
      · rw [if_neg c1, if_neg c1]
        by_cases cx : (n : Int) = 0
        · simp only [cx, if_true, true_and]
          by_cases c2 : a = 2
          · simp only [if_pos c2]; rfl
          · simp only [if_neg c2]
            by_cases c4 : a = 4
            · simp only [if_pos c4]; rfl
            · simp only [if_neg c4]; rfl
        · simp only [cx, if_false, false_and]; rfl
theorem impl_j0f (a x y : Int) (h3 : ¬ (a = 3 ∧ 0 ≤ x ∧ x ≤ 99 ∧ 0 ≤ y ∧ y ≤ 9999)) : Ev (fun k => impl_DeedText.j0 k false a x y) (dText a x y) := by
  refine Ev.step (f := fun k => impl_DeedText.j1 k (decide (¬ (y = 0 ∧ 0 ≤ x ∧ x ≤ 9))) a x y) (fun k => ?_) (impl_j1 _ a x y rfl h3)
  simp only [impl_DeedText.j0]
  rw [if_neg (by simp)]
  by_cases hy : y = 0
  · rw [if_pos hy]
    by_cases hx : x < 0
    · rw [if_pos hx]; congr 1
      exact (decide_eq_true (show ¬ (y = 0 ∧ 0 ≤ x ∧ x ≤ 9) from fun z => by omega)).symm
    · rw [if_neg hx]; congr 1
      by_cases h9 : x > 9
      · rw [decide_eq_true h9]; exact (decide_eq_true (show ¬ (y = 0 ∧ 0 ≤ x ∧ x ≤ 9) from fun z => by omega)).symm
      · rw [decide_eq_false h9]; exact (decide_eq_false (show ¬ ¬ (y = 0 ∧ 0 ≤ x ∧ x ≤ 9) from fun z => z ⟨hy, by omega, by omega⟩)).symm
  · rw [if_neg hy]; congr 1
    exact (decide_eq_true (show ¬ (y = 0 ∧ 0 ≤ x ∧ x ≤ 9) from fun z => hy z.1)).symm
theorem impl_deedText (a x y : Int) : Ev (fun k => impl_DeedText.f k a x y) (dText a x y) := by
  unfold impl_DeedText.f
  by_cases h3 : a = 3
  · simp only [if_pos h3]
    by_cases hx : x ≥ 0
    · simp only [if_pos hx]
      by_cases hx2 : x ≤ 99
      · simp only [if_pos hx2]
        by_cases hy : y ≥ 0
        · simp only [if_pos hy]
          by_cases hy2 : y ≤ 9999
          · simp only [decide_eq_true hy2]
            obtain ⟨n, rfl⟩ : ∃ n : Nat, x = n := ⟨x.toNat, by omega⟩
            obtain ⟨m, rfl⟩ : ∃ m : Nat, y = m := ⟨y.toNat, by omega⟩
            have s1 := digB_size n (by omega)
            have s2 := digB_size m (by omega)
            have e : dText a (n : Int) (m : Int) = ((tSet ++ digB (n : Int)) ++ tSp) ++ digB (m : Int) := by unfold dText; rw [if_pos ⟨h3, hx, hx2, hy, hy2⟩]
            rw [e]
            refine Ev.step (f := fun _ => some _) (fun k => ?_) (Ev.now _)
            simp only [impl_DeedText.j0]
            rw [if_pos trivial, itoa_eq _ (by omega) (by omega), Option.bind_some, if_pos (by omega), if_pos, itoa_eq _ (by omega) (by omega), Option.bind_some, if_pos]
            · rfl
            · show ((tSet ++ digB (n : Int)) ++ tSp).size + _ ≤ _
              rw [ByteArray.size_append, ByteArray.size_append, show tSet.size = 4 from rfl, show tSp.size = 1 from rfl]; omega
            · show (tSet ++ digB (n : Int)).size + _ ≤ _
              rw [ByteArray.size_append, show tSet.size = 4 from rfl]; omega
          · simp only [decide_eq_false hy2]
            exact impl_j0f a x y (fun z => hy2 z.2.2.2.2)
        · simp only [if_neg hy]; exact impl_j0f a x y (fun z => hy z.2.2.2.1)
      · simp only [if_neg hx2]; exact impl_j0f a x y (fun z => hx2 z.2.2.1)
    · simp only [if_neg hx]; exact impl_j0f a x y (fun z => hx z.2.1)
  · simp only [if_neg h3]; exact impl_j0f a x y (fun z => h3 z.1)

def kfrom (w : ByteArray) : List ByteArray → Int → Int
  | [], _ => -1
  | x :: r, i => if w.toList = x.toList then i else kfrom w r (i + 1)
theorem idxL (l : List ByteArray) (w : ByteArray) (hl : l.length ≤ 1000) : ∀ (r : List ByteArray) (i : Nat), l.drop i = r → Ev (fun k => slices_Index_string_string.l0 k l w (l.length : Int) (i : Int)) (kfrom w r (i : Int)) := by
  intro r
  induction r with
  | nil =>
    intro i h
    have : l.length ≤ i := List.drop_eq_nil_iff.1 h
    refine Ev.step (f := fun _ => some (-1)) (fun k => ?_) (Ev.now _)
    simp only [slices_Index_string_string.l0]
    rw [if_neg (by omega)]
  | cons x r ih =>
    intro i h
    obtain ⟨h1, h2, h3⟩ := drop_at h
    have hx : rdOf ByteArray.empty l (i : Int) = x := by unfold rdOf; simp [List.getD, h2]
    by_cases he : w.toList = x.toList
    · rw [kfrom, if_pos he]
      refine Ev.step (f := fun _ => some (i : Int)) (fun k => ?_) (Ev.now _)
      simp only [slices_Index_string_string.l0]
      rw [if_pos (by omega), if_pos (by omega), if_pos (by omega), hx, if_pos he]
    · rw [kfrom, if_neg he]
      refine Ev.step (fun k => ?_) (ih (i + 1) h3)
      simp only [slices_Index_string_string.l0]
      rw [if_pos (by omega), if_pos (by omega), if_pos (by omega), hx, if_neg he, w64 (by omega) (by omega)]
      rfl
theorem idx_ev (w : ByteArray) : Ev (fun k => slices_Index_string_string.f k n5 w) (kidx w) := by
  unfold slices_Index_string_string.f
  have h := idxL n5 w (by decide) n5 0 rfl
  have e : kfrom w n5 ((0 : Nat) : Int) = kidx w := by unfold kidx n5; simp [kfrom]
  rw [e] at h
  exact h
theorem wordsB_pos (s : ByteArray) : 0 < (wordsB s).length := by
  obtain ⟨w, ws, e⟩ := wordsL_ne 32 s.data.toList
  unfold wordsB; rw [e]; simp
theorem wordsB_size {s w : ByteArray} (h : w ∈ wordsB s) : w.size ≤ s.size := by
  unfold wordsB at h
  obtain ⟨l, hl, rfl⟩ := List.mem_map.1 h
  rw [bw_size, size_data]
  exact wordsL_len 32 _ l hl
theorem rdOf_size {s : ByteArray} (i : Nat) : (rdOf ByteArray.empty (wordsB s) (i : Int)).size ≤ s.size := by
  unfold rdOf
  have e : ((i : Int)).toNat = i := by omega
  rw [e]
  by_cases h : i < (wordsB s).length
  · rw [List.getD_eq_getElem?_getD, List.getElem?_eq_getElem h]
    exact wordsB_size (List.getElem_mem h)
  · rw [List.getD_eq_getElem?_getD, List.getElem?_eq_none (by omega)]
    exact Nat.zero_le _
theorem atoi_eq (s : ByteArray) (h : s.size ≤ 281474976710656) : strconv_Atoi.f s = some (aval s, false) := by
  unfold strconv_Atoi.f; rw [if_pos h]; rfl
theorem rdT_ev {g : Nat → Option ByteArray} {s : ByteArray} {a b c : Int} (h : Ev g (dText a b c)) : Ev (fun k => (g k).bind fun t => if t.toList = s.toList then some (a, b, c, true) else some (0, 0, 0, false)) (rdT s a b c) := by
  unfold rdT
  by_cases hq : (dText a b c).toList = s.toList
  · rw [if_pos hq]; exact Ev.bind h (Ev.ite_pos hq (Ev.now _))
  · rw [if_neg hq]; exact Ev.bind h (Ev.ite_neg hq (Ev.now _))
theorem impl_rj1 (s : ByteArray) (hs : s.size < 4294967281) (a b : Int) : Ev (fun k => impl_ReadDeed.j1 k s (wordsB s) a b 0) (rdT s a b (rdC (wordsB s))) := by
  unfold rdC
  by_cases h : ((wordsB s).length : Int) > 2
  · rw [if_pos h]
    refine Ev.step (f := fun k => (impl_DeedText.f k a b (aval (rdOf ByteArray.empty (wordsB s) 2))).bind fun t => if t.toList = s.toList then some (a, b, aval (rdOf ByteArray.empty (wordsB s) 2), true) else some (0, 0, 0, false)) (fun k => ?_) (rdT_ev (impl_deedText _ _ _))
    have : (rdOf ByteArray.empty (wordsB s) 2).size ≤ s.size := rdOf_size (s := s) 2
    simp only [impl_ReadDeed.j1]
    rw [if_pos h, if_pos (by omega), atoi_eq _ (Nat.le_trans this (by omega)), Option.bind_some]
  · rw [if_neg h]
    refine Ev.step (f := fun k => (impl_DeedText.f k a b 0).bind fun t => if t.toList = s.toList then some (a, b, 0, true) else some (0, 0, 0, false)) (fun k => ?_) (rdT_ev (impl_deedText _ _ _))
    simp only [impl_ReadDeed.j1]
    rw [if_neg h]
theorem rd5 {i : Int} (h0 : 0 ≤ i) (h4 : i ≤ 4) : rd ([0, 1, 2, 3, 4] : List Int) i = i := by
  have : i = 0 ∨ i = 1 ∨ i = 2 ∨ i = 3 ∨ i = 4 := by omega
  rcases this with rfl | rfl | rfl | rfl | rfl <;> rfl
theorem impl_readDeed (s : ByteArray) (hs : s.size < 4294967281) : Ev (fun k => impl_ReadDeed.f k s) (rdVal s) := by
  unfold impl_ReadDeed.f
  have hp := wordsB_pos s
  have hsplit : strings_Split.f s (⟨#[32]⟩ : ByteArray) = some (wordsB s) := by
    unfold strings_Split.f
    rw [if_pos hs, if_pos (by decide)]
    exact congrArg some (splitB_words 32 s)
  refine Ev.bindc hsplit (Ev.ite_pos (by omega) (Ev.bind (idx_ev _) ?_))
  obtain ⟨k0, k4⟩ := kidx_range (rdOf ByteArray.empty (wordsB s) 0)
  have hno : ∀ x5, Ev (fun k => impl_ReadDeed.j0 k s (wordsB s) x5 true) no4 := fun x5 => by
    refine Ev.step (f := fun _ => some no4) (fun k => ?_) (Ev.now _)
    simp only [impl_ReadDeed.j0]
    rw [if_pos trivial]; rfl
  unfold rdVal rdW
  by_cases h1 : kidx (rdOf ByteArray.empty (wordsB s) 0) < 0
  · rw [if_pos h1]
    exact Ev.ite_pos h1 (hno _)
  · rw [if_neg h1]
    refine Ev.ite_neg h1 ?_
    by_cases h2 : ((wordsB s).length : Int) > 3
    · rw [if_pos h2]
      simp only [decide_eq_true h2]
      exact hno _
    · rw [if_neg h2]
      simp only [decide_eq_false h2]
      have hj := impl_rj1 s hs (kidx (rdOf ByteArray.empty (wordsB s) 0)) (rdB (wordsB s))
      refine Ev.step (fun k => ?_) hj
      simp only [impl_ReadDeed.j0, Option.bind_some]
      rw [if_neg (by simp), if_pos (by omega), if_pos (by simp; omega), rd5 (by omega) k4]
      unfold rdB
      by_cases h3 : ((wordsB s).length : Int) > 1
      · have : (rdOf ByteArray.empty (wordsB s) 1).size ≤ s.size := rdOf_size (s := s) 1
        rw [if_pos h3, if_pos (by omega), atoi_eq _ (Nat.le_trans this (by omega)), if_pos h3]
        rfl
      · rw [if_neg h3, if_neg h3]

def findD (s : ByteArray) : List S24 → Int × Int × Int × Bool
  | [] => no4
  | d :: r => if s.toList = ([] : List UInt8) then findD s r else if (dText d.f0 d.f1 d.f2).toList = s.toList then (d.f0, d.f1, d.f2, true) else findD s r
theorem spec_rL (s : ByteArray) (l : List S24) (hl : l.length ≤ 1000) : ∀ (r : List S24) (i : Nat), l.drop i = r → Ev (fun k => spec_ReadDeed.l0 k s l (i : Int)) (findD s r) := by
  intro r
  induction r with
  | nil =>
    intro i h
    have : l.length ≤ i := List.drop_eq_nil_iff.1 h
    refine Ev.step (f := fun _ => some no4) (fun k => ?_) (Ev.now _)
    simp only [spec_ReadDeed.l0]
    rw [if_neg (by omega)]; rfl
  | cons d r ih =>
    intro i h
    obtain ⟨h1, h2, h3⟩ := drop_at h
    have hd : rd_T24 l (i : Int) = d := by unfold rd_T24; simp [List.getD, h2]
    have hi := ih (i + 1) h3
    have ew : wrap64 ((i : Int) + 1) = ((i + 1 : Nat) : Int) := by rw [w64 (by omega) (by omega)]; rfl
    by_cases h0 : s.toList = ([] : List UInt8)
    · rw [findD, if_pos h0]
      refine Ev.step (fun k => ?_) hi
      simp only [spec_ReadDeed.l0]
      rw [if_pos (by omega), if_pos h0, ew]
    · rw [findD, if_neg h0]
      refine Ev.step (f := fun k => (spec_DeedText.f k d.f0 d.f1 d.f2).bind fun t => if t.toList = s.toList then some (d.f0, d.f1, d.f2, true) else spec_ReadDeed.l0 k s l ((i + 1 : Nat) : Int)) (fun k => ?_) ?_
      · simp only [spec_ReadDeed.l0]
        rw [if_pos (by omega), if_neg h0, if_pos (by omega), hd, ew]
      · by_cases hq : (dText d.f0 d.f1 d.f2).toList = s.toList
        · rw [if_pos hq]; exact Ev.bind (spec_deedText _ _ _) (Ev.ite_pos hq (Ev.now _))
        · rw [if_neg hq]; exact Ev.bind (spec_deedText _ _ _) (Ev.ite_neg hq hi)
theorem findD_rd (s : ByteArray) : ∀ (l : List S24), (∀ a b c, dText a b c = s → s.size ≠ 0 → (⟨a, b, c⟩ : S24) ∈ l ∨ False) → findD s l = rdVal s ∨ (findD s l = no4 ∧ ∀ d ∈ l, s.size = 0 ∨ dText d.f0 d.f1 d.f2 ≠ s)
  | [], _ => .inr ⟨rfl, by simp⟩
  | d :: r, hc => by
    by_cases h0 : s.toList = ([] : List UInt8)
    · have hz := toList_nil.1 h0
      rcases findD_rd s r (fun a b c h1 h2 => absurd hz h2) with h | ⟨h, h'⟩
      · exact .inl (by rw [findD, if_pos h0]; exact h)
      · exact .inr ⟨by rw [findD, if_pos h0]; exact h, fun x hx => .inl hz⟩
    · have hs : s.size ≠ 0 := fun hz => h0 (toList_nil.2 hz)
      by_cases hq : (dText d.f0 d.f1 d.f2).toList = s.toList
      · refine .inl ?_
        rw [findD, if_neg h0, if_pos hq, rd_complete (toList_inj.1 hq) hs]
      · have hne : dText d.f0 d.f1 d.f2 ≠ s := fun e => hq (by rw [e])
        rcases findD_rd s r (fun a b c h1 h2 => by
          rcases hc a b c h1 h2 with hm | hm
          · rcases List.mem_cons.1 hm with e | hm
            · exact absurd (by rw [← e]; exact h1) hne
            · exact .inl hm
          · exact hm.elim) with h | ⟨h, h'⟩
        · exact .inl (by rw [findD, if_neg h0, if_neg hq]; exact h)
        · refine .inr ⟨by rw [findD, if_neg h0, if_neg hq]; exact h, fun x hx => ?_⟩
          rcases List.mem_cons.1 hx with rfl | hx
          · exact .inr hne
          · exact h' x hx
theorem findD_eq (s : ByteArray) (l : List S24) (hc : ∀ a b c, dText a b c = s → s.size ≠ 0 → (⟨a, b, c⟩ : S24) ∈ l) : findD s l = rdVal s := by
  rcases findD_rd s l (fun a b c h1 h2 => .inl (hc a b c h1 h2)) with h | ⟨h, h'⟩
  · exact h
  · rw [h]
    by_cases ht : (rdVal s).2.2.2 = true
    · obtain ⟨a, b, c, e⟩ : ∃ a b c, rdVal s = (a, b, c, true) := ⟨(rdVal s).1, (rdVal s).2.1, (rdVal s).2.2.1, by rw [← ht]⟩
      obtain ⟨h1, h2⟩ := rd_sound e
      rcases h' _ (hc a b c h1 h2) with hz | hz
      · exact absurd hz h2
      · exact absurd h1 hz
    · exact (rd_false ht).symm
theorem spec_readDeed (s : ByteArray) (hs : s.size < 4294967281) : Ev (fun k => spec_ReadDeed.f k s) (rdVal s) := by
  unfold spec_ReadDeed.f
  have hp := wordsB_pos s
  have s1 : (rdOf ByteArray.empty (wordsB s) 1).size ≤ s.size := rdOf_size (s := s) 1
  have s2 : (rdOf ByteArray.empty (wordsB s) 2).size ≤ s.size := rdOf_size (s := s) 2
  refine Ev.bind (spec_cut s (by omega)) ?_
  simp only [Option.bind_some]
  have hj1 : ∀ l : List S24, l.length ≤ 1000 → Ev (fun k => spec_ReadDeed.j1 k s l) (findD s l) := fun l hl => by
    refine Ev.step (fun k => ?_) (spec_rL s l hl l 0 rfl)
    simp only [spec_ReadDeed.j1]; rfl
  have hmem : ∀ a b c, dText a b c = s → s.size ≠ 0 → ((a = 2 ∨ a = 4) ∧ b = 0 ∧ c = 0) ∨ ((a = 0 ∨ a = 1) ∧ c = 0 ∧ (wordsB s).length = 2 ∧ b = dgv (rdOf ByteArray.empty (wordsB s) 1)) ∨ (a = 3 ∧ (wordsB s).length = 3 ∧ b = dgv (rdOf ByteArray.empty (wordsB s) 1) ∧ c = dgv (rdOf ByteArray.empty (wordsB s) 2)) := by
    intro a b c h hz
    subst h
    rcases dText_cases a b c hz with ⟨rfl, n, m, rfl, rfl, hn, hm, e⟩ | ⟨rfl, rfl, n, rfl, hn, e⟩ | ⟨rfl, rfl, n, rfl, hn, e⟩ | ⟨rfl, rfl, rfl, e⟩ | ⟨rfl, rfl, rfl, e⟩
    · have hw : wordsB (dText 3 (n : Int) (m : Int)) = [bw [115, 101, 116], bw (Go.Lib.decDigits n), bw (Go.Lib.decDigits m)] := by unfold wordsB; rw [e, words3]; rfl
      refine .inr (.inr ⟨rfl, by rw [hw]; rfl, ?_, ?_⟩)
      · rw [hw]; exact (dgv_dec n (by omega)).symm
      · rw [hw]; exact (dgv_dec m (by omega)).symm
    · have hw : wordsB (dText 0 (n : Int) 0) = [bw [116, 105, 109, 101, 115], bw (Go.Lib.decDigits n)] := by unfold wordsB; rw [e, words2 (by decide)]; rfl
      refine .inr (.inl ⟨.inl rfl, rfl, by rw [hw]; rfl, ?_⟩)
      rw [hw]; exact (dgv_dec n (by omega)).symm
    · have hw : wordsB (dText 1 (n : Int) 0) = [bw [117, 110, 105, 116, 97, 114, 121], bw (Go.Lib.decDigits n)] := by unfold wordsB; rw [e, words2 (by decide)]; rfl
      refine .inr (.inl ⟨.inr rfl, rfl, by rw [hw]; rfl, ?_⟩)
      rw [hw]; exact (dgv_dec n (by omega)).symm
    · exact .inl ⟨.inl rfl, rfl, rfl⟩
    · exact .inl ⟨.inr rfl, rfl, rfl⟩
  by_cases h2 : ((wordsB s).length : Int) = 2
  · refine Ev.ite_pos h2 (Ev.ite_pos (by omega) (Ev.bind (spec_digits _ (Nat.le_trans s1 (by omega))) (Ev.bind (spec_digits _ (Nat.le_trans s1 (by omega))) ?_)))
    refine Ev.ite_pos (by simp) ?_
    have e := findD_eq s ([⟨2, 0, 0⟩, ⟨4, 0, 0⟩] ++ [⟨0, dgv (rdOf ByteArray.empty (wordsB s) 1), 0⟩, ⟨1, dgv (rdOf ByteArray.empty (wordsB s) 1), 0⟩]) (fun a b c h hz => by
      rcases hmem a b c h hz with ⟨ha, rfl, rfl⟩ | ⟨ha, rfl, _, rfl⟩ | ⟨_, h3, _⟩
      · rcases ha with rfl | rfl <;> simp
      · rcases ha with rfl | rfl <;> simp
      · omega)
    rw [← e]
    refine Ev.step (fun k => ?_) (hj1 _ (by simp))
    simp only [spec_ReadDeed.j0]
    rw [if_neg (by omega)]
  · refine Ev.ite_neg h2 ?_
    by_cases h3 : ((wordsB s).length : Int) = 3
    · have e := findD_eq s ([⟨2, 0, 0⟩, ⟨4, 0, 0⟩] ++ [⟨3, dgv (rdOf ByteArray.empty (wordsB s) 1), dgv (rdOf ByteArray.empty (wordsB s) 2)⟩]) (fun a b c h hz => by
        rcases hmem a b c h hz with ⟨ha, rfl, rfl⟩ | ⟨ha, _, h4, _⟩ | ⟨rfl, _, rfl, rfl⟩
        · rcases ha with rfl | rfl <;> simp
        · omega
        · simp)
      rw [← e]
      refine Ev.step (f := fun k => (spec_l1Digits.f k (rdOf ByteArray.empty (wordsB s) 1)).bind fun t188 => (if 2 < ((wordsB s).length : Int) then ((spec_l1Digits.f k (rdOf ByteArray.empty (wordsB s) 2)).bind fun t190 => (if [(⟨2, 0, 0⟩ : S24), ⟨4, 0, 0⟩].length < 5864062014805 then (spec_ReadDeed.j1 k s ([⟨2, 0, 0⟩, ⟨4, 0, 0⟩] ++ [(⟨3, t188, t190⟩ : S24)])) else none)) else none)) (fun k => ?_) (Ev.bind (spec_digits _ (Nat.le_trans s1 (by omega))) (Ev.ite_pos (by omega) (Ev.bind (spec_digits _ (Nat.le_trans s2 (by omega))) (Ev.ite_pos (by simp) (hj1 _ (by simp))))))
      simp only [spec_ReadDeed.j0]
      rw [if_pos h3, if_pos (by omega)]
    · have e := findD_eq s [⟨2, 0, 0⟩, ⟨4, 0, 0⟩] (fun a b c h hz => by
        rcases hmem a b c h hz with ⟨ha, rfl, rfl⟩ | ⟨ha, _, h4, _⟩ | ⟨_, h4, _⟩
        · rcases ha with rfl | rfl <;> simp
        · omega
        · omega)
      rw [← e]
      refine Ev.step (fun k => ?_) (hj1 _ (by simp))
      simp only [spec_ReadDeed.j0]
      rw [if_neg h3]

def spoilL : List ByteArray := [(⟨#[]⟩ : ByteArray), (⟨#[48]⟩ : ByteArray), (⟨#[32]⟩ : ByteArray), (⟨#[10]⟩ : ByteArray), (⟨#[45]⟩ : ByteArray), (⟨#[98, 97, 99, 107]⟩ : ByteArray)]
theorem spoil_ev {bs : List Int} (hb : Bytes bs) (hl : bs.length ≤ 2000) {p : Int} (h0 : 0 ≤ p) (h1 : p ≤ 700000) (s : ByteArray) (hs : s.size ≤ 300000) : ∃ t q, t.size ≤ 1000000 ∧ Ev (fun k => spec_l20Spoil.f k bs p s) (t, q) := by
  unfold spec_l20Spoil.f
  by_cases hz : (s.size : Int) = 0
  · exact ⟨_, _, by decide, Ev.ite_pos hz (Ev.now _)⟩
  · obtain ⟨r1, a1, b1, c1⟩ := pick_ev hb hl h0 (by omega) (by omega : (1 : Int) ≤ (s.size : Int))
    obtain ⟨r2, a2, b2, c2⟩ := pick_ev hb hl (by omega : 0 ≤ p + 1) (by omega) (by omega : (1 : Int) ≤ 6)
    have hx : (rdOf ByteArray.empty spoilL r2).size ≤ 4 := by
      have : r2 = 0 ∨ r2 = 1 ∨ r2 = 2 ∨ r2 = 3 ∨ r2 = 4 ∨ r2 = 5 := by omega
      rcases this with rfl | rfl | rfl | rfl | rfl | rfl <;> decide
    have e1 : (s.extract 0 (r1 : Int).toNat).size ≤ 300000 := by rw [ByteArray.size_extract]; omega
    have e2 : (s.extract (wrap64 (r1 + 1) : Int).toNat s.size).size ≤ 300000 := by rw [ByteArray.size_extract]; omega
    refine ⟨_, _, ?_, Ev.ite_neg hz (Ev.bind c1 (Ev.ite_pos a1 (Ev.ite_pos (by omega) (Ev.bindc rfl (Ev.bind c2 (Ev.ite_pos a2 (Ev.ite_pos (by simp; omega) (Ev.ite_pos (by show (s.extract 0 (r1 : Int).toNat).size + (rdOf ByteArray.empty spoilL r2).size ≤ 9223372036854775807; omega) (Ev.ite_pos (by rw [w64 (by omega) (by omega)]; omega) (Ev.ite_pos (by rw [w64 (by omega) (by omega)]; omega) (Ev.ite_pos (by show ((s.extract 0 (r1 : Int).toNat) ++ (rdOf ByteArray.empty spoilL r2)).size + (s.extract (wrap64 (r1 + 1) : Int).toNat s.size).size ≤ 9223372036854775807; rw [ByteArray.size_append]; omega) (Ev.now _))))))))))))⟩
    show (((s.extract 0 (r1 : Int).toNat) ++ (rdOf ByteArray.empty spoilL r2)) ++ (s.extract (wrap64 (r1 + 1) : Int).toNat s.size)).size ≤ 1000000
    rw [ByteArray.size_append, ByteArray.size_append]
    omega
theorem drawRead_ev {l0 : List Int} (hw : ∀ x ∈ l0, (Lit.int .u8 x).wf = true) : ∃ s : ByteArray, s.size ≤ 1000000 ∧ Ev (fun k => spec_DrawReadDeed.f k l0) s := by
  obtain ⟨bs, h1, h2, h3⟩ := open_ev (Bytes.of hw)
  obtain ⟨a, b, c, q, q1, q2, hd⟩ := deed_ev h1 h2 (p := 0) (by omega) (by omega)
  obtain ⟨r, a1, b1, c1⟩ := pick_ev h1 h2 (p := q) (n := 3) (by omega) (by omega) (by omega)
  have hsz := dText_size a b c
  unfold spec_DrawReadDeed.f
  by_cases hr : r = 0
  · obtain ⟨t, q', ht, hsp⟩ := spoil_ev h1 h2 (p := q + 1) (by omega) (by omega) (dText a b c) hsz
    exact ⟨t, ht, Ev.bindc h3 (Ev.bind hd (Ev.bind (spec_deedText a b c) (Ev.bind c1 (Ev.ite_pos hr (Ev.bind hsp (Ev.now _))))))⟩
  · exact ⟨dText a b c, by omega, Ev.bindc h3 (Ev.bind hd (Ev.bind (spec_deedText a b c) (Ev.bind c1 (Ev.ite_neg hr (Ev.now _)))))⟩
theorem no_space {s : ByteArray} (h : (rdVal (s ++ ⟨#[32]⟩)).2.2.2 = true) : False := by
  obtain ⟨a, b, c, e⟩ : ∃ a b c, rdVal (s ++ ⟨#[32]⟩) = (a, b, c, true) := ⟨_, _, _, by rw [← h]⟩
  obtain ⟨h1, h2⟩ := rd_sound e
  rw [← h1] at h2
  obtain ⟨r, x, h3, h4, _⟩ := dText_last a b c h2
  rw [h1, data_app] at h3
  have h5 := congrArg List.getLast? h3
  rw [List.getLast?_append, List.getLast?_append] at h5
  simp at h5
  exact h4 (by rw [← h5]; rfl)
theorem FnReadDeed : laws_FnReadDeed.Pure := by
  intro l0 _ _ hw
  refine Ev.rounds ?_
  unfold laws_FnReadDeed.f
  by_cases hl : (l0.length : Int) > 1048576
  · exact Ev.ite_pos hl (Ev.now _)
  refine Ev.ite_neg hl ?_
  obtain ⟨s, hs, hD⟩ := drawRead_ev hw
  refine Ev.bind hD (Ev.bind (impl_readDeed s (by omega)) (Ev.bind (spec_readDeed s (by omega)) (Ev.ite_neg (by simp) ?_)))
  have hne : ((rdVal s).2.2.2 != (rdVal s).2.2.2) = false := by simp
  rw [hne]
  by_cases ht : (rdVal s).2.2.2 = true
  · obtain ⟨a, b, c, e⟩ : ∃ a b c, rdVal s = (a, b, c, true) := ⟨_, _, _, by rw [← ht]⟩
    obtain ⟨h1, h2⟩ := rd_sound e
    rw [e]
    simp only
    have hsp : s ++ (⟨#[32]⟩ : ByteArray) = s ++ ⟨#[32]⟩ := rfl
    have hz : (s ++ (⟨#[32]⟩ : ByteArray)).size = s.size + 1 := by rw [ByteArray.size_append]; rfl
    have hno : (rdVal (s ++ ⟨#[32]⟩)).2.2.2 = false := by
      cases hq : (rdVal (s ++ ⟨#[32]⟩)).2.2.2 with
      | true => exact (no_space hq).elim
      | false => rfl
    refine Ev.step (f := fun k => (impl_ReadDeed.f k (s ++ (⟨#[32]⟩ : ByteArray))).bind fun bt256 => ((impl_DeedText.f k a b c).bind fun t261 => (if t261.toList = s.toList then (some (!bt256.2.2.2)) else (some false)))) (fun k => ?_) (Ev.bind (impl_readDeed _ (by omega)) (Ev.bind (impl_deedText a b c) (Ev.ite_pos (by rw [h1]) ?_)))
    · simp only [laws_FnReadDeed.j0]
      rw [if_neg (by simp), if_pos trivial, if_pos (by omega)]
    · rw [hno]; exact Ev.now _
  · have e := rd_false ht
    rw [e]
    refine Ev.step (f := fun _ => some true) (fun k => ?_) (Ev.now _)
    show (if false = true then some false else if false = true then _ else if ((0 : Int) == 0 && ((0 : Int) == 0 && ((0 : Int) == 0))) = true then (laws_alive.f).bind (fun t262 => some t262) else some false) = some true
    rw [alive_eq]
    rfl

end Go.Proofs.YtmgjidgfhlclmaaDoor.Pure
