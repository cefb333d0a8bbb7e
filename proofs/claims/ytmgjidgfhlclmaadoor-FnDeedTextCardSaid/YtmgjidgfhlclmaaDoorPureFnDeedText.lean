/-
  The text of a drawn deed is read as that deed; the program and the reference write the same text.
-/
import Derived.Test.YtmgjidgfhlclmaaDoorPFnDeedTextx7
import Derived.Test.YtmgjidgfhlclmaaDoorLib
import Derived.Test.YtmgjidgfhlclmaaDoorLibDraw
import Derived.Test.YtmgjidgfhlclmaaDoorLibTxt
import Derived.Test.YtmgjidgfhlclmaaDoorLibRd
namespace Go.Proofs.YtmgjidgfhlclmaaDoor.Pure
open Go.RowKit Go.Proofs.YtmgjidgfhlclmaaDoor.PFnDeedText Go.Proofs.YtmgjidgfhlclmaaDoorW.PrintWords Go.Proofs.YtmgjidgfhlclmaaDoorW.PrintLast Go.Proofs.YtmgjidgfhlclmaaDoorW.PrintMore Go.Proofs.YtmgjidgfhlclmaaDoor.Lib
set_option linter.unusedVariables false
set_option linter.unusedSimpArgs false

theorem pick_ev {bs : List Int} (hb : Bytes bs) (hl : bs.length ≤ 2000) {p n : Int} (h0 : 0 ≤ p) (h1 : p ≤ 1000000) (hn : 1 ≤ n) :
    ∃ r, 0 ≤ r ∧ r < n ∧ Ev (fun k => spec_l20Rd_pick.f k bs p n) (r, p + 1) := by
  have ep : wrap64 (p + 1) = p + 1 := w64 (by omega) (by omega)
  have e1 : wrap64 (p + 1 - 1) = p := by rw [w64 (by omega) (by omega)]; omega
  have hf : ∀ k, spec_l20Rd_pick.f k bs p n = spec_l20Rd_pick.j0 k n ((bs.length : Int) == 0) bs (p + 1) := by
    intro k
    unfold spec_l20Rd_pick.f
    rw [if_neg (by omega), ep]
  by_cases hz : bs.length = 0
  · refine ⟨0, by omega, by omega, Ev.congr hf (Ev.step (fun k => ?_) (Ev.now _))⟩
    simp only [spec_l20Rd_pick.j0]
    rw [if_pos (by simp [hz])]
  · have hz2 : ((bs.length : Int) == 0) = false := by simpa using hz
    by_cases hp : p < (bs.length : Int)
    · have hr := hb.at_ p
      have ht := tmod_range hr.1 hn
      refine ⟨Int.tmod (rd bs p) n, ht.1, ht.2, Ev.congr hf (Ev.step (fun k => ?_) (Ev.now _))⟩
      simp only [spec_l20Rd_pick.j0, hz2, e1]
      rw [if_neg (by simp), if_pos hp, if_pos h0, if_neg (by omega), w64 (by omega) (by omega)]
    · have hl1 : (1 : Int) ≤ (bs.length : Int) := by omega
      have t1 := tmod_range h0 hl1
      have t2 := tmod_range (show 0 ≤ p * 7 + 3 by omega) hl1
      have t3 := tdiv_range h0 hl1
      have e7 : wrap64 (p * 7) = p * 7 := w64 (by omega) (by omega)
      have e73 : wrap64 (p * 7 + 3) = p * 7 + 3 := w64 (by omega) (by omega)
      have u1 := hb.at_ (Int.tmod p (bs.length : Int))
      have u2 := hb.at_ (Int.tmod (p * 7 + 3) (bs.length : Int))
      have key : ∀ k, spec_l20Rd_pick.j0 (k + 1) n ((bs.length : Int) == 0) bs (p + 1) = some (Int.tmod (Go.bits .xor .i64 (rd bs (Int.tmod p (bs.length : Int)) * 131 + rd bs (Int.tmod (p * 7 + 3) (bs.length : Int)) * 1117 + p * 29 + Int.tdiv p (bs.length : Int) * 53) (Int.tdiv (rd bs (Int.tmod p (bs.length : Int)) * 131 + rd bs (Int.tmod (p * 7 + 3) (bs.length : Int)) * 1117 + p * 29 + Int.tdiv p (bs.length : Int) * 53) 64)) n, p + 1) := by
        intro k
        simp only [spec_l20Rd_pick.j0, hz2, e1, e7, e73]
        rw [if_neg (by simp), if_neg hp, if_neg (by omega), if_pos t1.1, if_pos t1.2, if_pos t2.1, if_pos t2.2, if_neg (by omega)]
        generalize rd bs (Int.tmod p (bs.length : Int)) = u at *
        generalize rd bs (Int.tmod (p * 7 + 3) (bs.length : Int)) = v at *
        generalize Int.tdiv p (bs.length : Int) = q at *
        rw [w64 (n := u) (by omega) (by omega), w64 (n := v) (by omega) (by omega), w64 (n := u * 131) (by omega) (by omega), w64 (n := v * 1117) (by omega) (by omega), w64 (n := u * 131 + v * 1117) (by omega) (by omega), w64 (n := p * 29) (by omega) (by omega), w64 (n := u * 131 + v * 1117 + p * 29) (by omega) (by omega), w64 (n := q) (by omega) (by omega), w64 (n := q * 53) (by omega) (by omega), w64 (n := u * 131 + v * 1117 + p * 29 + q * 53) (by omega) (by omega)]
        have t4 := tdiv_range (show 0 ≤ u * 131 + v * 1117 + p * 29 + q * 53 by omega) (show (1 : Int) ≤ 64 by omega)
        rw [w64 (n := Int.tdiv (u * 131 + v * 1117 + p * 29 + q * 53) 64) (by omega) (by omega)]
      generalize rd bs (Int.tmod p (bs.length : Int)) = u at *
      generalize rd bs (Int.tmod (p * 7 + 3) (bs.length : Int)) = v at *
      generalize Int.tdiv p (bs.length : Int) = q at *
      have t4 := tdiv_range (show 0 ≤ u * 131 + v * 1117 + p * 29 + q * 53 by omega) (show (1 : Int) ≤ 64 by omega)
      have hx := xor_pos (a := u * 131 + v * 1117 + p * 29 + q * 53) (b := Int.tdiv (u * 131 + v * 1117 + p * 29 + q * 53) 64) (by omega) (by omega) (by omega) (by omega)
      have ht := tmod_range hx hn
      exact ⟨_, ht.1, ht.2, Ev.congr hf (Ev.step key (Ev.now _))⟩
theorem open_ev {l0 : List Int} (hb : Bytes l0) : ∃ bs, Bytes bs ∧ bs.length ≤ 2000 ∧ spec_l20Open.f l0 = some (bs, 0) := by
  unfold spec_l20Open.f
  by_cases h : (l0.length : Int) > 2000
  · exact ⟨l0.take 2000, hb.take _, by rw [List.length_take]; omega, by rw [if_pos h, if_pos (by omega)]⟩
  · exact ⟨l0, hb, by omega, by rw [if_neg h]⟩

theorem odd_ev {bs : List Int} (hb : Bytes bs) (hl : bs.length ≤ 2000) {p n : Int} (h0 : 0 ≤ p) (h1 : p ≤ 1000000) (hn : 1 ≤ n) : ∃ b : Bool, Ev (fun k => spec_l20Rd_odd.f k bs p n) (b, p + 1) := by
  obtain ⟨r, a1, b1, c1⟩ := pick_ev hb hl h0 h1 hn
  refine ⟨r == wrap64 (n - 1), ?_⟩
  unfold spec_l20Rd_odd.f
  exact Ev.ite_pos (by omega) (Ev.bind c1 (Ev.now _))
theorem deed_j1 {bs : List Int} (hb : Bytes bs) (hl : bs.length ≤ 2000) {p : Int} (h0 : 0 ≤ p) (h1 : p ≤ 900000) (a b c : Int) : ∃ b' q, p ≤ q ∧ q ≤ p + 2 ∧ Ev (fun k => spec_l20Deed.j1 k bs p a b c) (a, b', c, q) := by
  obtain ⟨o, ho⟩ := odd_ev hb hl h0 (by omega : p ≤ 1000000) (by omega : (1 : Int) ≤ 40)
  cases o with
  | true =>
    obtain ⟨r, a1, b1, c1⟩ := pick_ev hb hl (by omega : 0 ≤ p + 1) (by omega) (by omega : (1 : Int) ≤ 3)
    refine ⟨rd [-1, 25, 100] r, p + 1 + 1, by omega, by omega, Ev.step (f := fun k => (spec_l20Rd_odd.f k bs p 40).bind fun bt152 => (if bt152.1 = true then ((some (([(-1), 25, 100] : List Int) : List Int)).bind fun y154 => ((spec_l20Rd_pick.f k bs bt152.2 3).bind fun bt157 => (if 0 ≤ bt157.1 then (if bt157.1 < (y154.length : Int) then (some (a, rd y154 bt157.1, c, bt157.2)) else (none)) else (none)))) else (some (a, b, c, bt152.2)))) (fun k => ?_) (Ev.bind ho (Ev.ite_pos rfl (Ev.bindc rfl (Ev.bind c1 (Ev.ite_pos a1 (Ev.ite_pos (by simp; omega) (Ev.now _)))))))⟩
    simp only [spec_l20Deed.j1]
  | false =>
    refine ⟨b, p + 1, by omega, by omega, Ev.step (f := fun k => (spec_l20Rd_odd.f k bs p 40).bind fun bt152 => (if bt152.1 = true then ((some (([(-1), 25, 100] : List Int) : List Int)).bind fun y154 => ((spec_l20Rd_pick.f k bs bt152.2 3).bind fun bt157 => (if 0 ≤ bt157.1 then (if bt157.1 < (y154.length : Int) then (some (a, rd y154 bt157.1, c, bt157.2)) else (none)) else (none)))) else (some (a, b, c, bt152.2)))) (fun k => ?_) (Ev.bind ho (Ev.ite_neg (by simp) (Ev.now _)))⟩
    simp only [spec_l20Deed.j1]
theorem deed_j0 {bs : List Int} (hb : Bytes bs) (hl : bs.length ≤ 2000) {p : Int} (h0 : 0 ≤ p) (h1 : p ≤ 800000) (x : Int) (f : Bool) (a b c : Int) : ∃ b' c' q, p ≤ q ∧ q ≤ p + 5 ∧ Ev (fun k => spec_l20Deed.j0 k x f bs p a b c) (a, b', c', q) := by
  by_cases hf : f = true
  · obtain ⟨r, a1, b1, c1⟩ := pick_ev hb hl h0 (by omega) (by omega : (1 : Int) ≤ 9)
    obtain ⟨b', q, q1, q2, hj⟩ := deed_j1 hb hl (by omega : 0 ≤ p + 1) (by omega) a r c
    refine ⟨b', c, q, by omega, by omega, Ev.step (f := fun k => (spec_l20Rd_pick.f k bs p 9).bind fun bt140 => (spec_l20Deed.j1 k bs bt140.2 a bt140.1 c)) (fun k => ?_) (Ev.bind c1 hj)⟩
    simp only [spec_l20Deed.j0]
    rw [if_pos hf]
  · by_cases hx : x = 3
    · obtain ⟨r1, a1, b1, c1⟩ := pick_ev hb hl h0 (by omega) (by omega : (1 : Int) ≤ 24)
      obtain ⟨r2, a2, b2, c2⟩ := pick_ev hb hl (by omega : 0 ≤ p + 1) (by omega) (by omega : (1 : Int) ≤ 100)
      obtain ⟨r3, a3, b3, c3⟩ := pick_ev hb hl (by omega : 0 ≤ p + 1 + 1) (by omega) (by omega : (1 : Int) ≤ 4)
      obtain ⟨b', q, q1, q2, hj⟩ := deed_j1 hb hl (by omega : 0 ≤ p + 1 + 1 + 1) (by omega) a (wrap64 (1 + r1)) (rd [0, 1, r2, 9999] r3)
      refine ⟨b', rd [0, 1, r2, 9999] r3, q, by omega, by omega, Ev.step (f := fun k => (spec_l20Rd_pick.f k bs p 24).bind fun bt142 => ((spec_l20Rd_pick.f k bs bt142.2 100).bind fun bt144 => ((some (([0, 1, bt144.1, 9999] : List Int) : List Int)).bind fun y146 => ((spec_l20Rd_pick.f k bs bt144.2 4).bind fun bt149 => (if 0 ≤ bt149.1 then (if bt149.1 < (y146.length : Int) then (spec_l20Deed.j1 k bs bt149.2 a (wrap64 (1 + bt142.1)) (rd y146 bt149.1)) else (none)) else (none)))))) (fun k => ?_) (Ev.bind c1 (Ev.bind c2 (Ev.bindc rfl (Ev.bind c3 (Ev.ite_pos a3 (Ev.ite_pos (by simp; omega) hj))))))⟩
      simp only [spec_l20Deed.j0]
      rw [if_neg hf, if_pos hx]
    · obtain ⟨b', q, q1, q2, hj⟩ := deed_j1 hb hl h0 (by omega) a b c
      refine ⟨b', c, q, by omega, by omega, Ev.step (fun k => ?_) hj⟩
      simp only [spec_l20Deed.j0]
      rw [if_neg hf, if_neg hx]
theorem deed_ev {bs : List Int} (hb : Bytes bs) (hl : bs.length ≤ 2000) {p : Int} (h0 : 0 ≤ p) (h1 : p ≤ 700000) : ∃ a b c q, p ≤ q ∧ q ≤ p + 7 ∧ Ev (fun k => spec_l20Deed.f k bs p) (a, b, c, q) := by
  obtain ⟨r1, a1, b1, c1⟩ := pick_ev hb hl h0 (by omega) (by omega : (1 : Int) ≤ 7)
  obtain ⟨r2, a2, b2, c2⟩ := pick_ev hb hl (by omega : 0 ≤ p + 1) (by omega) (by omega : (1 : Int) ≤ 60)
  unfold spec_l20Deed.f
  by_cases hk : wrap64 (rd [0, 0, 1, 2, 3, 3, 4] r1 + wrap64 (wrap64 (Int.tdiv r2 59) * 5)) = 0
  · obtain ⟨b', c', q, q1, q2, hj⟩ := deed_j0 hb hl (by omega : 0 ≤ p + 1 + 1) (by omega) (wrap64 (rd [0, 0, 1, 2, 3, 3, 4] r1 + wrap64 (wrap64 (Int.tdiv r2 59) * 5))) (wrap64 (rd [0, 0, 1, 2, 3, 3, 4] r1 + wrap64 (wrap64 (Int.tdiv r2 59) * 5)) == 0) (wrap64 (rd [0, 0, 1, 2, 3, 3, 4] r1 + wrap64 (wrap64 (Int.tdiv r2 59) * 5))) 0 0
    exact ⟨_, b', c', q, by omega, by omega, Ev.bindc rfl (Ev.bind c1 (Ev.ite_pos a1 (Ev.ite_pos (by simp; omega) (Ev.bind c2 (Ev.ite_pos hk hj)))))⟩
  · obtain ⟨b', c', q, q1, q2, hj⟩ := deed_j0 hb hl (by omega : 0 ≤ p + 1 + 1) (by omega) (wrap64 (rd [0, 0, 1, 2, 3, 3, 4] r1 + wrap64 (wrap64 (Int.tdiv r2 59) * 5))) (wrap64 (rd [0, 0, 1, 2, 3, 3, 4] r1 + wrap64 (wrap64 (Int.tdiv r2 59) * 5)) == 1) (wrap64 (rd [0, 0, 1, 2, 3, 3, 4] r1 + wrap64 (wrap64 (Int.tdiv r2 59) * 5))) 0 0
    exact ⟨_, b', c', q, by omega, by omega, Ev.bindc rfl (Ev.bind c1 (Ev.ite_pos a1 (Ev.ite_pos (by simp; omega) (Ev.bind c2 (Ev.ite_neg hk hj)))))⟩

theorem numberOk_eq (a : Int) : impl_numberOk.f a = some (decide (1 ≤ a ∧ a ≤ 10000)) := by
  unfold impl_numberOk.f
  by_cases h : a ≥ 1
  · rw [if_pos h]; simp [h]
  · rw [if_neg h]; congr 1; symm; simp; intro h2; omega

theorem alive_eq : laws_alive.f = some true := by
  unfold laws_alive.f impl_DividesOk.f
  simp only [numberOk_eq]
  decide +kernel

theorem l1In_eq (a b c : Int) : spec_l1In.f a b c = some (decide (b ≤ a ∧ a ≤ c)) := by
  unfold spec_l1In.f
  by_cases h : a ≥ b
  · rw [if_pos h]; simp [h]
  · rw [if_neg h]; congr 1; symm; simp; intro h2; omega

theorem spec_number : ∀ (m n : Nat), n ≤ m → n ≤ 100000 → Ev (fun k => spec_l1Number.f k (n : Int)) (digB (n : Int)) := by
  intro m
  induction m with
  | zero =>
    intro n hn hb
    obtain rfl : n = 0 := by omega
    rw [digB_nat, Go.Lib.decDigits_one (by omega)]
    refine Ev.step (f := fun k => spec_l1Number.j0 k 0 false) (fun k => ?_) (Ev.step (f := fun _ => some (strOfNums [((48 + 0 : Nat) : Int) % 256])) (fun k => ?_) ?_)
    · simp only [spec_l1Number.f]; rfl
    · simp only [spec_l1Number.j0]; rw [if_neg (by simp), if_neg (by omega), if_pos (by omega), w64 (by omega) (by omega)]; rfl
    · rw [strOf_one]; exact Ev.now _
  | succ m ih =>
    intro n hn hb
    rw [digB_nat]
    refine Ev.step (f := fun k => spec_l1Number.j0 k (n : Int) false) (fun k => ?_) ?_
    · simp only [spec_l1Number.f]; rw [if_neg (by omega)]
    by_cases h : n < 10
    · rw [Go.Lib.decDigits_one h, ← strOf_one]
      refine Ev.step (f := fun k => some _) (fun k => ?_) (Ev.now _)
      simp only [spec_l1Number.j0]
      rw [if_neg (by simp), if_neg (by omega), if_pos (by omega), w64 (by omega) (by omega)]
      rfl
    · have h1 := ih (n / 10) (by omega) (by omega)
      have hsz := digB_size (n / 10) (by omega)
      refine Ev.step (f := fun k => (spec_l1Number.f k ((n / 10 : Nat) : Int)).bind fun t => if t.size + (strOfNums [((48 + n % 10 : Nat) : Int) % 256]).size ≤ 9223372036854775807 then some (t ++ strOfNums [((48 + n % 10 : Nat) : Int) % 256]) else none) (fun k => ?_) (Ev.bind h1 ?_)
      · simp only [spec_l1Number.j0]
        rw [if_neg (by simp), if_neg (by omega), if_neg (by omega), show (10 : Int) = ((10 : Nat) : Int) from rfl, tdiv_nat, tmod_nat, w64 (by omega) (by omega), w64 (by omega) (by omega)]
        rfl
      · rw [strOf_one]
        refine Ev.ite_pos ?_ ?_
        · have : (⟨[UInt8.ofNat (48 + n % 10)].toArray⟩ : ByteArray).size = 1 := rfl
          omega
        · rw [digB_nat, bytes_append]
          have e : Go.Lib.decDigits n = Go.Lib.decDigits (n / 10) ++ [UInt8.ofNat (48 + n % 10)] := by rw [Go.Lib.decDigits, dif_neg h]
          rw [e]
          exact Ev.now _

theorem spec_j2f (a x y : Int) : Ev (fun k => spec_DeedText.j2 k false a x y) (if a = 4 ∧ x = 0 ∧ y = 0 then tBack else tNone) := by
  refine Ev.step (f := fun _ => some (if a = 4 ∧ x = 0 ∧ y = 0 then tBack else tNone)) (fun k => ?_) (Ev.now _)
  simp only [spec_DeedText.j2]
  rw [if_neg (by simp)]
  by_cases h : a = 4 ∧ x = 0 ∧ y = 0
  · rw [if_pos (by simp [h]), if_pos h]; rfl
  · rw [if_neg (by simpa using h), if_neg h]; rfl
theorem spec_j2t (a x y : Int) (h : 0 ≤ x ∧ x ≤ 99 ∧ 0 ≤ y ∧ y ≤ 9999) : Ev (fun k => spec_DeedText.j2 k true a x y) (((tSet ++ digB x) ++ tSp) ++ digB y) := by
  obtain ⟨h1, h2, h4, h5⟩ := h
  obtain ⟨n, rfl⟩ : ∃ n : Nat, x = n := ⟨x.toNat, by omega⟩
  obtain ⟨m, rfl⟩ : ∃ m : Nat, y = m := ⟨y.toNat, by omega⟩
  have s1 := digB_size n (by omega)
  have s2 := digB_size m (by omega)
  refine Ev.step (f := fun k => (spec_l1Number.f k (n : Int)).bind fun t116 => (if 4 + t116.size ≤ 9223372036854775807 then (if (tSet ++ t116).size + 1 ≤ 9223372036854775807 then ((spec_l1Number.f k (m : Int)).bind fun t117 => (if ((tSet ++ t116) ++ tSp).size + t117.size ≤ 9223372036854775807 then (some (((tSet ++ t116) ++ tSp) ++ t117)) else (none))) else (none)) else (none))) (fun k => ?_) ?_
  · simp only [spec_DeedText.j2, if_true]; rfl
  · refine Ev.bind (spec_number n n (Nat.le_refl _) (by omega)) (Ev.ite_pos (by omega) (Ev.ite_pos ?_ (Ev.bind (spec_number m m (Nat.le_refl _) (by omega)) (Ev.ite_pos ?_ (Ev.now _)))))
    · rw [ByteArray.size_append, show tSet.size = 4 from rfl]; omega
    · rw [ByteArray.size_append, ByteArray.size_append, show tSet.size = 4 from rfl, show tSp.size = 1 from rfl]; omega
/-- What comes behind times and unitary. -/
theorem spec_rest (a x y : Int) (h0 : ¬ (a = 0 ∧ 0 ≤ x ∧ x ≤ 9 ∧ y = 0)) (h1 : ¬ (a = 1 ∧ 0 ≤ x ∧ x ≤ 9 ∧ y = 0)) : Ev (fun k => spec_DeedText.j1 k false a x y) (dText a x y) := by
  by_cases hi : a = 2 ∧ x = 0 ∧ y = 0
  · obtain ⟨rfl, rfl, rfl⟩ := hi
    refine Ev.step (f := fun _ => some tInv) (fun k => ?_) (Ev.now _)
    simp only [spec_DeedText.j1]; rfl
  · have hi2 : ¬ (a == 2 && (x == 0 && y == 0)) = true := by simpa using hi
    by_cases h3 : a = 3
    · subst h3
      by_cases c : 0 ≤ x ∧ x ≤ 99 ∧ 0 ≤ y ∧ y ≤ 9999
      · have e : dText 3 x y = ((tSet ++ digB x) ++ tSp) ++ digB y := by unfold dText; rw [if_pos ⟨rfl, c⟩]
        rw [e]
        refine Ev.step (f := fun k => spec_DeedText.j2 k true 3 x y) (fun k => ?_) (spec_j2t 3 x y c)
        simp only [spec_DeedText.j1]
        rw [if_neg (by simp), if_neg hi2, if_pos trivial, l1In_eq, Option.bind_some, l1In_eq, if_pos (by simp [c]), Option.bind_some]
        congr 1
        simp [c]
      · have e : dText 3 x y = (if (3 : Int) = 4 ∧ x = 0 ∧ y = 0 then tBack else tNone) := by
          unfold dText
          rw [if_neg (fun z => c z.2)]
          by_cases hh : y = 0 ∧ 0 ≤ x ∧ x ≤ 9
          · rw [if_neg (by simpa using hh), if_neg (by omega), if_neg (by omega), if_neg (by omega), if_neg (by omega), if_neg (by omega)]
          · rw [if_pos hh, if_neg (by omega)]
        rw [e]
        refine Ev.step (f := fun k => spec_DeedText.j2 k false 3 x y) (fun k => ?_) (spec_j2f 3 x y)
        simp only [spec_DeedText.j1]
        rw [if_neg (by simp), if_neg hi2, if_pos trivial, l1In_eq, Option.bind_some, l1In_eq]
        by_cases c1 : 0 ≤ x ∧ x ≤ 99
        · rw [if_pos (by simpa using c1), Option.bind_some]
          congr 1
          exact decide_eq_false (fun z => c ⟨c1.1, c1.2, z.1, z.2⟩)
        · rw [if_neg (by simpa using c1)]
    · have e : dText a x y = (if a = 4 ∧ x = 0 ∧ y = 0 then tBack else tNone) := by
        unfold dText
        rw [if_neg (fun z => h3 z.1)]
        by_cases hh : y = 0 ∧ 0 ≤ x ∧ x ≤ 9
        · rw [if_neg (by simpa using hh), if_neg (fun z => h0 ⟨z, hh.2.1, hh.2.2, hh.1⟩), if_neg (fun z => h1 ⟨z, hh.2.1, hh.2.2, hh.1⟩), if_neg (fun z => hi ⟨z.2, z.1, hh.1⟩)]
          by_cases h4 : a = 4 ∧ x = 0 ∧ y = 0
          · rw [if_pos h4, if_pos ⟨h4.2.1, h4.1⟩]
          · rw [if_neg h4, if_neg (fun z => h4 ⟨z.2, z.1, hh.1⟩)]
        · rw [if_pos hh, if_neg (fun z => hh ⟨z.2.2, by omega, by omega⟩)]
      rw [e]
      refine Ev.step (f := fun k => spec_DeedText.j2 k false a x y) (fun k => ?_) (spec_j2f a x y)
      simp only [spec_DeedText.j1]
      rw [if_neg (by simp), if_neg hi2, if_neg h3]
theorem spec_j1 (b : Bool) (a x y : Int) (hb : b = decide (a = 1 ∧ 0 ≤ x ∧ x ≤ 9 ∧ y = 0)) (h0 : ¬ (a = 0 ∧ 0 ≤ x ∧ x ≤ 9 ∧ y = 0)) : Ev (fun k => spec_DeedText.j1 k b a x y) (dText a x y) := by
  cases b with
  | true =>
    obtain ⟨rfl, h1, h2, rfl⟩ := of_decide_eq_true hb.symm
    obtain ⟨n, rfl⟩ : ∃ n : Nat, x = n := ⟨x.toNat, by omega⟩
    have s1 := digB_size n (by omega)
    have e : dText 1 (n : Int) 0 = tUnit ++ digB (n : Int) := by
      unfold dText; rw [if_neg (by omega), if_neg (by omega), if_neg (by omega), if_pos rfl]
    rw [e]
    refine Ev.step (f := fun k => (spec_l1Number.f k (n : Int)).bind fun t => if 8 + t.size ≤ 9223372036854775807 then some (tUnit ++ t) else none) (fun k => ?_) (Ev.bind (spec_number n n (Nat.le_refl _) (by omega)) (Ev.ite_pos (by omega) (Ev.now _)))
    simp only [spec_DeedText.j1, if_true]; rfl
  | false => exact spec_rest a x y h0 (of_decide_eq_false hb.symm)
theorem spec_j0 (b : Bool) (a x y : Int) (hb : b = decide (a = 0 ∧ 0 ≤ x ∧ x ≤ 9 ∧ y = 0)) : Ev (fun k => spec_DeedText.j0 k b a x y) (dText a x y) := by
  cases b with
  | true =>
    obtain ⟨rfl, h1, h2, rfl⟩ := of_decide_eq_true hb.symm
    obtain ⟨n, rfl⟩ : ∃ n : Nat, x = n := ⟨x.toNat, by omega⟩
    have s1 := digB_size n (by omega)
    have e : dText 0 (n : Int) 0 = tTimes ++ digB (n : Int) := by
      unfold dText; rw [if_neg (by omega), if_neg (by omega), if_pos rfl]
    rw [e]
    refine Ev.step (f := fun k => (spec_l1Number.f k (n : Int)).bind fun t => if 6 + t.size ≤ 9223372036854775807 then some (tTimes ++ t) else none) (fun k => ?_) (Ev.bind (spec_number n n (Nat.le_refl _) (by omega)) (Ev.ite_pos (by omega) (Ev.now _)))
    simp only [spec_DeedText.j0, if_true]; rfl
  | false =>
    refine Ev.step (f := fun k => spec_DeedText.j1 k (decide (a = 1 ∧ 0 ≤ x ∧ x ≤ 9 ∧ y = 0)) a x y) (fun k => ?_) (spec_j1 _ a x y rfl (of_decide_eq_false hb.symm))
    simp only [spec_DeedText.j0]
    rw [if_neg (by simp)]
    by_cases h1 : a = 1
    · rw [if_pos h1, l1In_eq, Option.bind_some]
      by_cases h2 : 0 ≤ x ∧ x ≤ 9
      · rw [if_pos (by simpa using h2)]; congr 1
        by_cases h3 : y = 0 <;> simp [h1, h2, h3]
      · rw [if_neg (by simpa using h2)]; congr 1
        exact (decide_eq_false (fun z => h2 ⟨z.2.1, z.2.2.1⟩)).symm
    · rw [if_neg h1]; congr 1
      exact (decide_eq_false (fun z => h1 z.1)).symm
theorem spec_deedText (a x y : Int) : Ev (fun k => spec_DeedText.f k a x y) (dText a x y) := by
  refine Ev.congr (f := fun k => spec_DeedText.j0 k (decide (a = 0 ∧ 0 ≤ x ∧ x ≤ 9 ∧ y = 0)) a x y) (fun k => ?_) (spec_j0 _ a x y rfl)
  unfold spec_DeedText.f
  by_cases h1 : a = 0
  · rw [if_pos h1, l1In_eq, Option.bind_some]
    by_cases h2 : 0 ≤ x ∧ x ≤ 9
    · rw [if_pos (by simpa using h2)]; congr 1
      by_cases h3 : y = 0 <;> simp [h1, h2, h3]
    · rw [if_neg (by simpa using h2)]; congr 1
      exact (decide_eq_false (fun z => h2 ⟨z.2.1, z.2.2.1⟩)).symm
  · rw [if_neg h1]; congr 1
    exact (decide_eq_false (fun z => h1 z.1)).symm

theorem itoa_eq (n : Int) (h0 : 0 ≤ n) (h1 : n ≤ 100000) : strconv_Itoa.f n = some (digB n) := by
  unfold strconv_Itoa.f; rw [if_pos (by omega), if_pos (by omega)]; rfl
theorem impl_j1 (b : Bool) (a x y : Int) (hb : b = decide (¬ (y = 0 ∧ 0 ≤ x ∧ x ≤ 9))) (h3 : ¬ (a = 3 ∧ 0 ≤ x ∧ x ≤ 99 ∧ 0 ≤ y ∧ y ≤ 9999)) : Ev (fun k => impl_DeedText.j1 k b a x y) (dText a x y) := by
  cases b with
  | true =>
    have hb := of_decide_eq_true hb.symm
    refine Ev.step (f := fun _ => some (dText a x y)) (fun k => ?_) (Ev.now _)
    simp only [impl_DeedText.j1]
    unfold dText
    rw [if_pos trivial, if_neg h3, if_pos hb]; rfl
  | false =>
    have hb : y = 0 ∧ 0 ≤ x ∧ x ≤ 9 := Decidable.not_not.1 (of_decide_eq_false hb.symm)
    obtain ⟨rfl, h1, h2⟩ := hb
    obtain ⟨n, rfl⟩ : ∃ n : Nat, x = n := ⟨x.toNat, by omega⟩
    have s1 := digB_size n (by omega)
    have e : dText a (n : Int) 0 = (if a = 0 then tTimes ++ digB (n : Int) else if a = 1 then tUnit ++ digB (n : Int) else if (n : Int) = 0 ∧ a = 2 then tInv else if (n : Int) = 0 ∧ a = 4 then tBack else tNone) := by
      unfold dText; rw [if_neg h3, if_neg (by omega)]
    rw [e]
    refine Ev.step (f := fun _ => some (if a = 0 then tTimes ++ digB (n : Int) else if a = 1 then tUnit ++ digB (n : Int) else if (n : Int) = 0 ∧ a = 2 then tInv else if (n : Int) = 0 ∧ a = 4 then tBack else tNone)) (fun k => ?_) (Ev.now _)
    simp only [impl_DeedText.j1]
    rw [if_neg (by simp), itoa_eq _ (by omega) (by omega)]
    simp only [Option.bind_some]
    by_cases c0 : a = 0
    · rw [if_pos c0, if_pos c0, if_pos (by omega)]; rfl
    · rw [if_neg c0, if_neg c0]
      by_cases c1 : a = 1
      · rw [if_pos c1, if_pos c1, if_pos (by omega)]; rfl
      · rw [if_neg c1, if_neg c1]
        by_cases cx : (n : Int) = 0
        · simp only [cx, if_true, true_and]
          by_cases c2 : a = 2
          · simp only [if_pos c2]; rfl
          · simp only [if_neg c2]
            by_cases c4 : a = 4
            · simp only [if_pos c4]; rfl
            · simp only [if_neg c4]; rfl
        · simp only [cx, if_false, false_and]; rfl
theorem impl_j0f (a x y : Int) (h3 : ¬ (a = 3 ∧ 0 ≤ x ∧ x ≤ 99 ∧ 0 ≤ y ∧ y ≤ 9999)) : Ev (fun k => impl_DeedText.j0 k false a x y) (dText a x y) := by
  refine Ev.step (f := fun k => impl_DeedText.j1 k (decide (¬ (y = 0 ∧ 0 ≤ x ∧ x ≤ 9))) a x y) (fun k => ?_) (impl_j1 _ a x y rfl h3)
  simp only [impl_DeedText.j0]
  rw [if_neg (by simp)]
  by_cases hy : y = 0
  · rw [if_pos hy]
    by_cases hx : x < 0
    · rw [if_pos hx]; congr 1
      exact (decide_eq_true (show ¬ (y = 0 ∧ 0 ≤ x ∧ x ≤ 9) from fun z => by omega)).symm
    · rw [if_neg hx]; congr 1
      by_cases h9 : x > 9
      · rw [decide_eq_true h9]; exact (decide_eq_true (show ¬ (y = 0 ∧ 0 ≤ x ∧ x ≤ 9) from fun z => by omega)).symm
      · rw [decide_eq_false h9]; exact (decide_eq_false (show ¬ ¬ (y = 0 ∧ 0 ≤ x ∧ x ≤ 9) from fun z => z ⟨hy, by omega, by omega⟩)).symm
  · rw [if_neg hy]; congr 1
    exact (decide_eq_true (show ¬ (y = 0 ∧ 0 ≤ x ∧ x ≤ 9) from fun z => hy z.1)).symm
theorem impl_deedText (a x y : Int) : Ev (fun k => impl_DeedText.f k a x y) (dText a x y) := by
  unfold impl_DeedText.f
  by_cases h3 : a = 3
  · simp only [if_pos h3]
    by_cases hx : x ≥ 0
    · simp only [if_pos hx]
      by_cases hx2 : x ≤ 99
      · simp only [if_pos hx2]
        by_cases hy : y ≥ 0
        · simp only [if_pos hy]
          by_cases hy2 : y ≤ 9999
          · simp only [decide_eq_true hy2]
            obtain ⟨n, rfl⟩ : ∃ n : Nat, x = n := ⟨x.toNat, by omega⟩
            obtain ⟨m, rfl⟩ : ∃ m : Nat, y = m := ⟨y.toNat, by omega⟩
            have s1 := digB_size n (by omega)
            have s2 := digB_size m (by omega)
            have e : dText a (n : Int) (m : Int) = ((tSet ++ digB (n : Int)) ++ tSp) ++ digB (m : Int) := by unfold dText; rw [if_pos ⟨h3, hx, hx2, hy, hy2⟩]
            rw [e]
            refine Ev.step (f := fun _ => some _) (fun k => ?_) (Ev.now _)
            simp only [impl_DeedText.j0]
            rw [if_pos trivial, itoa_eq _ (by omega) (by omega), Option.bind_some, if_pos (by omega), if_pos, itoa_eq _ (by omega) (by omega), Option.bind_some, if_pos]
            · rfl
            · show ((tSet ++ digB (n : Int)) ++ tSp).size + _ ≤ _
              rw [ByteArray.size_append, ByteArray.size_append, show tSet.size = 4 from rfl, show tSp.size = 1 from rfl]; omega
            · show (tSet ++ digB (n : Int)).size + _ ≤ _
              rw [ByteArray.size_append, show tSet.size = 4 from rfl]; omega
          · simp only [decide_eq_false hy2]
            exact impl_j0f a x y (fun z => hy2 z.2.2.2.2)
        · simp only [if_neg hy]; exact impl_j0f a x y (fun z => hy z.2.2.2.1)
      · simp only [if_neg hx2]; exact impl_j0f a x y (fun z => hx2 z.2.2.1)
    · simp only [if_neg hx]; exact impl_j0f a x y (fun z => hx z.2.1)
  · simp only [if_neg h3]; exact impl_j0f a x y (fun z => h3 z.1)

def kfrom (w : ByteArray) : List ByteArray → Int → Int
  | [], _ => -1
  | x :: r, i => if w.toList = x.toList then i else kfrom w r (i + 1)
theorem idxL (l : List ByteArray) (w : ByteArray) (hl : l.length ≤ 1000) : ∀ (r : List ByteArray) (i : Nat), l.drop i = r → Ev (fun k => slices_Index_string_string.l0 k l w (l.length : Int) (i : Int)) (kfrom w r (i : Int)) := by
  intro r
  induction r with
  | nil =>
    intro i h
    have : l.length ≤ i := List.drop_eq_nil_iff.1 h
    refine Ev.step (f := fun _ => some (-1)) (fun k => ?_) (Ev.now _)
    simp only [slices_Index_string_string.l0]
    rw [if_neg (by omega)]
  | cons x r ih =>
    intro i h
    obtain ⟨h1, h2, h3⟩ := drop_at h
    have hx : rdOf ByteArray.empty l (i : Int) = x := by unfold rdOf; simp [List.getD, h2]
    by_cases he : w.toList = x.toList
    · rw [kfrom, if_pos he]
      refine Ev.step (f := fun _ => some (i : Int)) (fun k => ?_) (Ev.now _)
      simp only [slices_Index_string_string.l0]
      rw [if_pos (by omega), if_pos (by omega), if_pos (by omega), hx, if_pos he]
    · rw [kfrom, if_neg he]
      refine Ev.step (fun k => ?_) (ih (i + 1) h3)
      simp only [slices_Index_string_string.l0]
      rw [if_pos (by omega), if_pos (by omega), if_pos (by omega), hx, if_neg he, w64 (by omega) (by omega)]
      rfl
theorem idx_ev (w : ByteArray) : Ev (fun k => slices_Index_string_string.f k n5 w) (kidx w) := by
  unfold slices_Index_string_string.f
  have h := idxL n5 w (by decide) n5 0 rfl
  have e : kfrom w n5 ((0 : Nat) : Int) = kidx w := by unfold kidx n5; simp [kfrom]
  rw [e] at h
  exact h
theorem wordsB_pos (s : ByteArray) : 0 < (wordsB s).length := by
  obtain ⟨w, ws, e⟩ := wordsL_ne 32 s.data.toList
  unfold wordsB; rw [e]; simp
theorem wordsB_size {s w : ByteArray} (h : w ∈ wordsB s) : w.size ≤ s.size := by
  unfold wordsB at h
  obtain ⟨l, hl, rfl⟩ := List.mem_map.1 h
  rw [bw_size, size_data]
  exact wordsL_len 32 _ l hl
theorem rdOf_size {s : ByteArray} (i : Nat) : (rdOf ByteArray.empty (wordsB s) (i : Int)).size ≤ s.size := by
  unfold rdOf
  have e : ((i : Int)).toNat = i := by omega
  rw [e]
  by_cases h : i < (wordsB s).length
  · rw [List.getD_eq_getElem?_getD, List.getElem?_eq_getElem h]
    exact wordsB_size (List.getElem_mem h)
  · rw [List.getD_eq_getElem?_getD, List.getElem?_eq_none (by omega)]
    exact Nat.zero_le _
theorem atoi_eq (s : ByteArray) (h : s.size ≤ 281474976710656) : strconv_Atoi.f s = some (aval s, false) := by
  unfold strconv_Atoi.f; rw [if_pos h]; rfl
theorem rdT_ev {g : Nat → Option ByteArray} {s : ByteArray} {a b c : Int} (h : Ev g (dText a b c)) : Ev (fun k => (g k).bind fun t => if t.toList = s.toList then some (a, b, c, true) else some (0, 0, 0, false)) (rdT s a b c) := by
  unfold rdT
  by_cases hq : (dText a b c).toList = s.toList
  · rw [if_pos hq]; exact Ev.bind h (Ev.ite_pos hq (Ev.now _))
  · rw [if_neg hq]; exact Ev.bind h (Ev.ite_neg hq (Ev.now _))
theorem impl_rj1 (s : ByteArray) (hs : s.size < 4294967281) (a b : Int) : Ev (fun k => impl_ReadDeed.j1 k s (wordsB s) a b 0) (rdT s a b (rdC (wordsB s))) := by
  unfold rdC
  by_cases h : ((wordsB s).length : Int) > 2
  · rw [if_pos h]
    refine Ev.step (f := fun k => (impl_DeedText.f k a b (aval (rdOf ByteArray.empty (wordsB s) 2))).bind fun t => if t.toList = s.toList then some (a, b, aval (rdOf ByteArray.empty (wordsB s) 2), true) else some (0, 0, 0, false)) (fun k => ?_) (rdT_ev (impl_deedText _ _ _))
    have : (rdOf ByteArray.empty (wordsB s) 2).size ≤ s.size := rdOf_size (s := s) 2
    simp only [impl_ReadDeed.j1]
    rw [if_pos h, if_pos (by omega), atoi_eq _ (Nat.le_trans this (by omega)), Option.bind_some]
  · rw [if_neg h]
    refine Ev.step (f := fun k => (impl_DeedText.f k a b 0).bind fun t => if t.toList = s.toList then some (a, b, 0, true) else some (0, 0, 0, false)) (fun k => ?_) (rdT_ev (impl_deedText _ _ _))
    simp only [impl_ReadDeed.j1]
    rw [if_neg h]
theorem rd5 {i : Int} (h0 : 0 ≤ i) (h4 : i ≤ 4) : rd ([0, 1, 2, 3, 4] : List Int) i = i := by
  have : i = 0 ∨ i = 1 ∨ i = 2 ∨ i = 3 ∨ i = 4 := by omega
  rcases this with rfl | rfl | rfl | rfl | rfl <;> rfl
theorem impl_readDeed (s : ByteArray) (hs : s.size < 4294967281) : Ev (fun k => impl_ReadDeed.f k s) (rdVal s) := by
  unfold impl_ReadDeed.f
  have hp := wordsB_pos s
  have hsplit : strings_Split.f s (⟨#[32]⟩ : ByteArray) = some (wordsB s) := by
    unfold strings_Split.f
    rw [if_pos hs, if_pos (by decide)]
    exact congrArg some (splitB_words 32 s)
  refine Ev.bindc hsplit (Ev.ite_pos (by omega) (Ev.bind (idx_ev _) ?_))
  obtain ⟨k0, k4⟩ := kidx_range (rdOf ByteArray.empty (wordsB s) 0)
  have hno : ∀ x5, Ev (fun k => impl_ReadDeed.j0 k s (wordsB s) x5 true) no4 := fun x5 => by
    refine Ev.step (f := fun _ => some no4) (fun k => ?_) (Ev.now _)
    simp only [impl_ReadDeed.j0]
    rw [if_pos trivial]; rfl
  unfold rdVal rdW
  by_cases h1 : kidx (rdOf ByteArray.empty (wordsB s) 0) < 0
  · rw [if_pos h1]
    exact Ev.ite_pos h1 (hno _)
  · rw [if_neg h1]
    refine Ev.ite_neg h1 ?_
    by_cases h2 : ((wordsB s).length : Int) > 3
    · rw [if_pos h2]
      simp only [decide_eq_true h2]
      exact hno _
    · rw [if_neg h2]
      simp only [decide_eq_false h2]
      have hj := impl_rj1 s hs (kidx (rdOf ByteArray.empty (wordsB s) 0)) (rdB (wordsB s))
      refine Ev.step (fun k => ?_) hj
      simp only [impl_ReadDeed.j0, Option.bind_some]
      rw [if_neg (by simp), if_pos (by omega), if_pos (by simp; omega), rd5 (by omega) k4]
      unfold rdB
      by_cases h3 : ((wordsB s).length : Int) > 1
      · have : (rdOf ByteArray.empty (wordsB s) 1).size ≤ s.size := rdOf_size (s := s) 1
        rw [if_pos h3, if_pos (by omega), atoi_eq _ (Nat.le_trans this (by omega)), if_pos h3]
        rfl
      · rw [if_neg h3, if_neg h3]

theorem FnDeedText : laws_FnDeedText.Pure := by
  intro l0 _ _ hw
  refine Ev.rounds ?_
  unfold laws_FnDeedText.f
  by_cases hl : (l0.length : Int) > 1048576
  · exact Ev.ite_pos hl (Ev.now _)
  refine Ev.ite_neg hl ?_
  obtain ⟨bs, h1, h2, h3⟩ := open_ev (Bytes.of hw)
  obtain ⟨a, b, c, q, _, _, hd⟩ := deed_ev h1 h2 (p := 0) (by omega) (by omega)
  have hD : Ev (fun k => spec_DrawDeedText.f k l0) (a, b, c) := by
    unfold spec_DrawDeedText.f
    exact Ev.bindc h3 (Ev.bind hd (Ev.now _))
  refine Ev.bind hD (Ev.bind (impl_deedText a b c) (Ev.bind (spec_deedText a b c) (Ev.ite_pos rfl ?_)))
  by_cases h0 : (dText a b c).toList = ([] : List UInt8)
  · exact Ev.ite_pos h0 (Ev.bindc alive_eq (Ev.now _))
  · have hs : (dText a b c).size ≠ 0 := fun hz => h0 (toList_nil.2 hz)
    have hr := impl_readDeed (dText a b c) (Nat.lt_of_le_of_lt (dText_size a b c) (by decide))
    rw [rd_complete (s := dText a b c) rfl hs] at hr
    refine Ev.ite_neg h0 (Ev.bind hr (Ev.ite_pos rfl ?_))
    simp only [beq_self_eq_true, Bool.and_self]
    exact Ev.now _

end Go.Proofs.YtmgjidgfhlclmaaDoor.Pure
