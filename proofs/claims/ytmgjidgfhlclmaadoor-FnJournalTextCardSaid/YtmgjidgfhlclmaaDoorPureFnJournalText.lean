/-
  The text of drawn deeds is read as those deeds, whole; the program and the reference write the same text.
-/
import Derived.Test.YtmgjidgfhlclmaaDoorPFnJournalTextx9
import Derived.Test.YtmgjidgfhlclmaaDoorLib
import Derived.Test.YtmgjidgfhlclmaaDoorLibDraw
import Derived.Test.YtmgjidgfhlclmaaDoorLibTxt
import Derived.Test.YtmgjidgfhlclmaaDoorLibRd
namespace Go.Proofs.YtmgjidgfhlclmaaDoor.Pure
open Go.RowKit Go.Proofs.YtmgjidgfhlclmaaDoor.PFnJournalText Go.Proofs.YtmgjidgfhlclmaaDoorW.PrintWords Go.Proofs.YtmgjidgfhlclmaaDoorW.PrintLast Go.Proofs.YtmgjidgfhlclmaaDoorW.PrintMore Go.Proofs.YtmgjidgfhlclmaaDoor.Lib
set_option linter.unusedVariables false
set_option linter.unusedSimpArgs false

theorem pick_ev {bs : List Int} (hb : Bytes bs) (hl : bs.length ≤ 2000) {p n : Int} (h0 : 0 ≤ p) (h1 : p ≤ 1000000) (hn : 1 ≤ n) :
    ∃ r, 0 ≤ r ∧ r < n ∧ Ev (fun k => spec_l20Rd_pick.f k bs p n) (r, p + 1) := by
  have ep : wrap64 (p + 1) = p + 1 := w64 (by omega) (by omega)
  have e1 : wrap64 (p + 1 - 1) = p := by rw [w64 (by omega) (by omega)]; omega
  have hf : ∀ k, spec_l20Rd_pick.f k bs p n = spec_l20Rd_pick.j0 k n ((bs.length : Int) == 0) bs (p + 1) := by
    intro k
    unfold spec_l20Rd_pick.f
    rw [if_neg (by omega), ep]
  by_cases hz : bs.length = 0
  · refine ⟨0, by omega, by omega, Ev.congr hf (Ev.step (fun k => ?_) (Ev.now _))⟩
    simp only [spec_l20Rd_pick.j0]
    rw [if_pos (by simp [hz])]
  · have hz2 : ((bs.length : Int) == 0) = false := by simpa using hz
    by_cases hp : p < (bs.length : Int)
    · have hr := hb.at_ p
      have ht := tmod_range hr.1 hn
      refine ⟨Int.tmod (rd bs p) n, ht.1, ht.2, Ev.congr hf (Ev.step (fun k => ?_) (Ev.now _))⟩
      simp only [spec_l20Rd_pick.j0, hz2, e1]
      rw [if_neg (by simp), if_pos hp, if_pos h0, if_neg (by omega), w64 (by omega) (by omega)]
    · have hl1 : (1 : Int) ≤ (bs.length : Int) := by omega
      have t1 := tmod_range h0 hl1
      have t2 := tmod_range (show 0 ≤ p * 7 + 3 by omega) hl1
      have t3 := tdiv_range h0 hl1
      have e7 : wrap64 (p * 7) = p * 7 := w64 (by omega) (by omega)
      have e73 : wrap64 (p * 7 + 3) = p * 7 + 3 := w64 (by omega) (by omega)
      have u1 := hb.at_ (Int.tmod p (bs.length : Int))
      have u2 := hb.at_ (Int.tmod (p * 7 + 3) (bs.length : Int))
      have key : ∀ k, spec_l20Rd_pick.j0 (k + 1) n ((bs.length : Int) == 0) bs (p + 1) = some (Int.tmod (Go.bits .xor .i64 (rd bs (Int.tmod p (bs.length : Int)) * 131 + rd bs (Int.tmod (p * 7 + 3) (bs.length : Int)) * 1117 + p * 29 + Int.tdiv p (bs.length : Int) * 53) (Int.tdiv (rd bs (Int.tmod p (bs.length : Int)) * 131 + rd bs (Int.tmod (p * 7 + 3) (bs.length : Int)) * 1117 + p * 29 + Int.tdiv p (bs.length : Int) * 53) 64)) n, p + 1) := by
        intro k
        simp only [spec_l20Rd_pick.j0, hz2, e1, e7, e73]
        rw [if_neg (by simp), if_neg hp, if_neg (by omega), if_pos t1.1, if_pos t1.2, if_pos t2.1, if_pos t2.2, if_neg (by omega)]
        generalize rd bs (Int.tmod p (bs.length : Int)) = u at *
        generalize rd bs (Int.tmod (p * 7 + 3) (bs.length : Int)) = v at *
        generalize Int.tdiv p (bs.length : Int) = q at *
        rw [w64 (n := u) (by omega) (by omega), w64 (n := v) (by omega) (by omega), w64 (n := u * 131) (by omega) (by omega), w64 (n := v * 1117) (by omega) (by omega), w64 (n := u * 131 + v * 1117) (by omega) (by omega), w64 (n := p * 29) (by omega) (by omega), w64 (n := u * 131 + v * 1117 + p * 29) (by omega) (by omega), w64 (n := q) (by omega) (by omega), w64 (n := q * 53) (by omega) (by omega), w64 (n := u * 131 + v * 1117 + p * 29 + q * 53) (by omega) (by omega)]
        have t4 := tdiv_range (show 0 ≤ u * 131 + v * 1117 + p * 29 + q * 53 by omega) (show (1 : Int) ≤ 64 by omega)
        rw [w64 (n := Int.tdiv (u * 131 + v * 1117 + p * 29 + q * 53) 64) (by omega) (by omega)]
      generalize rd bs (Int.tmod p (bs.length : Int)) = u at *
      generalize rd bs (Int.tmod (p * 7 + 3) (bs.length : Int)) = v at *
      generalize Int.tdiv p (bs.length : Int) = q at *
      have t4 := tdiv_range (show 0 ≤ u * 131 + v * 1117 + p * 29 + q * 53 by omega) (show (1 : Int) ≤ 64 by omega)
      have hx := xor_pos (a := u * 131 + v * 1117 + p * 29 + q * 53) (b := Int.tdiv (u * 131 + v * 1117 + p * 29 + q * 53) 64) (by omega) (by omega) (by omega) (by omega)
      have ht := tmod_range hx hn
      exact ⟨_, ht.1, ht.2, Ev.congr hf (Ev.step key (Ev.now _))⟩
theorem open_ev {l0 : List Int} (hb : Bytes l0) : ∃ bs, Bytes bs ∧ bs.length ≤ 2000 ∧ spec_l20Open.f l0 = some (bs, 0) := by
  unfold spec_l20Open.f
  by_cases h : (l0.length : Int) > 2000
  · exact ⟨l0.take 2000, hb.take _, by rw [List.length_take]; omega, by rw [if_pos h, if_pos (by omega)]⟩
  · exact ⟨l0, hb, by omega, by rw [if_neg h]⟩

theorem odd_ev {bs : List Int} (hb : Bytes bs) (hl : bs.length ≤ 2000) {p n : Int} (h0 : 0 ≤ p) (h1 : p ≤ 1000000) (hn : 1 ≤ n) : ∃ b : Bool, Ev (fun k => spec_l20Rd_odd.f k bs p n) (b, p + 1) := by
  obtain ⟨r, a1, b1, c1⟩ := pick_ev hb hl h0 h1 hn
  refine ⟨r == wrap64 (n - 1), ?_⟩
  unfold spec_l20Rd_odd.f
  exact Ev.ite_pos (by omega) (Ev.bind c1 (Ev.now _))
theorem deed_j1 {bs : List Int} (hb : Bytes bs) (hl : bs.length ≤ 2000) {p : Int} (h0 : 0 ≤ p) (h1 : p ≤ 900000) (a b c : Int) : ∃ b' q, p ≤ q ∧ q ≤ p + 2 ∧ Ev (fun k => spec_l20Deed.j1 k bs p a b c) (a, b', c, q) := by
  obtain ⟨o, ho⟩ := odd_ev hb hl h0 (by omega : p ≤ 1000000) (by omega : (1 : Int) ≤ 40)
  cases o with
  | true =>
    obtain ⟨r, a1, b1, c1⟩ := pick_ev hb hl (by omega : 0 ≤ p + 1) (by omega) (by omega : (1 : Int) ≤ 3)
    refine ⟨rd [-1, 25, 100] r, p + 1 + 1, by omega, by omega, Ev.step (f := fun k => (spec_l20Rd_odd.f k bs p 40).bind fun bt152 => (if bt152.1 = true then ((some (([(-1), 25, 100] : List Int) : List Int)).bind fun y154 => ((spec_l20Rd_pick.f k bs bt152.2 3).bind fun bt157 => (if 0 ≤ bt157.1 then (if bt157.1 < (y154.length : Int) then (some (a, rd y154 bt157.1, c, bt157.2)) else (none)) else (none)))) else (some (a, b, c, bt152.2)))) (fun k => ?_) (Ev.bind ho (Ev.ite_pos rfl (Ev.bindc rfl (Ev.bind c1 (Ev.ite_pos a1 (Ev.ite_pos (by simp; omega) (Ev.now _)))))))⟩
    simp only [spec_l20Deed.j1]
  | false =>
    refine ⟨b, p + 1, by omega, by omega, Ev.step (f := fun k => (spec_l20Rd_odd.f k bs p 40).bind fun bt152 => (if bt152.1 = true then ((some (([(-1), 25, 100] : List Int) : List Int)).bind fun y154 => ((spec_l20Rd_pick.f k bs bt152.2 3).bind fun bt157 => (if 0 ≤ bt157.1 then (if bt157.1 < (y154.length : Int) then (some (a, rd y154 bt157.1, c, bt157.2)) else (none)) else (none)))) else (some (a, b, c, bt152.2)))) (fun k => ?_) (Ev.bind ho (Ev.ite_neg (by simp) (Ev.now _)))⟩
    simp only [spec_l20Deed.j1]
theorem deed_j0 {bs : List Int} (hb : Bytes bs) (hl : bs.length ≤ 2000) {p : Int} (h0 : 0 ≤ p) (h1 : p ≤ 800000) (x : Int) (f : Bool) (a b c : Int) : ∃ b' c' q, p ≤ q ∧ q ≤ p + 5 ∧ Ev (fun k => spec_l20Deed.j0 k x f bs p a b c) (a, b', c', q) := by
  by_cases hf : f = true
  · obtain ⟨r, a1, b1, c1⟩ := pick_ev hb hl h0 (by omega) (by omega : (1 : Int) ≤ 9)
    obtain ⟨b', q, q1, q2, hj⟩ := deed_j1 hb hl (by omega : 0 ≤ p + 1) (by omega) a r c
    refine ⟨b', c, q, by omega, by omega, Ev.step (f := fun k => (spec_l20Rd_pick.f k bs p 9).bind fun bt140 => (spec_l20Deed.j1 k bs bt140.2 a bt140.1 c)) (fun k => ?_) (Ev.bind c1 hj)⟩
    simp only [spec_l20Deed.j0]
    rw [if_pos hf]
  · by_cases hx : x = 3
    · obtain ⟨r1, a1, b1, c1⟩ := pick_ev hb hl h0 (by omega) (by omega : (1 : Int) ≤ 24)
      obtain ⟨r2, a2, b2, c2⟩ := pick_ev hb hl (by omega : 0 ≤ p + 1) (by omega) (by omega : (1 : Int) ≤ 100)
      obtain ⟨r3, a3, b3, c3⟩ := pick_ev hb hl (by omega : 0 ≤ p + 1 + 1) (by omega) (by omega : (1 : Int) ≤ 4)
      obtain ⟨b', q, q1, q2, hj⟩ := deed_j1 hb hl (by omega : 0 ≤ p + 1 + 1 + 1) (by omega) a (wrap64 (1 + r1)) (rd [0, 1, r2, 9999] r3)
      refine ⟨b', rd [0, 1, r2, 9999] r3, q, by omega, by omega, Ev.step (f := fun k => (spec_l20Rd_pick.f k bs p 24).bind fun bt142 => ((spec_l20Rd_pick.f k bs bt142.2 100).bind fun bt144 => ((some (([0, 1, bt144.1, 9999] : List Int) : List Int)).bind fun y146 => ((spec_l20Rd_pick.f k bs bt144.2 4).bind fun bt149 => (if 0 ≤ bt149.1 then (if bt149.1 < (y146.length : Int) then (spec_l20Deed.j1 k bs bt149.2 a (wrap64 (1 + bt142.1)) (rd y146 bt149.1)) else (none)) else (none)))))) (fun k => ?_) (Ev.bind c1 (Ev.bind c2 (Ev.bindc rfl (Ev.bind c3 (Ev.ite_pos a3 (Ev.ite_pos (by simp; omega) hj))))))⟩
      simp only [spec_l20Deed.j0]
      rw [if_neg hf, if_pos hx]
    · obtain ⟨b', q, q1, q2, hj⟩ := deed_j1 hb hl h0 (by omega) a b c
      refine ⟨b', c, q, by omega, by omega, Ev.step (fun k => ?_) hj⟩
      simp only [spec_l20Deed.j0]
      rw [if_neg hf, if_neg hx]
theorem deed_ev {bs : List Int} (hb : Bytes bs) (hl : bs.length ≤ 2000) {p : Int} (h0 : 0 ≤ p) (h1 : p ≤ 700000) : ∃ a b c q, p ≤ q ∧ q ≤ p + 7 ∧ Ev (fun k => spec_l20Deed.f k bs p) (a, b, c, q) := by
  obtain ⟨r1, a1, b1, c1⟩ := pick_ev hb hl h0 (by omega) (by omega : (1 : Int) ≤ 7)
  obtain ⟨r2, a2, b2, c2⟩ := pick_ev hb hl (by omega : 0 ≤ p + 1) (by omega) (by omega : (1 : Int) ≤ 60)
  unfold spec_l20Deed.f
  by_cases hk : wrap64 (rd [0, 0, 1, 2, 3, 3, 4] r1 + wrap64 (wrap64 (Int.tdiv r2 59) * 5)) = 0
  · obtain ⟨b', c', q, q1, q2, hj⟩ := deed_j0 hb hl (by omega : 0 ≤ p + 1 + 1) (by omega) (wrap64 (rd [0, 0, 1, 2, 3, 3, 4] r1 + wrap64 (wrap64 (Int.tdiv r2 59) * 5))) (wrap64 (rd [0, 0, 1, 2, 3, 3, 4] r1 + wrap64 (wrap64 (Int.tdiv r2 59) * 5)) == 0) (wrap64 (rd [0, 0, 1, 2, 3, 3, 4] r1 + wrap64 (wrap64 (Int.tdiv r2 59) * 5))) 0 0
    exact ⟨_, b', c', q, by omega, by omega, Ev.bindc rfl (Ev.bind c1 (Ev.ite_pos a1 (Ev.ite_pos (by simp; omega) (Ev.bind c2 (Ev.ite_pos hk hj)))))⟩
  · obtain ⟨b', c', q, q1, q2, hj⟩ := deed_j0 hb hl (by omega : 0 ≤ p + 1 + 1) (by omega) (wrap64 (rd [0, 0, 1, 2, 3, 3, 4] r1 + wrap64 (wrap64 (Int.tdiv r2 59) * 5))) (wrap64 (rd [0, 0, 1, 2, 3, 3, 4] r1 + wrap64 (wrap64 (Int.tdiv r2 59) * 5)) == 1) (wrap64 (rd [0, 0, 1, 2, 3, 3, 4] r1 + wrap64 (wrap64 (Int.tdiv r2 59) * 5))) 0 0
    exact ⟨_, b', c', q, by omega, by omega, Ev.bindc rfl (Ev.bind c1 (Ev.ite_pos a1 (Ev.ite_pos (by simp; omega) (Ev.bind c2 (Ev.ite_neg hk hj)))))⟩

theorem numberOk_eq (a : Int) : impl_numberOk.f a = some (decide (1 ≤ a ∧ a ≤ 10000)) := by
  unfold impl_numberOk.f
  by_cases h : a ≥ 1
  · rw [if_pos h]; simp [h]
  · rw [if_neg h]; congr 1; symm; simp; intro h2; omega

theorem alive_eq : laws_alive.f = some true := by
  unfold laws_alive.f impl_DividesOk.f
  simp only [numberOk_eq]
  decide +kernel

/-- The text of a journal, behind what is written already. -/
def jTxt : List S24 → ByteArray → ByteArray
  | [], out => out
  | d :: r, out => if (dText d.f0 d.f1 d.f2).toList = ([] : List UInt8) then tNone else jTxt r ((out ++ dText d.f0 d.f1 d.f2) ++ ⟨#[10]⟩)
theorem rd_at {l : List S24} {i : Nat} {d : S24} (h : l[i]? = some d) : rd_T24 l (i : Int) = d := by
  unfold rd_T24
  simp [List.getD, h]

theorem l1In_eq (a b c : Int) : spec_l1In.f a b c = some (decide (b ≤ a ∧ a ≤ c)) := by
  unfold spec_l1In.f
  by_cases h : a ≥ b
  · rw [if_pos h]; simp [h]
  · rw [if_neg h]; congr 1; symm; simp; intro h2; omega

theorem spec_number : ∀ (m n : Nat), n ≤ m → n ≤ 100000 → Ev (fun k => spec_l1Number.f k (n : Int)) (digB (n : Int)) := by
  intro m
  induction m with
  | zero =>
    intro n hn hb
    obtain rfl : n = 0 := by omega
    rw [digB_nat, Go.Lib.decDigits_one (by omega)]
    refine Ev.step (f := fun k => spec_l1Number.j0 k 0 false) (fun k => ?_) (Ev.step (f := fun _ => some (strOfNums [((48 + 0 : Nat) : Int) % 256])) (fun k => ?_) ?_)
    · simp only [spec_l1Number.f]; rfl
    · simp only [spec_l1Number.j0]; rw [if_neg (by simp), if_neg (by omega), if_pos (by omega), w64 (by omega) (by omega)]; rfl
    · rw [strOf_one]; exact Ev.now _
  | succ m ih =>
    intro n hn hb
    rw [digB_nat]
    refine Ev.step (f := fun k => spec_l1Number.j0 k (n : Int) false) (fun k => ?_) ?_
    · simp only [spec_l1Number.f]; rw [if_neg (by omega)]
    by_cases h : n < 10
    · rw [Go.Lib.decDigits_one h, ← strOf_one]
      refine Ev.step (f := fun k => some _) (fun k => ?_) (Ev.now _)
      simp only [spec_l1Number.j0]
      rw [if_neg (by simp), if_neg (by omega), if_pos (by omega), w64 (by omega) (by omega)]
      rfl
    · have h1 := ih (n / 10) (by omega) (by omega)
      have hsz := digB_size (n / 10) (by omega)
      refine Ev.step (f := fun k => (spec_l1Number.f k ((n / 10 : Nat) : Int)).bind fun t => if t.size + (strOfNums [((48 + n % 10 : Nat) : Int) % 256]).size ≤ 9223372036854775807 then some (t ++ strOfNums [((48 + n % 10 : Nat) : Int) % 256]) else none) (fun k => ?_) (Ev.bind h1 ?_)
      · simp only [spec_l1Number.j0]
        rw [if_neg (by simp), if_neg (by omega), if_neg (by omega), show (10 : Int) = ((10 : Nat) : Int) from rfl, tdiv_nat, tmod_nat, w64 (by omega) (by omega), w64 (by omega) (by omega)]
        rfl
      · rw [strOf_one]
        refine Ev.ite_pos ?_ ?_
        · have : (⟨[UInt8.ofNat (48 + n % 10)].toArray⟩ : ByteArray).size = 1 := rfl
          omega
        · rw [digB_nat, bytes_append]
          have e : Go.Lib.decDigits n = Go.Lib.decDigits (n / 10) ++ [UInt8.ofNat (48 + n % 10)] := by rw [Go.Lib.decDigits, dif_neg h]
          rw [e]
          exact Ev.now _

theorem spec_j2f (a x y : Int) : Ev (fun k => spec_DeedText.j2 k false a x y) (if a = 4 ∧ x = 0 ∧ y = 0 then tBack else tNone) := by
  refine Ev.step (f := fun _ => some (if a = 4 ∧ x = 0 ∧ y = 0 then tBack else tNone)) (fun k => ?_) (Ev.now _)
  simp only [spec_DeedText.j2]
  rw [if_neg (by simp)]
  by_cases h : a = 4 ∧ x = 0 ∧ y = 0
  · rw [if_pos (by simp [h]), if_pos h]; rfl
  · rw [if_neg (by simpa using h), if_neg h]; rfl
theorem spec_j2t (a x y : Int) (h : 0 ≤ x ∧ x ≤ 99 ∧ 0 ≤ y ∧ y ≤ 9999) : Ev (fun k => spec_DeedText.j2 k true a x y) (((tSet ++ digB x) ++ tSp) ++ digB y) := by
  obtain ⟨h1, h2, h4, h5⟩ := h
  obtain ⟨n, rfl⟩ : ∃ n : Nat, x = n := ⟨x.toNat, by omega⟩
  obtain ⟨m, rfl⟩ : ∃ m : Nat, y = m := ⟨y.toNat, by omega⟩
  have s1 := digB_size n (by omega)
  have s2 := digB_size m (by omega)
  refine Ev.step (f := fun k => (spec_l1Number.f k (n : Int)).bind fun t116 => (if 4 + t116.size ≤ 9223372036854775807 then (if (tSet ++ t116).size + 1 ≤ 9223372036854775807 then ((spec_l1Number.f k (m : Int)).bind fun t117 => (if ((tSet ++ t116) ++ tSp).size + t117.size ≤ 9223372036854775807 then (some (((tSet ++ t116) ++ tSp) ++ t117)) else (none))) else (none)) else (none))) (fun k => ?_) ?_
  · simp only [spec_DeedText.j2, if_true]; rfl
  · refine Ev.bind (spec_number n n (Nat.le_refl _) (by omega)) (Ev.ite_pos (by omega) (Ev.ite_pos ?_ (Ev.bind (spec_number m m (Nat.le_refl _) (by omega)) (Ev.ite_pos ?_ (Ev.now _)))))
    · rw [ByteArray.size_append, show tSet.size = 4 from rfl]; omega
    · rw [ByteArray.size_append, ByteArray.size_append, show tSet.size = 4 from rfl, show tSp.size = 1 from rfl]; omega
/-- What comes behind times and unitary. -/
theorem spec_rest (a x y : Int) (h0 : ¬ (a = 0 ∧ 0 ≤ x ∧ x ≤ 9 ∧ y = 0)) (h1 : ¬ (a = 1 ∧ 0 ≤ x ∧ x ≤ 9 ∧ y = 0)) : Ev (fun k => spec_DeedText.j1 k false a x y) (dText a x y) := by
  by_cases hi : a = 2 ∧ x = 0 ∧ y = 0
  · obtain ⟨rfl, rfl, rfl⟩ := hi
    refine Ev.step (f := fun _ => some tInv) (fun k => ?_) (Ev.now _)
    simp only [spec_DeedText.j1]; rfl
  · have hi2 : ¬ (a == 2 && (x == 0 && y == 0)) = true := by simpa using hi
    by_cases h3 : a = 3
    · subst h3
      by_cases c : 0 ≤ x ∧ x ≤ 99 ∧ 0 ≤ y ∧ y ≤ 9999
      · have e : dText 3 x y = ((tSet ++ digB x) ++ tSp) ++ digB y := by unfold dText; rw [if_pos ⟨rfl, c⟩]
        rw [e]
        refine Ev.step (f := fun k => spec_DeedText.j2 k true 3 x y) (fun k => ?_) (spec_j2t 3 x y c)
        simp only [spec_DeedText.j1]
        rw [if_neg (by simp), if_neg hi2, if_pos trivial, l1In_eq, Option.bind_some, l1In_eq, if_pos (by simp [c]), Option.bind_some]
        congr 1
        simp [c]
      · have e : dText 3 x y = (if (3 : Int) = 4 ∧ x = 0 ∧ y = 0 then tBack else tNone) := by
          unfold dText
          rw [if_neg (fun z => c z.2)]
          by_cases hh : y = 0 ∧ 0 ≤ x ∧ x ≤ 9
          · rw [if_neg (by simpa using hh), if_neg (by omega), if_neg (by omega), if_neg (by omega), if_neg (by omega), if_neg (by omega)]
          · rw [if_pos hh, if_neg (by omega)]
        rw [e]
        refine Ev.step (f := fun k => spec_DeedText.j2 k false 3 x y) (fun k => ?_) (spec_j2f 3 x y)
        simp only [spec_DeedText.j1]
        rw [if_neg (by simp), if_neg hi2, if_pos trivial, l1In_eq, Option.bind_some, l1In_eq]
        by_cases c1 : 0 ≤ x ∧ x ≤ 99
        · rw [if_pos (by simpa using c1), Option.bind_some]
          congr 1
          exact decide_eq_false (fun z => c ⟨c1.1, c1.2, z.1, z.2⟩)
        · rw [if_neg (by simpa using c1)]
    · have e : dText a x y = (if a = 4 ∧ x = 0 ∧ y = 0 then tBack else tNone) := by
        unfold dText
        rw [if_neg (fun z => h3 z.1)]
        by_cases hh : y = 0 ∧ 0 ≤ x ∧ x ≤ 9
        · rw [if_neg (by simpa using hh), if_neg (fun z => h0 ⟨z, hh.2.1, hh.2.2, hh.1⟩), if_neg (fun z => h1 ⟨z, hh.2.1, hh.2.2, hh.1⟩), if_neg (fun z => hi ⟨z.2, z.1, hh.1⟩)]
          by_cases h4 : a = 4 ∧ x = 0 ∧ y = 0
          · rw [if_pos h4, if_pos ⟨h4.2.1, h4.1⟩]
          · rw [if_neg h4, if_neg (fun z => h4 ⟨z.2, z.1, hh.1⟩)]
        · rw [if_pos hh, if_neg (fun z => hh ⟨z.2.2, by omega, by omega⟩)]
      rw [e]
      refine Ev.step (f := fun k => spec_DeedText.j2 k false a x y) (fun k => ?_) (spec_j2f a x y)
      simp only [spec_DeedText.j1]
      rw [if_neg (by simp), if_neg hi2, if_neg h3]
theorem spec_j1 (b : Bool) (a x y : Int) (hb : b = decide (a = 1 ∧ 0 ≤ x ∧ x ≤ 9 ∧ y = 0)) (h0 : ¬ (a = 0 ∧ 0 ≤ x ∧ x ≤ 9 ∧ y = 0)) : Ev (fun k => spec_DeedText.j1 k b a x y) (dText a x y) := by
  cases b with
  | true =>
    obtain ⟨rfl, h1, h2, rfl⟩ := of_decide_eq_true hb.symm
    obtain ⟨n, rfl⟩ : ∃ n : Nat, x = n := ⟨x.toNat, by omega⟩
    have s1 := digB_size n (by omega)
    have e : dText 1 (n : Int) 0 = tUnit ++ digB (n : Int) := by
      unfold dText; rw [if_neg (by omega), if_neg (by omega), if_neg (by omega), if_pos rfl]
    rw [e]
    refine Ev.step (f := fun k => (spec_l1Number.f k (n : Int)).bind fun t => if 8 + t.size ≤ 9223372036854775807 then some (tUnit ++ t) else none) (fun k => ?_) (Ev.bind (spec_number n n (Nat.le_refl _) (by omega)) (Ev.ite_pos (by omega) (Ev.now _)))
    simp only [spec_DeedText.j1, if_true]; rfl
  | false => exact spec_rest a x y h0 (of_decide_eq_false hb.symm)
theorem spec_j0 (b : Bool) (a x y : Int) (hb : b = decide (a = 0 ∧ 0 ≤ x ∧ x ≤ 9 ∧ y = 0)) : Ev (fun k => spec_DeedText.j0 k b a x y) (dText a x y) := by
  cases b with
  | true =>
    obtain ⟨rfl, h1, h2, rfl⟩ := of_decide_eq_true hb.symm
    obtain ⟨n, rfl⟩ : ∃ n : Nat, x = n := ⟨x.toNat, by omega⟩
    have s1 := digB_size n (by omega)
    have e : dText 0 (n : Int) 0 = tTimes ++ digB (n : Int) := by
      unfold dText; rw [if_neg (by omega), if_neg (by omega), if_pos rfl]
    rw [e]
    refine Ev.step (f := fun k => (spec_l1Number.f k (n : Int)).bind fun t => if 6 + t.size ≤ 9223372036854775807 then some (tTimes ++ t) else none) (fun k => ?_) (Ev.bind (spec_number n n (Nat.le_refl _) (by omega)) (Ev.ite_pos (by omega) (Ev.now _)))
    simp only [spec_DeedText.j0, if_true]; rfl
  | false =>
    refine Ev.step (f := fun k => spec_DeedText.j1 k (decide (a = 1 ∧ 0 ≤ x ∧ x ≤ 9 ∧ y = 0)) a x y) (fun k => ?_) (spec_j1 _ a x y rfl (of_decide_eq_false hb.symm))
    simp only [spec_DeedText.j0]
    rw [if_neg (by simp)]
    by_cases h1 : a = 1
    · rw [if_pos h1, l1In_eq, Option.bind_some]
      by_cases h2 : 0 ≤ x ∧ x ≤ 9
      · rw [if_pos (by simpa using h2)]; congr 1
        by_cases h3 : y = 0 <;> simp [h1, h2, h3]
      · rw [if_neg (by simpa using h2)]; congr 1
        exact (decide_eq_false (fun z => h2 ⟨z.2.1, z.2.2.1⟩)).symm
    · rw [if_neg h1]; congr 1
      exact (decide_eq_false (fun z => h1 z.1)).symm
theorem spec_deedText (a x y : Int) : Ev (fun k => spec_DeedText.f k a x y) (dText a x y) := by
  refine Ev.congr (f := fun k => spec_DeedText.j0 k (decide (a = 0 ∧ 0 ≤ x ∧ x ≤ 9 ∧ y = 0)) a x y) (fun k => ?_) (spec_j0 _ a x y rfl)
  unfold spec_DeedText.f
  by_cases h1 : a = 0
  · rw [if_pos h1, l1In_eq, Option.bind_some]
    by_cases h2 : 0 ≤ x ∧ x ≤ 9
    · rw [if_pos (by simpa using h2)]; congr 1
      by_cases h3 : y = 0 <;> simp [h1, h2, h3]
    · rw [if_neg (by simpa using h2)]; congr 1
      exact (decide_eq_false (fun z => h2 ⟨z.2.1, z.2.2.1⟩)).symm
  · rw [if_neg h1]; congr 1
    exact (decide_eq_false (fun z => h1 z.1)).symm

theorem spec_jL (l : List S24) (hl : l.length ≤ 1048576) : ∀ (r : List S24) (i : Nat) (out : ByteArray), l.drop i = r → out.size ≤ i * 300001 → Ev (fun k => spec_JournalText.l0 k l out (i : Int)) (jTxt r out) := by
  intro r
  induction r with
  | nil =>
    intro i out h _
    have : l.length ≤ i := List.drop_eq_nil_iff.1 h
    refine Ev.step (f := fun _ => some out) (fun k => ?_) (Ev.now _)
    simp only [spec_JournalText.l0]
    rw [if_neg (by omega)]
  | cons d r ih =>
    intro i out h hs
    obtain ⟨h1, h2, h3⟩ := drop_at h
    have hd := dText_size d.f0 d.f1 d.f2
    have hnl : (⟨#[10]⟩ : ByteArray).size = 1 := rfl
    by_cases ht : (dText d.f0 d.f1 d.f2).toList = ([] : List UInt8)
    · have e : jTxt (d :: r) out = tNone := by unfold jTxt; rw [if_pos ht]
      rw [e]
      refine Ev.step (f := fun k => (spec_DeedText.f k d.f0 d.f1 d.f2).bind fun t => if t.toList = ([] : List UInt8) then some tNone else (spec_DeedText.f k d.f0 d.f1 d.f2).bind fun t121 => (if out.size + t121.size ≤ 9223372036854775807 then (if (out ++ t121).size + 1 ≤ 9223372036854775807 then (spec_JournalText.l0 k l ((out ++ t121) ++ (⟨#[10]⟩ : ByteArray)) (wrap64 ((i : Int) + 1))) else (none)) else (none))) (fun k => ?_) (Ev.bind (spec_deedText d.f0 d.f1 d.f2) (Ev.ite_pos ht (Ev.now _)))
      simp only [spec_JournalText.l0]
      rw [if_pos (by omega), if_pos (by omega), rd_at h2]
      rfl
    · have e : jTxt (d :: r) out = jTxt r ((out ++ dText d.f0 d.f1 d.f2) ++ ⟨#[10]⟩) := by rw [jTxt, if_neg ht]
      rw [e]
      have hih := ih (i + 1) ((out ++ dText d.f0 d.f1 d.f2) ++ ⟨#[10]⟩) h3 (by rw [ByteArray.size_append, ByteArray.size_append, hnl]; omega)
      refine Ev.step (f := fun k => (spec_DeedText.f k d.f0 d.f1 d.f2).bind fun t => if t.toList = ([] : List UInt8) then some tNone else (spec_DeedText.f k d.f0 d.f1 d.f2).bind fun t121 => (if out.size + t121.size ≤ 9223372036854775807 then (if (out ++ t121).size + 1 ≤ 9223372036854775807 then (spec_JournalText.l0 k l ((out ++ t121) ++ (⟨#[10]⟩ : ByteArray)) (((i + 1 : Nat) : Int))) else (none)) else (none))) (fun k => ?_) (Ev.bind (spec_deedText d.f0 d.f1 d.f2) (Ev.ite_neg ht (Ev.bind (spec_deedText d.f0 d.f1 d.f2) (Ev.ite_pos (by omega) (Ev.ite_pos (by rw [ByteArray.size_append]; omega) hih)))))
      simp only [spec_JournalText.l0]
      rw [if_pos (by omega), if_pos (by omega), rd_at h2, w64 (by omega) (by omega)]
      rfl
theorem spec_journal (l : List S24) (hl : l.length ≤ 1048576) : Ev (fun k => spec_JournalText.f k l) (jTxt l tNone) := by
  unfold spec_JournalText.f
  exact spec_jL l hl l 0 tNone rfl (by show (0 : Nat) ≤ _; omega)

theorem itoa_eq (n : Int) (h0 : 0 ≤ n) (h1 : n ≤ 100000) : strconv_Itoa.f n = some (digB n) := by
  unfold strconv_Itoa.f; rw [if_pos (by omega), if_pos (by omega)]; rfl
theorem impl_j1 (b : Bool) (a x y : Int) (hb : b = decide (¬ (y = 0 ∧ 0 ≤ x ∧ x ≤ 9))) (h3 : ¬ (a = 3 ∧ 0 ≤ x ∧ x ≤ 99 ∧ 0 ≤ y ∧ y ≤ 9999)) : Ev (fun k => impl_DeedText.j1 k b a x y) (dText a x y) := by
  cases b with
  | true =>
    have hb := of_decide_eq_true hb.symm
    refine Ev.step (f := fun _ => some (dText a x y)) (fun k => ?_) (Ev.now _)
    simp only [impl_DeedText.j1]
    unfold dText
    rw [if_pos trivial, if_neg h3, if_pos hb]; rfl
  | false =>
    have hb : y = 0 ∧ 0 ≤ x ∧ x ≤ 9 := Decidable.not_not.1 (of_decide_eq_false hb.symm)
    obtain ⟨rfl, h1, h2⟩ := hb
    obtain ⟨n, rfl⟩ : ∃ n : Nat, x = n := ⟨x.toNat, by omega⟩
    have s1 := digB_size n (by omega)
    have e : dText a (n : Int) 0 = (if a = 0 then tTimes ++ digB (n : Int) else if a = 1 then tUnit ++ digB (n : Int) else if (n : Int) = 0 ∧ a = 2 then tInv else if (n : Int) = 0 ∧ a = 4 then tBack else tNone) := by
      unfold dText; rw [if_neg h3, if_neg (by omega)]
    rw [e]
    refine Ev.step (f := fun _ => some (if a = 0 then tTimes ++ digB (n : Int) else if a = 1 then tUnit ++ digB (n : Int) else if (n : Int) = 0 ∧ a = 2 then tInv else if (n : Int) = 0 ∧ a = 4 then tBack else tNone)) (fun k => ?_) (Ev.now _)
    simp only [impl_DeedText.j1]
    rw [if_neg (by simp), itoa_eq _ (by omega) (by omega)]
    simp only [Option.bind_some]
    by_cases c0 : a = 0
    · rw [if_pos c0, if_pos c0, if_pos (by omega)]; rfl
    · rw [if_neg c0, if_neg c0]
      by_cases c1 : a = 1
      · rw [if_pos c1, if_pos c1, if_pos (by omega)]; rfl
      · rw [if_neg c1, if_neg c1]
        by_cases cx : (n : Int) = 0
        · simp only [cx, if_true, true_and]
          by_cases c2 : a = 2
          · simp only [if_pos c2]; rfl
          · simp only [if_neg c2]
            by_cases c4 : a = 4
            · simp only [if_pos c4]; rfl
            · simp only [if_neg c4]; rfl
        · simp only [cx, if_false, false_and]; rfl
theorem impl_j0f (a x y : Int) (h3 : ¬ (a = 3 ∧ 0 ≤ x ∧ x ≤ 99 ∧ 0 ≤ y ∧ y ≤ 9999)) : Ev (fun k => impl_DeedText.j0 k false a x y) (dText a x y) := by
  refine Ev.step (f := fun k => impl_DeedText.j1 k (decide (¬ (y = 0 ∧ 0 ≤ x ∧ x ≤ 9))) a x y) (fun k => ?_) (impl_j1 _ a x y rfl h3)
  simp only [impl_DeedText.j0]
  rw [if_neg (by simp)]
  by_cases hy : y = 0
  · rw [if_pos hy]
    by_cases hx : x < 0
    · rw [if_pos hx]; congr 1
      exact (decide_eq_true (show ¬ (y = 0 ∧ 0 ≤ x ∧ x ≤ 9) from fun z => by omega)).symm
    · rw [if_neg hx]; congr 1
      by_cases h9 : x > 9
      · rw [decide_eq_true h9]; exact (decide_eq_true (show ¬ (y = 0 ∧ 0 ≤ x ∧ x ≤ 9) from fun z => by omega)).symm
      · rw [decide_eq_false h9]; exact (decide_eq_false (show ¬ ¬ (y = 0 ∧ 0 ≤ x ∧ x ≤ 9) from fun z => z ⟨hy, by omega, by omega⟩)).symm
  · rw [if_neg hy]; congr 1
    exact (decide_eq_true (show ¬ (y = 0 ∧ 0 ≤ x ∧ x ≤ 9) from fun z => hy z.1)).symm
theorem impl_deedText (a x y : Int) : Ev (fun k => impl_DeedText.f k a x y) (dText a x y) := by
  unfold impl_DeedText.f
  by_cases h3 : a = 3
  · simp only [if_pos h3]
    by_cases hx : x ≥ 0
    · simp only [if_pos hx]
      by_cases hx2 : x ≤ 99
      · simp only [if_pos hx2]
        by_cases hy : y ≥ 0
        · simp only [if_pos hy]
          by_cases hy2 : y ≤ 9999
          · simp only [decide_eq_true hy2]
            obtain ⟨n, rfl⟩ : ∃ n : Nat, x = n := ⟨x.toNat, by omega⟩
            obtain ⟨m, rfl⟩ : ∃ m : Nat, y = m := ⟨y.toNat, by omega⟩
            have s1 := digB_size n (by omega)
            have s2 := digB_size m (by omega)
            have e : dText a (n : Int) (m : Int) = ((tSet ++ digB (n : Int)) ++ tSp) ++ digB (m : Int) := by unfold dText; rw [if_pos ⟨h3, hx, hx2, hy, hy2⟩]
            rw [e]
            refine Ev.step (f := fun _ => some _) (fun k => ?_) (Ev.now _)
            simp only [impl_DeedText.j0]
            rw [if_pos trivial, itoa_eq _ (by omega) (by omega), Option.bind_some, if_pos (by omega), if_pos, itoa_eq _ (by omega) (by omega), Option.bind_some, if_pos]
            · rfl
            · show ((tSet ++ digB (n : Int)) ++ tSp).size + _ ≤ _
              rw [ByteArray.size_append, ByteArray.size_append, show tSet.size = 4 from rfl, show tSp.size = 1 from rfl]; omega
            · show (tSet ++ digB (n : Int)).size + _ ≤ _
              rw [ByteArray.size_append, show tSet.size = 4 from rfl]; omega
          · simp only [decide_eq_false hy2]
            exact impl_j0f a x y (fun z => hy2 z.2.2.2.2)
        · simp only [if_neg hy]; exact impl_j0f a x y (fun z => hy z.2.2.2.1)
      · simp only [if_neg hx2]; exact impl_j0f a x y (fun z => hx2 z.2.2.1)
    · simp only [if_neg hx]; exact impl_j0f a x y (fun z => hx z.2.1)
  · simp only [if_neg h3]; exact impl_j0f a x y (fun z => h3 z.1)

theorem impl_jL (l : List S24) (hl : l.length ≤ 1048576) : ∀ (r : List S24) (i : Nat) (out : ByteArray), l.drop i = r → out.size ≤ i * 300001 → Ev (fun k => impl_JournalText.l0 k out l (l.length : Int) (i : Int)) (jTxt r out) := by
  intro r
  induction r with
  | nil =>
    intro i out h _
    have : l.length ≤ i := List.drop_eq_nil_iff.1 h
    refine Ev.step (f := fun _ => some out) (fun k => ?_) (Ev.now _)
    simp only [impl_JournalText.l0]
    rw [if_neg (by omega)]
  | cons d r ih =>
    intro i out h hs
    obtain ⟨h1, h2, h3⟩ := drop_at h
    have hd := dText_size d.f0 d.f1 d.f2
    have hnl : (⟨#[10]⟩ : ByteArray).size = 1 := rfl
    by_cases ht : (dText d.f0 d.f1 d.f2).toList = ([] : List UInt8)
    · have e : jTxt (d :: r) out = tNone := by unfold jTxt; rw [if_pos ht]
      rw [e]
      refine Ev.step (f := fun k => (impl_DeedText.f k d.f0 d.f1 d.f2).bind fun t => if t.toList = ([] : List UInt8) then some tNone else (if t.size + 1 ≤ 9223372036854775807 then (if out.size + (t ++ (⟨#[10]⟩ : ByteArray)).size ≤ 9223372036854775807 then (impl_JournalText.l0 k (out ++ (t ++ (⟨#[10]⟩ : ByteArray))) l (l.length : Int) (wrap64 ((i : Int) + 1))) else (none)) else (none))) (fun k => ?_) (Ev.bind (impl_deedText d.f0 d.f1 d.f2) (Ev.ite_pos ht (Ev.now _)))
      simp only [impl_JournalText.l0]
      rw [if_pos (by omega), if_pos (by omega), if_pos (by omega), rd_at h2]
      rfl
    · have e : jTxt (d :: r) out = jTxt r (out ++ (dText d.f0 d.f1 d.f2 ++ ⟨#[10]⟩)) := by rw [jTxt, if_neg ht, ByteArray.append_assoc]
      rw [e]
      have hih := ih (i + 1) (out ++ (dText d.f0 d.f1 d.f2 ++ ⟨#[10]⟩)) h3 (by rw [ByteArray.size_append, ByteArray.size_append, hnl]; omega)
      refine Ev.step (f := fun k => (impl_DeedText.f k d.f0 d.f1 d.f2).bind fun t => if t.toList = ([] : List UInt8) then some tNone else (if t.size + 1 ≤ 9223372036854775807 then (if out.size + (t ++ (⟨#[10]⟩ : ByteArray)).size ≤ 9223372036854775807 then (impl_JournalText.l0 k (out ++ (t ++ (⟨#[10]⟩ : ByteArray))) l (l.length : Int) ((i + 1 : Nat) : Int)) else (none)) else (none))) (fun k => ?_) (Ev.bind (impl_deedText d.f0 d.f1 d.f2) (Ev.ite_neg ht (Ev.ite_pos (by omega) (Ev.ite_pos (by rw [ByteArray.size_append, hnl]; omega) hih))))
      simp only [impl_JournalText.l0]
      rw [if_pos (by omega), if_pos (by omega), if_pos (by omega), rd_at h2, w64 (by omega) (by omega)]
      rfl
theorem impl_journal (l : List S24) (hl : l.length ≤ 1048576) : Ev (fun k => impl_JournalText.f k l) (jTxt l tNone) := by
  unfold impl_JournalText.f
  exact impl_jL l hl l 0 tNone rfl (by show (0 : Nat) ≤ _; omega)

def kfrom (w : ByteArray) : List ByteArray → Int → Int
  | [], _ => -1
  | x :: r, i => if w.toList = x.toList then i else kfrom w r (i + 1)
theorem idxL (l : List ByteArray) (w : ByteArray) (hl : l.length ≤ 1000) : ∀ (r : List ByteArray) (i : Nat), l.drop i = r → Ev (fun k => slices_Index_string_string.l0 k l w (l.length : Int) (i : Int)) (kfrom w r (i : Int)) := by
  intro r
  induction r with
  | nil =>
    intro i h
    have : l.length ≤ i := List.drop_eq_nil_iff.1 h
    refine Ev.step (f := fun _ => some (-1)) (fun k => ?_) (Ev.now _)
    simp only [slices_Index_string_string.l0]
    rw [if_neg (by omega)]
  | cons x r ih =>
    intro i h
    obtain ⟨h1, h2, h3⟩ := drop_at h
    have hx : rdOf ByteArray.empty l (i : Int) = x := by unfold rdOf; simp [List.getD, h2]
    by_cases he : w.toList = x.toList
    · rw [kfrom, if_pos he]
      refine Ev.step (f := fun _ => some (i : Int)) (fun k => ?_) (Ev.now _)
      simp only [slices_Index_string_string.l0]
      rw [if_pos (by omega), if_pos (by omega), if_pos (by omega), hx, if_pos he]
    · rw [kfrom, if_neg he]
      refine Ev.step (fun k => ?_) (ih (i + 1) h3)
      simp only [slices_Index_string_string.l0]
      rw [if_pos (by omega), if_pos (by omega), if_pos (by omega), hx, if_neg he, w64 (by omega) (by omega)]
      rfl
theorem idx_ev (w : ByteArray) : Ev (fun k => slices_Index_string_string.f k n5 w) (kidx w) := by
  unfold slices_Index_string_string.f
  have h := idxL n5 w (by decide) n5 0 rfl
  have e : kfrom w n5 ((0 : Nat) : Int) = kidx w := by unfold kidx n5; simp [kfrom]
  rw [e] at h
  exact h
theorem wordsB_pos (s : ByteArray) : 0 < (wordsB s).length := by
  obtain ⟨w, ws, e⟩ := wordsL_ne 32 s.data.toList
  unfold wordsB; rw [e]; simp
theorem wordsB_size {s w : ByteArray} (h : w ∈ wordsB s) : w.size ≤ s.size := by
  unfold wordsB at h
  obtain ⟨l, hl, rfl⟩ := List.mem_map.1 h
  rw [bw_size, size_data]
  exact wordsL_len 32 _ l hl
theorem rdOf_size {s : ByteArray} (i : Nat) : (rdOf ByteArray.empty (wordsB s) (i : Int)).size ≤ s.size := by
  unfold rdOf
  have e : ((i : Int)).toNat = i := by omega
  rw [e]
  by_cases h : i < (wordsB s).length
  · rw [List.getD_eq_getElem?_getD, List.getElem?_eq_getElem h]
    exact wordsB_size (List.getElem_mem h)
  · rw [List.getD_eq_getElem?_getD, List.getElem?_eq_none (by omega)]
    exact Nat.zero_le _
theorem atoi_eq (s : ByteArray) (h : s.size ≤ 281474976710656) : strconv_Atoi.f s = some (aval s, false) := by
  unfold strconv_Atoi.f; rw [if_pos h]; rfl
theorem rdT_ev {g : Nat → Option ByteArray} {s : ByteArray} {a b c : Int} (h : Ev g (dText a b c)) : Ev (fun k => (g k).bind fun t => if t.toList = s.toList then some (a, b, c, true) else some (0, 0, 0, false)) (rdT s a b c) := by
  unfold rdT
  by_cases hq : (dText a b c).toList = s.toList
  · rw [if_pos hq]; exact Ev.bind h (Ev.ite_pos hq (Ev.now _))
  · rw [if_neg hq]; exact Ev.bind h (Ev.ite_neg hq (Ev.now _))
theorem impl_rj1 (s : ByteArray) (hs : s.size < 4294967281) (a b : Int) : Ev (fun k => impl_ReadDeed.j1 k s (wordsB s) a b 0) (rdT s a b (rdC (wordsB s))) := by
  unfold rdC
  by_cases h : ((wordsB s).length : Int) > 2
  · rw [if_pos h]
    refine Ev.step (f := fun k => (impl_DeedText.f k a b (aval (rdOf ByteArray.empty (wordsB s) 2))).bind fun t => if t.toList = s.toList then some (a, b, aval (rdOf ByteArray.empty (wordsB s) 2), true) else some (0, 0, 0, false)) (fun k => ?_) (rdT_ev (impl_deedText _ _ _))
    have : (rdOf ByteArray.empty (wordsB s) 2).size ≤ s.size := rdOf_size (s := s) 2
    simp only [impl_ReadDeed.j1]
    rw [if_pos h, if_pos (by omega), atoi_eq _ (Nat.le_trans this (by omega)), Option.bind_some]
  · rw [if_neg h]
    refine Ev.step (f := fun k => (impl_DeedText.f k a b 0).bind fun t => if t.toList = s.toList then some (a, b, 0, true) else some (0, 0, 0, false)) (fun k => ?_) (rdT_ev (impl_deedText _ _ _))
    simp only [impl_ReadDeed.j1]
    rw [if_neg h]
theorem rd5 {i : Int} (h0 : 0 ≤ i) (h4 : i ≤ 4) : rd ([0, 1, 2, 3, 4] : List Int) i = i := by
  have : i = 0 ∨ i = 1 ∨ i = 2 ∨ i = 3 ∨ i = 4 := by omega
  rcases this with rfl | rfl | rfl | rfl | rfl <;> rfl
theorem impl_readDeed (s : ByteArray) (hs : s.size < 4294967281) : Ev (fun k => impl_ReadDeed.f k s) (rdVal s) := by
  unfold impl_ReadDeed.f
  have hp := wordsB_pos s
  have hsplit : strings_Split.f s (⟨#[32]⟩ : ByteArray) = some (wordsB s) := by
    unfold strings_Split.f
    rw [if_pos hs, if_pos (by decide)]
    exact congrArg some (splitB_words 32 s)
  refine Ev.bindc hsplit (Ev.ite_pos (by omega) (Ev.bind (idx_ev _) ?_))
  obtain ⟨k0, k4⟩ := kidx_range (rdOf ByteArray.empty (wordsB s) 0)
  have hno : ∀ x5, Ev (fun k => impl_ReadDeed.j0 k s (wordsB s) x5 true) no4 := fun x5 => by
    refine Ev.step (f := fun _ => some no4) (fun k => ?_) (Ev.now _)
    simp only [impl_ReadDeed.j0]
    rw [if_pos trivial]; rfl
  unfold rdVal rdW
  by_cases h1 : kidx (rdOf ByteArray.empty (wordsB s) 0) < 0
  · rw [if_pos h1]
    exact Ev.ite_pos h1 (hno _)
  · rw [if_neg h1]
    refine Ev.ite_neg h1 ?_
    by_cases h2 : ((wordsB s).length : Int) > 3
    · rw [if_pos h2]
      simp only [decide_eq_true h2]
      exact hno _
    · rw [if_neg h2]
      simp only [decide_eq_false h2]
      have hj := impl_rj1 s hs (kidx (rdOf ByteArray.empty (wordsB s) 0)) (rdB (wordsB s))
      refine Ev.step (fun k => ?_) hj
      simp only [impl_ReadDeed.j0, Option.bind_some]
      rw [if_neg (by simp), if_pos (by omega), if_pos (by simp; omega), rd5 (by omega) k4]
      unfold rdB
      by_cases h3 : ((wordsB s).length : Int) > 1
      · have : (rdOf ByteArray.empty (wordsB s) 1).size ≤ s.size := rdOf_size (s := s) 1
        rw [if_pos h3, if_pos (by omega), atoi_eq _ (Nat.le_trans this (by omega)), if_pos h3]
        rfl
      · rw [if_neg h3, if_neg h3]

/-- The deeds that a text begins with, from a place on: at most d bytes are left. -/
def rjV (L : List UInt8) : Nat → List S24 → Nat → List S24 × Int
  | 0, out, p => (out, (p : Int))
  | d + 1, out, p => if (10 : UInt8) ∈ L.drop p then
      (if (rdVal (bw ((L.drop p).take (Go.Lib.index (L.drop p) [10]).toNat))).2.2.2 = true
        then rjV L d (out ++ [⟨(rdVal (bw ((L.drop p).take (Go.Lib.index (L.drop p) [10]).toNat))).1, (rdVal (bw ((L.drop p).take (Go.Lib.index (L.drop p) [10]).toNat))).2.1, (rdVal (bw ((L.drop p).take (Go.Lib.index (L.drop p) [10]).toNat))).2.2.1⟩]) (p + (Go.Lib.index (L.drop p) [10]).toNat + 1)
        else (out, (p : Int)))
    else (out, (p : Int))
theorem drop_nil10 {L : List UInt8} {p : Nat} (h : L.length ≤ p) : (10 : UInt8) ∉ L.drop p := by rw [List.drop_eq_nil_of_le h]; simp
/-- The program's loop. -/
theorem impl_jrL (s : ByteArray) (hs : s.size ≤ 1099511627776) (hs2 : s.size < 4294967281) : ∀ (d p : Nat) (out : List S24), p ≤ s.size → s.size - p ≤ d → out.length ≤ p → Ev (fun k => impl_ReadJournal.l0 k s out (p : Int)) (rjV s.data.toList (d + 1) out p) := by
  intro d
  have hl : s.data.toList.length = s.size := (size_data s).symm
  induction d with
  | zero =>
    intro p out hp hd ho
    have he : s.size = p := by omega
    rw [rjV, if_neg (drop_nil10 (by omega))]
    have hc : strings_Cut.f (s.extract ((p : Int).toNat) s.size) (⟨#[10]⟩ : ByteArray) = some (bw [], bw [], false) := by
      unfold strings_Cut.f
      have e : (s.extract ((p : Int).toNat) s.size).data.toList = [] := by
        rw [show ((p : Int)).toNat = p by omega, ext_bw, data_bw, List.take_of_length_le (by rw [List.length_drop]; omega), List.drop_eq_nil_of_le (by omega)]
      rw [if_pos (by rw [size_data, e]; decide), e]
      rfl
    refine Ev.step (f := fun k => (impl_ReadDeed.f k (bw [])).bind fun bt => some (out, (p : Int))) (fun k => ?_) (Ev.bind (impl_readDeed (bw []) (by decide)) (Ev.now _))
    simp only [impl_ReadJournal.l0]
    rw [if_pos (by omega), if_pos (by omega), hc]
    simp
  | succ d ih =>
    intro p out hp hd ho
    have hE : (s.extract ((p : Int).toNat) s.size).data.toList = s.data.toList.drop p := by
      rw [show ((p : Int)).toNat = p by omega, ext_bw, data_bw, List.take_of_length_le (by rw [List.length_drop]; omega)]
    have hz : (s.extract ((p : Int).toNat) s.size).size < 4294967281 := by rw [size_data, hE, List.length_drop]; omega
    by_cases hm : (10 : UInt8) ∈ s.data.toList.drop p
    · obtain ⟨i, h1, h2, h3, h4⟩ := index_some hm
      have hi : (Go.Lib.index (s.data.toList.drop p) [10]).toNat = i := by rw [h1]; omega
      rw [List.length_drop] at h2
      have hc : strings_Cut.f (s.extract ((p : Int).toNat) s.size) (⟨#[10]⟩ : ByteArray) = some (bw ((s.data.toList.drop p).take i), bw ((s.data.toList.drop p).drop (i + 1)), true) := by
        unfold strings_Cut.f
        rw [if_pos hz, hE]
        have ec : Go.Lib.cut (s.data.toList.drop p) [10] = ((s.data.toList.drop p).take i, (s.data.toList.drop p).drop (i + 1), true) := by
          unfold Go.Lib.cut
          rw [h1, if_pos (by omega)]
          rfl
        have e10 : (⟨#[10]⟩ : ByteArray).data.toList = [10] := rfl
        rw [e10, ec]; rfl
      have hsz : (bw ((s.data.toList.drop p).take i)).size = i := by rw [bw_size, List.length_take, List.length_drop]; omega
      rw [rjV, if_pos hm, hi]
      have hr := impl_readDeed (bw ((s.data.toList.drop p).take i)) (by rw [hsz]; omega)
      by_cases hf : (rdVal (bw ((s.data.toList.drop p).take i))).2.2.2 = true
      · rw [if_pos hf]
        have hih := ih (p + i + 1) (out ++ [⟨(rdVal (bw ((s.data.toList.drop p).take i))).1, (rdVal (bw ((s.data.toList.drop p).take i))).2.1, (rdVal (bw ((s.data.toList.drop p).take i))).2.2.1⟩]) (by omega) (by omega) (by simp; omega)
        refine Ev.step (f := fun k => (impl_ReadDeed.f k (bw ((s.data.toList.drop p).take i))).bind fun bt135 => (if bt135.2.2.2 = true then (if out.length < 5864062014805 then (impl_ReadJournal.l0 k s (out ++ [(⟨bt135.1, bt135.2.1, bt135.2.2.1⟩ : S24)]) ((p + i + 1 : Nat) : Int)) else (none)) else (some (out, (p : Int))))) (fun k => ?_) (Ev.bind hr (Ev.ite_pos hf (Ev.ite_pos (by omega) hih)))
        simp only [impl_ReadJournal.l0]
        rw [if_pos (by omega), if_pos (by omega), hc]
        simp only [Option.bind_some, if_true]
        rw [hsz, w64 (n := (i : Int) + 1) (by omega) (by omega), w64 (by omega) (by omega)]
        rfl
      · rw [if_neg hf]
        refine Ev.step (f := fun k => (impl_ReadDeed.f k (bw ((s.data.toList.drop p).take i))).bind fun bt135 => (if bt135.2.2.2 = true then (if out.length < 5864062014805 then (impl_ReadJournal.l0 k s (out ++ [(⟨bt135.1, bt135.2.1, bt135.2.2.1⟩ : S24)]) (wrap64 ((p : Int) + (wrap64 (((bw ((s.data.toList.drop p).take i)).size : Int) + 1))))) else (none)) else (some (out, (p : Int))))) (fun k => ?_) (Ev.bind hr (Ev.ite_neg hf (Ev.now _)))
        simp only [impl_ReadJournal.l0]
        rw [if_pos (by omega), if_pos (by omega), hc]
        simp only [Option.bind_some, if_true]
    · rw [rjV, if_neg hm]
      have hc : strings_Cut.f (s.extract ((p : Int).toNat) s.size) (⟨#[10]⟩ : ByteArray) = some (bw (s.data.toList.drop p), bw [], false) := by
        unfold strings_Cut.f
        rw [if_pos hz, hE]
        have ec : Go.Lib.cut (s.data.toList.drop p) [10] = (s.data.toList.drop p, [], false) := by
          unfold Go.Lib.cut
          rw [index_none_iff.2 hm, if_neg (by omega)]
        have e10 : (⟨#[10]⟩ : ByteArray).data.toList = [10] := rfl
        rw [e10, ec]; rfl
      have hr := impl_readDeed (bw (s.data.toList.drop p)) (by rw [bw_size, List.length_drop]; omega)
      refine Ev.step (f := fun k => (impl_ReadDeed.f k (bw (s.data.toList.drop p))).bind fun bt => some (out, (p : Int))) (fun k => ?_) (Ev.bind hr (Ev.now _))
      simp only [impl_ReadJournal.l0]
      rw [if_pos (by omega), if_pos (by omega), hc]
      simp
theorem impl_readJournal (s : ByteArray) (hs2 : s.size < 4294967281) : Ev (fun k => impl_ReadJournal.f k s) (rjV s.data.toList (s.size + 1) [] 0) := by
  unfold impl_ReadJournal.f
  exact impl_jrL s (by omega) hs2 s.size 0 [] (by omega) (by omega) (by simp)

theorem deeds_l {bs : List Int} (hb : Bytes bs) (hl : bs.length ≤ 2000) : ∀ (n : Nat) (out : List S24) (p : Int), n ≤ 10 → out.length + n ≤ 1000 → 0 ≤ p → p + 7 * n ≤ 100000 → ∃ L q, L.length ≤ out.length + n ∧ p ≤ q ∧ q ≤ p + 7 * n ∧ Ev (fun k => spec_l20Deeds.l0 k out (n : Int) bs p) (L, q) := by
  intro n
  induction n with
  | zero =>
    intro out p _ _ h0 h1
    refine ⟨out, p, by omega, by omega, by omega, Ev.step (f := fun _ => some (out, p)) (fun k => ?_) (Ev.now _)⟩
    simp only [spec_l20Deeds.l0]
    rw [if_neg (by omega)]
  | succ n ih =>
    intro out p hn ho h0 h1
    obtain ⟨a, b, c, q, q1, q2, hd⟩ := deed_ev hb hl h0 (by omega : p ≤ 700000)
    obtain ⟨L, q', hL, h2, h3, he⟩ := ih (out ++ [⟨a, b, c⟩]) q (by omega) (by simp; omega) (by omega) (by omega)
    refine ⟨L, q', by simp at hL; omega, by omega, by omega, Ev.step (f := fun k => (spec_l20Deed.f k bs p).bind fun bt165 => (if out.length < 5864062014805 then (spec_l20Deeds.l0 k (out ++ [(⟨bt165.1, bt165.2.1, bt165.2.2.1⟩ : S24)]) ((n : Nat) : Int) bs bt165.2.2.2) else (none))) (fun k => ?_) (Ev.bind hd (Ev.ite_pos (by omega) he))⟩
    simp only [spec_l20Deeds.l0]
    rw [if_pos (by omega), w64 (by omega) (by omega), show ((n + 1 : Nat) : Int) - 1 = ((n : Nat) : Int) by omega]
theorem written_l (l : List S24) (hl : l.length ≤ 2000) (bs : List Int) (p : Int) : ∀ (r : List S24) (i : Nat) (out : List S24), l.drop i = r → out.length ≤ i → (∀ x ∈ out, (dText x.f0 x.f1 x.f2).size ≠ 0) → ∃ L : List S24, L.length ≤ out.length + r.length ∧ (∀ x ∈ L, (dText x.f0 x.f1 x.f2).size ≠ 0) ∧ Ev (fun k => spec_l20Written.l0 k out l (i : Int) bs p) (L, p) := by
  intro r
  induction r with
  | nil =>
    intro i out h _ ho
    have : l.length ≤ i := List.drop_eq_nil_iff.1 h
    refine ⟨out, by simp, ho, Ev.step (f := fun _ => some (out, p)) (fun k => ?_) (Ev.now _)⟩
    simp only [spec_l20Written.l0]
    rw [if_neg (by omega)]
  | cons d r ih =>
    intro i out h hi ho
    obtain ⟨h1, h2, h3⟩ := drop_at h
    have ew : wrap64 ((i : Int) + 1) = ((i + 1 : Nat) : Int) := by rw [w64 (by omega) (by omega)]; rfl
    by_cases ht : (dText d.f0 d.f1 d.f2).toList = ([] : List UInt8)
    · obtain ⟨L, e1, e2, e3⟩ := ih (i + 1) out h3 (by omega) ho
      refine ⟨L, by simp; omega, e2, Ev.step (f := fun k => (spec_DeedText.f k d.f0 d.f1 d.f2).bind fun t180 => (if t180.toList = ([] : List UInt8) then (spec_l20Written.l0 k out l ((i + 1 : Nat) : Int) bs p) else (if out.length < 5864062014805 then (spec_l20Written.l0 k (out ++ [(⟨d.f0, d.f1, d.f2⟩ : S24)]) l ((i + 1 : Nat) : Int) bs p) else (none)))) (fun k => ?_) (Ev.bind (spec_deedText _ _ _) (Ev.ite_pos ht e3))⟩
      simp only [spec_l20Written.l0]
      rw [if_pos (by omega), if_pos (by omega), rd_at h2, ew]
    · obtain ⟨L, e1, e2, e3⟩ := ih (i + 1) (out ++ [⟨d.f0, d.f1, d.f2⟩]) h3 (by simp; omega) (fun x hx => by
        rcases List.mem_append.1 hx with hx | hx
        · exact ho x hx
        · obtain rfl := List.mem_singleton.1 hx; exact fun hz => ht (toList_nil.2 hz))
      refine ⟨L, by simp at e1 ⊢; omega, e2, Ev.step (f := fun k => (spec_DeedText.f k d.f0 d.f1 d.f2).bind fun t180 => (if t180.toList = ([] : List UInt8) then (spec_l20Written.l0 k out l ((i + 1 : Nat) : Int) bs p) else (if out.length < 5864062014805 then (spec_l20Written.l0 k (out ++ [(⟨d.f0, d.f1, d.f2⟩ : S24)]) l ((i + 1 : Nat) : Int) bs p) else (none)))) (fun k => ?_) (Ev.bind (spec_deedText _ _ _) (Ev.ite_neg ht (Ev.ite_pos (by omega) e3)))⟩
      simp only [spec_l20Written.l0]
      rw [if_pos (by omega), if_pos (by omega), rd_at h2, ew]
theorem sameDeeds_l (l : List S24) (hl : l.length ≤ 9223372036854775806) : ∀ (d i : Nat), i + d = l.length → Ev (fun k => laws_sameDeeds.l0 k l l (i : Int)) true := by
  intro d
  induction d with
  | zero =>
    intro i h
    refine Ev.step (f := fun _ => some true) (fun k => ?_) (Ev.now _)
    simp only [laws_sameDeeds.l0]
    rw [if_neg (by omega)]
  | succ d ih =>
    intro i h
    refine Ev.step (fun k => ?_) (ih (i + 1) (by omega))
    simp only [laws_sameDeeds.l0]
    rw [if_pos (by omega), if_pos (by omega), if_pos (by omega), if_neg (by simp), w64 (by omega) (by omega)]
    rfl
theorem sameDeeds_ev (l : List S24) (hl : l.length ≤ 9223372036854775806) : Ev (fun k => laws_sameDeeds.f k l l) true := by
  unfold laws_sameDeeds.f
  exact Ev.ite_pos rfl (sameDeeds_l l hl l.length 0 (by omega))
/-- A journal's bytes. -/
def jB : List S24 → List UInt8
  | [] => []
  | d :: r => (dText d.f0 d.f1 d.f2).data.toList ++ 10 :: jB r
theorem jTxt_data : ∀ (l : List S24) (out : ByteArray), (∀ x ∈ l, (dText x.f0 x.f1 x.f2).size ≠ 0) → (jTxt l out).data.toList = out.data.toList ++ jB l
  | [], out, _ => by simp [jTxt, jB]
  | d :: r, out, h => by
    have h1 := h d List.mem_cons_self
    rw [jTxt, if_neg (fun hz => h1 (toList_nil.1 hz)), jTxt_data r _ (fun x hx => h x (List.mem_cons_of_mem _ hx)), data_app, data_app, jB]
    simp
theorem jTxt_none : ∀ (l : List S24) (out : ByteArray), (∃ x ∈ l, (dText x.f0 x.f1 x.f2).size = 0) → jTxt l out = tNone
  | [], _, h => by obtain ⟨x, hx, _⟩ := h; simp at hx
  | d :: r, out, h => by
    by_cases h1 : (dText d.f0 d.f1 d.f2).size = 0
    · rw [jTxt, if_pos (toList_nil.2 h1)]
    · rw [jTxt, if_neg (fun hz => h1 (toList_nil.1 hz))]
      refine jTxt_none r _ ?_
      obtain ⟨x, hx, hx2⟩ := h
      rcases List.mem_cons.1 hx with rfl | hx
      · exact absurd hx2 h1
      · exact ⟨x, hx, hx2⟩
theorem rjV_jB (L : List UInt8) : ∀ (l : List S24) (d p : Nat) (out : List S24), (∀ x ∈ l, (dText x.f0 x.f1 x.f2).size ≠ 0) → L.drop p = jB l → p ≤ L.length → l.length ≤ d → rjV L d out p = (out ++ l, (L.length : Int))
  | [], d, p, out, _, h, hp, _ => by
    have : L.length ≤ p := List.drop_eq_nil_iff.1 h
    have hno : (10 : UInt8) ∉ L.drop p := by rw [h]; simp [jB]
    cases d with
    | zero => rw [rjV]; simp; omega
    | succ d => rw [rjV, if_neg hno]; simp; omega
  | x :: l, d, p, out, hx, h, hp, hd => by
    obtain ⟨d, rfl⟩ : ∃ m, d = m + 1 := ⟨d - 1, by simp at hd; omega⟩
    have h1 := hx x List.mem_cons_self
    rw [jB] at h
    have hm : (10 : UInt8) ∈ L.drop p := by rw [h]; simp
    have hix : Go.Lib.index (L.drop p) [10] = ((dText x.f0 x.f1 x.f2).data.toList.length : Nat) := by
      obtain ⟨i, e1, e2, e3, e4⟩ := index_some hm
      rw [e1]
      have hno := dText_no10 x.f0 x.f1 x.f2
      rcases Nat.lt_trichotomy i (dText x.f0 x.f1 x.f2).data.toList.length with hq | hq | hq
      · exfalso
        have g : (L.drop p)[i]? = some 10 := by
          rw [e3, List.getElem?_append_right (by rw [List.length_take]; omega), List.length_take, Nat.min_eq_left (by omega)]
          simp
        rw [h, List.getElem?_append_left hq] at g
        exact hno (List.mem_of_getElem? g)
      · rw [hq]
      · exfalso
        apply e4
        rw [List.mem_iff_getElem?]
        refine ⟨(dText x.f0 x.f1 x.f2).data.toList.length, ?_⟩
        rw [List.getElem?_take, if_pos hq, h, List.getElem?_append_right (Nat.le_refl _)]
        simp
    have htake : (L.drop p).take (Go.Lib.index (L.drop p) [10]).toNat = (dText x.f0 x.f1 x.f2).data.toList := by
      rw [hix, h]; simp
    have hlen : (L.drop p).length = (dText x.f0 x.f1 x.f2).data.toList.length + 1 + (jB l).length := by rw [h]; simp; omega
    rw [List.length_drop] at hlen
    have hr : rdVal (bw ((L.drop p).take (Go.Lib.index (L.drop p) [10]).toNat)) = (x.f0, x.f1, x.f2, true) := by
      rw [htake, bw_data]; exact rd_complete rfl h1
    rw [rjV, if_pos hm, hr, if_pos rfl]
    have hdrop : L.drop (p + (Go.Lib.index (L.drop p) [10]).toNat + 1) = jB l := by
      have e1 : (Go.Lib.index (L.drop p) [10]).toNat = (dText x.f0 x.f1 x.f2).data.toList.length := by rw [hix]; omega
      rw [e1, Nat.add_assoc, ← List.drop_drop, h, ← List.drop_drop, List.drop_left]
      rfl
    have ih := rjV_jB L l d (p + (Go.Lib.index (L.drop p) [10]).toNat + 1) (out ++ [⟨x.f0, x.f1, x.f2⟩]) (fun y hy => hx y (List.mem_cons_of_mem _ hy)) hdrop (by rw [hix]; omega) (by simp at hd; omega)
    rw [ih]
    simp
theorem jTxt_size : ∀ (l : List S24) (out : ByteArray), (jTxt l out).size ≤ out.size + 300001 * l.length
  | [], out => by simp [jTxt]
  | d :: r, out => by
    rw [jTxt]
    split
    · show (0 : Nat) ≤ _; omega
    · have h1 := jTxt_size r ((out ++ dText d.f0 d.f1 d.f2) ++ ⟨#[10]⟩)
      have h2 := dText_size d.f0 d.f1 d.f2
      rw [ByteArray.size_append, ByteArray.size_append, show (⟨#[10]⟩ : ByteArray).size = 1 from rfl] at h1
      simp only [List.length_cons]
      omega
theorem drawJournal_ev {l0 : List Int} (hw : ∀ x ∈ l0, (Lit.int .u8 x).wf = true) : ∃ L : List S24, L.length ≤ 100 ∧ Ev (fun k => spec_DrawJournalText.f k l0) L := by
  obtain ⟨bs, h1, h2, h3⟩ := open_ev (Bytes.of hw)
  obtain ⟨r, a1, b1, c1⟩ := pick_ev h1 h2 (p := 0) (n := 6) (by omega) (by omega) (by omega)
  obtain ⟨n, rfl⟩ : ∃ n : Nat, r = n := ⟨r.toNat, by omega⟩
  obtain ⟨D, q, hD, q1, q2, hd⟩ := deeds_l h1 h2 n [] (0 + 1) (by omega) (by simp; omega) (by omega) (by omega)
  simp only [List.length_nil] at hD
  obtain ⟨L, e1, e2, e3⟩ := written_l D (by omega) bs q D 0 [] rfl (by simp) (by simp)
  simp only [List.length_nil] at e1
  obtain ⟨o, ho⟩ := odd_ev h1 h2 (p := q) (n := 12) (by omega) (by omega) (by omega)
  have hW : Ev (fun k => spec_l20Written.f k bs 0) (L, q) := by
    unfold spec_l20Written.f spec_l20Deeds.f
    exact Ev.bind (Ev.bind c1 hd) e3
  unfold spec_DrawJournalText.f
  cases o with
  | true => exact ⟨L ++ [⟨9, 0, 0⟩], by simp; omega, Ev.bindc h3 (Ev.bind hW (Ev.bind ho (Ev.ite_pos rfl (Ev.ite_pos (by show L.length < 5864062014805; omega) (Ev.now _)))))⟩
  | false => exact ⟨L, by omega, Ev.bindc h3 (Ev.bind hW (Ev.bind ho (Ev.ite_neg (by simp) (Ev.now _))))⟩
theorem FnJournalText : laws_FnJournalText.Pure := by
  intro l0 _ _ hw
  refine Ev.rounds ?_
  unfold laws_FnJournalText.f
  by_cases hl : (l0.length : Int) > 1048576
  · exact Ev.ite_pos hl (Ev.now _)
  refine Ev.ite_neg hl ?_
  obtain ⟨L, hL, hD⟩ := drawJournal_ev hw
  refine Ev.bind hD (Ev.bind (impl_journal L (by omega)) (Ev.bind (spec_journal L (by omega)) (Ev.ite_pos rfl ?_)))
  by_cases h0 : (jTxt L tNone).toList = ([] : List UInt8)
  · exact Ev.ite_pos h0 (Ev.bindc alive_eq (Ev.now _))
  · refine Ev.ite_neg h0 ?_
    have hall : ∀ x ∈ L, (dText x.f0 x.f1 x.f2).size ≠ 0 := fun x hx hz => h0 (by rw [jTxt_none L tNone ⟨x, hx, hz⟩]; decide +kernel)
    have hsz := jTxt_size L tNone
    have hz0 : tNone.size = 0 := rfl
    have hr := impl_readJournal (jTxt L tNone) (by omega)
    have hdata := jTxt_data L tNone hall
    have e0 : tNone.data.toList = [] := rfl
    rw [e0, List.nil_append] at hdata
    have hlenB : ∀ l : List S24, l.length ≤ (jB l).length := by
      intro l
      induction l with
      | nil => simp [jB]
      | cons x l ih => simp [jB]; omega
    have hv := rjV_jB (jTxt L tNone).data.toList L ((jTxt L tNone).size + 1) 0 [] hall (by rw [List.drop_zero]; exact hdata) (by omega) (by rw [size_data, hdata]; have := hlenB L; omega)
    rw [hv] at hr
    refine Ev.bind hr (Ev.bind (sameDeeds_ev L (by omega)) (Ev.ite_pos rfl ?_))
    rw [size_data]
    simp only [beq_self_eq_true]
    exact Ev.now _

end Go.Proofs.YtmgjidgfhlclmaaDoor.Pure
