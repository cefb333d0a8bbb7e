/-
  Squares are counted by divisors, up to 10000; the numbers that are sums of two squares: asked number by number by the kernel.
-/
import Derived.Test.YtegdgaldbjdcmaaLibCs
import Derived.Test.YtegdgaldbjdcmaaLibLsg
import Derived.Test.YtegdgaldbjdcmaaLibSqr
import Derived.Test.YtegdgaldbjdcmaaLibKer
namespace Go.Proofs.Ytegdgaldbjdcmaa.Lib
open Go.RowKit Go.Proofs.YtegdgaldbjdcmaaW.PrintWords
set_option linter.unusedVariables false
set_option linter.unusedSimpArgs false

/-- A bit for each square below m times m. -/
def sqMask : Nat → Nat
  | 0 => 0
  | m + 1 => sqMask m ||| 2 ^ (m * m)
theorem sqMask_bit : ∀ (m r : Nat), (sqMask m).testBit r = true ↔ ∃ b, b < m ∧ b * b = r := by
  intro m
  induction m with
  | zero => intro r; simp [sqMask]
  | succ m ih =>
    intro r
    simp only [sqMask, Nat.testBit_or, Bool.or_eq_true, ih r, Nat.testBit_two_pow, decide_eq_true_eq]
    constructor
    · rintro (⟨b, h1, h2⟩ | h)
      · exact ⟨b, by omega, h2⟩
      · exact ⟨m, by omega, h⟩
    · rintro ⟨b, h1, h2⟩
      by_cases e : b = m
      · subst e; exact .inr h2
      · exact .inl ⟨b, by omega, h2⟩
theorem bit_beq (M r : Nat) : Nat.beq (Nat.land (Nat.shiftRight M r) 1) 1 = M.testBit r := by
  have e : Nat.land (Nat.shiftRight M r) 1 = (M >>> r) % 2 := Nat.and_one_is_mod _
  rw [e, Nat.testBit_eq_decide_div_mod_eq, ← Nat.shiftRight_eq_div_pow]
  rw [Bool.eq_iff_iff]
  simp only [decide_eq_true_eq]
  exact ⟨fun h => Nat.eq_of_beq_eq_true h, fun h => by rw [h]; rfl⟩
theorem tsum_single {g : Nat → Nat} {b : Nat} : ∀ (f s : Nat), s ≤ b → b < s + f → (∀ j, s ≤ j → j ≠ b → g j = 0) → tsum g f s = g b := by
  intro f
  induction f with
  | zero => intro s h1 h2; omega
  | succ f ih =>
    intro s h1 h2 h
    simp only [tsum]
    by_cases e : s = b
    · subst e
      rw [tsum_zero f (s + 1) (fun j hj => h j (by omega) (by omega))]
      omega
    · rw [h s (Nat.le_refl _) e, ih (s + 1) (by omega) (by omega) (fun j hj hjb => h j (by omega) hjb)]
      omega
theorem sq_inj {a b : Nat} (h : a * a = b * b) : a = b := by
  rcases Nat.lt_trichotomy a b with hlt | he | hlt
  · have : a * a < b * b := Nat.mul_lt_mul'' hlt hlt
    omega
  · exact he
  · have : b * b < a * a := Nat.mul_lt_mul'' hlt hlt
    omega
theorem csIn_bit (n x : Nat) (h : x ≤ n) : csIn n x = if (sqMask 101).testBit (n - x) = true then (if x = n then 1 else 2) else 0 := by
  unfold csIn
  by_cases hb : (sqMask 101).testBit (n - x) = true
  · rw [if_pos hb]
    obtain ⟨b, hb1, hb2⟩ := (sqMask_bit 101 (n - x)).1 hb
    rw [tsum_single (b := b) 101 0 (by omega) (by omega) (fun j _ hj => ?_)]
    · unfold csG
      rw [if_pos (by omega)]
      unfold wt
      by_cases e : b = 0
      · subst e; rw [if_pos rfl, if_pos (by omega)]
      · rw [if_neg e, if_neg (fun hx => ?_)]
        have : b * 1 ≤ b * b := Nat.mul_le_mul_left b (by omega)
        omega
    · unfold csG
      rw [if_neg (fun hx => hj (sq_inj (by omega)))]
  · rw [if_neg hb]
    have key : ∀ (f s : Nat), s + f = 101 → tsum (csG n x) f s = 0 := by
      intro f
      induction f with
      | zero => intro s _; rfl
      | succ f ih =>
        intro s hs
        simp only [tsum]
        rw [ih (s + 1) (by omega)]
        unfold csG
        rw [if_neg (fun hx => hb ((sqMask_bit 101 (n - x)).2 ⟨s, by omega, by omega⟩))]
    exact key 101 0 (by omega)
noncomputable def csK (M n : Nat) (f : Nat) : Nat :=
  Nat.rec (motive := fun _ => Nat) 0 (fun a ih => cond (Nat.ble (Nat.mul a a) n) (cond (Nat.beq (Nat.land (Nat.shiftRight M (Nat.sub n (Nat.mul a a))) 1) 1) (Nat.add ih (Nat.mul (cond (Nat.beq a 0) 1 2) (cond (Nat.beq (Nat.mul a a) n) 1 2))) ih) ih) f
theorem csK_eq (n : Nat) : ∀ f, csK (sqMask 101) n f = tsum (fun a => wt a * csIn n (a * a)) f 0 := by
  intro f
  induction f with
  | zero => rfl
  | succ f ih =>
    rw [tsum_last, Nat.zero_add, ← ih]
    have e : csK (sqMask 101) n (f + 1) = cond (Nat.ble (f * f) n) (cond (Nat.beq (Nat.land (Nat.shiftRight (sqMask 101) (n - f * f)) 1) 1) ((csK (sqMask 101) n f) + ((cond (Nat.beq f 0) 1 2) * (cond (Nat.beq (f * f) n) 1 2))) (csK (sqMask 101) n f)) (csK (sqMask 101) n f) := rfl
    rw [e, cond_ble, bit_beq, cond_beq, cond_beq]
    by_cases h : f * f ≤ n
    · rw [if_pos h, csIn_bit n _ h]
      cases hb : (sqMask 101).testBit (n - f * f) with
      | true => simp only [cond_true, if_true, wt]
      | false => simp
    · rw [if_neg h]
      have hz : csIn n (f * f) = 0 := tsum_zero _ _ (fun b _ => by unfold csG; rw [if_neg (by omega)])
      rw [hz]
      omega
noncomputable def byK (n : Nat) (f : Nat) : Nat → Nat → Nat → Nat × Nat :=
  Nat.rec (motive := fun _ => Nat → Nat → Nat → Nat × Nat) (fun _ p q => (p, q))
    (fun _ ih d p q => cond (Nat.ble (Nat.mul d d) n)
      (cond (Nat.beq (Nat.mod n d) 0)
        (ih (Nat.succ d) (Nat.add p (Nat.add (cond (Nat.beq (Nat.mod d 4) 1) 1 0) (cond (Nat.ble (Nat.succ (Nat.mul d d)) n) (cond (Nat.beq (Nat.mod (Nat.div n d) 4) 1) 1 0) 0)))
          (Nat.add q (Nat.add (cond (Nat.beq (Nat.mod d 4) 3) 1 0) (cond (Nat.ble (Nat.succ (Nat.mul d d)) n) (cond (Nat.beq (Nat.mod (Nat.div n d) 4) 3) 1 0) 0))))
        (ih (Nat.succ d) p q)) (p, q)) f
theorem lsg_cond (d : Nat) : lsg (d : Int) = ((cond (Nat.beq (d % 4) 1) 1 0 : Nat) : Int) - ((cond (Nat.beq (d % 4) 3) 1 0 : Nat) : Int) := by
  rw [cond_beq, cond_beq]
  unfold lsg
  have e : (d : Int) % 4 = ((d % 4 : Nat) : Int) := rfl
  rw [e]
  generalize d % 4 = r
  by_cases h1 : r = 1
  · subst h1; simp
  · by_cases h3 : r = 3
    · subst h3; simp
    · rw [if_neg (by omega), if_neg (by omega), if_neg h1, if_neg h3]; rfl
theorem byK_eq (n : Nat) : ∀ (f d p q : Nat), ((byK n f d p q).1 : Int) - ((byK n f d p q).2 : Int) = (p : Int) - (q : Int) + bySum (sm n f d) + bySum (bk n f d) := by
  intro f
  induction f with
  | zero =>
    intro d p q
    simp only [sm, bk, bySum, List.map_nil, List.sum_nil]
    show (p : Int) - (q : Int) = _
    omega
  | succ f ih =>
    intro d p q
    have e : byK n (f + 1) d p q = cond (Nat.ble (d * d) n)
      (cond (Nat.beq (n % d) 0)
        (byK n f (d + 1) (p + ((cond (Nat.beq (d % 4) 1) 1 0) + (cond (Nat.ble (d * d + 1) n) (cond (Nat.beq (n / d % 4) 1) 1 0) 0)))
          (q + ((cond (Nat.beq (d % 4) 3) 1 0) + (cond (Nat.ble (d * d + 1) n) (cond (Nat.beq (n / d % 4) 3) 1 0) 0))))
        (byK n f (d + 1) p q)) (p, q) := rfl
    have hl := lsg_cond d
    have hl2 := lsg_cond (n / d)
    rw [e, cond_ble, cond_beq (n % d), cond_ble (d * d + 1), cond_ble (d * d + 1)]
    generalize hp1 : cond (Nat.beq (d % 4) 1) 1 0 = p1 at *
    generalize hq1 : cond (Nat.beq (d % 4) 3) 1 0 = q1 at *
    generalize hp2 : cond (Nat.beq (n / d % 4) 1) 1 0 = p2 at *
    generalize hq2 : cond (Nat.beq (n / d % 4) 3) 1 0 = q2 at *
    simp only [sm, bk]
    by_cases h : d * d ≤ n
    · rw [if_pos h, if_pos h, if_pos h]
      by_cases hm : n % d = 0
      · rw [if_pos hm, if_pos hm, if_pos hm, bySum_cons, hl]
        by_cases hlt : d * d < n
        · rw [if_pos hlt, if_pos (show d * d + 1 ≤ n from hlt), if_pos (show d * d + 1 ≤ n from hlt), bySum_cons, hl2, ih]
          omega
        · rw [if_neg hlt, if_neg (show ¬ d * d + 1 ≤ n from hlt), if_neg (show ¬ d * d + 1 ≤ n from hlt), ih]
          omega
      · rw [if_neg hm, if_neg hm, if_neg hm, ih]
    · rw [if_neg h, if_neg h, if_neg h]
      simp only [bySum, List.map_nil, List.sum_nil]
      omega
theorem bySum_append (l m : List Nat) : bySum (l ++ m) = bySum l + bySum m := by simp [bySum]
theorem bySum_reverse (l : List Nat) : bySum l.reverse = bySum l := by
  induction l with
  | nil => rfl
  | cons x l ih => rw [List.reverse_cons, bySum_append, ih, bySum_cons, bySum_cons]; simp [bySum]; omega
theorem byD_eq (n : Nat) : byD n = 4 * (((byK n 101 1 0 0).1 : Int) - ((byK n 101 1 0 0).2 : Int)) := by
  unfold byD dv
  rw [byK_eq, bySum_append, bySum_reverse]
  omega
noncomputable def sqK (f : Nat) : Nat → Nat → Bool :=
  Nat.rec (motive := fun _ => Nat → Nat → Bool) (fun _ _ => true)
    (fun _ ih n p => cond (Nat.ble n 1) true
      (cond (Nat.ble (Nat.mul p p) n)
        (cond (Nat.beq (Nat.mod n p) 0)
          (and (not (and (Nat.beq (Nat.mod p 4) 3) (Nat.beq (Nat.mod (strip 14 n p 0).2 2) 1))) (ih (strip 14 n p 0).1 (Nat.succ p)))
          (ih n (Nat.succ p)))
        (not (Nat.beq (Nat.mod n 4) 3)))) f
theorem beq_beq (a b : Nat) : Nat.beq a b = (a == b) := by
  rw [Bool.eq_iff_iff, beq_iff_eq]
  exact ⟨fun h => Nat.eq_of_beq_eq_true h, fun h => by rw [h]; exact Nat.beq_refl b⟩
theorem sqK_eq : ∀ (f n p : Nat), (n ≤ 1 ∨ 1 ≤ f) → (n ≤ 1 ∨ 103 ≤ p + f) → 1 ≤ n → n ≤ 10000 → 2 ≤ p → sqF (facI f n p) = sqK f n p := by
  intro f
  induction f with
  | zero =>
    intro n p h _ h1 _ _
    rw [facI_one 0 p (by omega)]
    rfl
  | succ f ih =>
    intro n p _ h103 h1 h2 hp
    have e : sqK (f + 1) n p = cond (Nat.ble n 1) true
      (cond (Nat.ble (p * p) n)
        (cond (Nat.beq (n % p) 0)
          ((!(Nat.beq (p % 4) 3 && Nat.beq ((strip 14 n p 0).2 % 2) 1)) && (sqK f (strip 14 n p 0).1 (p + 1)))
          (sqK f n (p + 1)))
        (!(Nat.beq (n % 4) 3))) := rfl
    rw [e, cond_ble, beq_beq (p % 4), beq_beq ((strip 14 n p 0).2 % 2), beq_beq (n % 4)]
    by_cases hn : n ≤ 1
    · rw [if_pos hn, facI_one _ _ hn]; rfl
    · rw [if_neg hn, cond_ble]
      by_cases hc : p * p ≤ n
      · have hp100 : p ≤ 100 := by
          refine Nat.le_of_not_lt (fun hlt => ?_)
          have : 101 * 101 ≤ p * p := Nat.mul_le_mul hlt hlt
          omega
        obtain ⟨s1, s2, s3, s4, s5, s6, s7⟩ := strip_spec p hp 14 n 0 h1 (by omega)
        rw [if_pos hc, cond_beq, facI_succ, if_pos (by omega)]
        simp only [if_neg (show ¬ (p * p > n) by omega)]
        by_cases hm : n % p = 0
        · have hs : 0 < (strip 14 n p 0).2 := by
            refine Nat.pos_of_ne_zero (fun hz => ?_)
            rw [hz] at s7
            simp at s7
            rw [← s7] at s4
            exact s4 hm
          rw [if_pos hm, if_pos hs]
          have ih := ih (strip 14 n p 0).1 (p + 1) (.inr (by omega)) (.inr (by omega)) s1 (by omega) (by omega)
          simp only [sqF, List.all_cons] at ih ⊢
          rw [ih]
        · rw [if_neg hm, strip_none hm, if_neg (by simp)]
          exact ih n (p + 1) (.inr (by omega)) (.inr (by omega)) h1 h2 (by omega)
      · rw [if_neg hc, facI_prime f p (by omega) (by omega)]
        simp [sqF]
noncomputable def jacB (M n : Nat) : Bool := and (Nat.beq (Nat.add (csK M n 101) (Nat.mul 4 (byK n 101 1 0 0).2)) (Nat.mul 4 (byK n 101 1 0 0).1)) (cond (Nat.ble 1 (csK M n 101)) (sqK 101 n 2) (not (sqK 101 n 2)))
theorem jac0 : allR (jacB (sqMask 101)) (0 * 1000 + 1) 1000 = true := by decide +kernel

theorem jac1 : allR (jacB (sqMask 101)) (1 * 1000 + 1) 1000 = true := by decide +kernel

theorem jac2 : allR (jacB (sqMask 101)) (2 * 1000 + 1) 1000 = true := by decide +kernel

theorem jac3 : allR (jacB (sqMask 101)) (3 * 1000 + 1) 1000 = true := by decide +kernel

theorem jac4 : allR (jacB (sqMask 101)) (4 * 1000 + 1) 1000 = true := by decide +kernel

theorem jac5 : allR (jacB (sqMask 101)) (5 * 1000 + 1) 1000 = true := by decide +kernel

theorem jac6 : allR (jacB (sqMask 101)) (6 * 1000 + 1) 1000 = true := by decide +kernel

theorem jac7 : allR (jacB (sqMask 101)) (7 * 1000 + 1) 1000 = true := by decide +kernel

theorem jac8 : allR (jacB (sqMask 101)) (8 * 1000 + 1) 1000 = true := by decide +kernel

theorem jac9 : allR (jacB (sqMask 101)) (9 * 1000 + 1) 1000 = true := by decide +kernel

theorem jac_at {n : Nat} (h1 : 1 ≤ n) (h2 : n ≤ 10000) : jacB (sqMask 101) n = true := by
  by_cases c0 : n ≤ 1000
  · exact allR_at jac0 n (by omega) (by omega)
  by_cases c1 : n ≤ 2000
  · exact allR_at jac1 n (by omega) (by omega)
  by_cases c2 : n ≤ 3000
  · exact allR_at jac2 n (by omega) (by omega)
  by_cases c3 : n ≤ 4000
  · exact allR_at jac3 n (by omega) (by omega)
  by_cases c4 : n ≤ 5000
  · exact allR_at jac4 n (by omega) (by omega)
  by_cases c5 : n ≤ 6000
  · exact allR_at jac5 n (by omega) (by omega)
  by_cases c6 : n ≤ 7000
  · exact allR_at jac6 n (by omega) (by omega)
  by_cases c7 : n ≤ 8000
  · exact allR_at jac7 n (by omega) (by omega)
  by_cases c8 : n ≤ 9000
  · exact allR_at jac8 n (by omega) (by omega)
  · exact allR_at jac9 n (by omega) (by omega)
theorem cs_eq_byD {n : Nat} (h1 : 1 ≤ n) (h2 : n ≤ 10000) : ((cs n : Nat) : Int) = byD n := by
  have h := jac_at h1 h2
  unfold jacB at h
  rw [Bool.and_eq_true] at h
  have ha := Nat.eq_of_beq_eq_true h.1
  rw [csK_eq] at ha
  rw [byD_eq]
  unfold cs
  simp only [Nat.add_eq, Nat.mul_eq] at ha
  omega
theorem sqOk_iff {n : Nat} (h1 : 1 ≤ n) (h2 : n ≤ 10000) : sqOk n = decide (1 ≤ cs n) := by
  have h := jac_at h1 h2
  unfold jacB at h
  rw [Bool.and_eq_true] at h
  have hb := h.2
  rw [csK_eq, cond_ble] at hb
  have e : sqOk n = sqK 101 n 2 := sqK_eq 101 n 2 (.inr (by omega)) (.inr (by omega)) h1 h2 (by omega)
  rw [e]
  unfold cs
  by_cases hc : 1 ≤ tsum (fun a => wt a * csIn n (a * a)) 101 0
  · rw [if_pos hc] at hb
    rw [hb, decide_eq_true hc]
  · rw [if_neg hc] at hb
    rw [decide_eq_false hc]
    simpa using hb
/-- There is a way exactly if there are two squares. -/
theorem tsum_pos {g : Nat → Nat} : ∀ (f s b : Nat), s ≤ b → b < s + f → 1 ≤ g b → 1 ≤ tsum g f s := by
  intro f
  induction f with
  | zero => intro s b h1 h2; omega
  | succ f ih =>
    intro s b h1 h2 h3
    simp only [tsum]
    by_cases e : s = b
    · subst e; omega
    · have := ih (s + 1) b (by omega) (by omega) h3
      omega
theorem cs_pos {n a b : Nat} (hn : n ≤ 10000) (h : a * a + b * b = n) : 1 ≤ cs n := by
  have ha : a < 101 := by
    refine Nat.lt_of_not_le (fun hle => ?_)
    have : 101 * 101 ≤ a * a := Nat.mul_le_mul hle hle
    omega
  have hb : b < 101 := by
    refine Nat.lt_of_not_le (fun hle => ?_)
    have : 101 * 101 ≤ b * b := Nat.mul_le_mul hle hle
    omega
  have hw : ∀ x, 1 ≤ wt x := fun x => by unfold wt; split <;> omega
  unfold cs
  refine tsum_pos 101 0 a (by omega) (by omega) ?_
  have h1 : 1 ≤ csIn n (a * a) := by
    unfold csIn
    refine tsum_pos 101 0 b (by omega) (by omega) ?_
    unfold csG
    rw [if_pos h]
    exact hw b
  have := Nat.mul_le_mul (hw a) h1
  omega
theorem cs_none {n : Nat} (h : ∀ a b, a * a + b * b ≠ n) : cs n = 0 := by
  have h1 : ∀ a, csIn n (a * a) = 0 := fun a => tsum_zero _ _ (fun b _ => by unfold csG; rw [if_neg (h a b)])
  unfold cs
  exact tsum_zero _ _ (fun a _ => by simp only [h1, Nat.mul_zero])

end Go.Proofs.Ytegdgaldbjdcmaa.Lib
