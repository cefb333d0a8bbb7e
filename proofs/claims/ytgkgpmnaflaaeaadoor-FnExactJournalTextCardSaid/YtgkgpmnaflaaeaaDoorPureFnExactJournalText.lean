/-
  For every list of deeds the program's JournalText and the reference's answer the same text.
-/
import Derived.Test.YtgkgpmnaflaaeaaDoorPFnExactJournalTextx6
import Derived.Test.YtgkgpmnaflaaeaaDoorLib
import Derived.Test.YtgkgpmnaflaaeaaDoorLibTxt
namespace Go.Proofs.YtgkgpmnaflaaeaaDoor.Pure
open Go.RowKit Go.Proofs.YtgkgpmnaflaaeaaDoor.PFnExactJournalText Go.Proofs.YtgkgpmnaflaaeaaDoorW.PrintWords Go.Proofs.YtgkgpmnaflaaeaaDoorW.PrintLast Go.Proofs.YtgkgpmnaflaaeaaDoorW.PrintMore Go.Proofs.YtgkgpmnaflaaeaaDoor.Lib
set_option linter.unusedVariables false
set_option linter.unusedSimpArgs false

/-- The text of a journal, behind what is written already. -/
def jTxt : List S25 → ByteArray → ByteArray
  | [], out => out
  | d :: r, out => if (dText d.f0 d.f1 d.f2).toList = ([] : List UInt8) then tNone else jTxt r ((out ++ dText d.f0 d.f1 d.f2) ++ ⟨#[10]⟩)
theorem dText_size (a b c : Int) : (dText a b c).size ≤ 300000 := by
  unfold dText
  split
  · rename_i h
    obtain ⟨n, rfl⟩ : ∃ n : Nat, b = n := ⟨b.toNat, by omega⟩
    obtain ⟨m, rfl⟩ : ∃ m : Nat, c = m := ⟨c.toNat, by omega⟩
    have s1 := digB_size n (by omega)
    have s2 := digB_size m (by omega)
    rw [ByteArray.size_append, ByteArray.size_append, ByteArray.size_append, show tSet.size = 4 from rfl, show tSp.size = 1 from rfl]
    omega
  · split
    · show (0 : Nat) ≤ _; omega
    · rename_i h
      have h2 := Decidable.not_not.1 h
      obtain ⟨n, rfl⟩ : ∃ n : Nat, b = n := ⟨b.toNat, by omega⟩
      have s1 := digB_size n (by omega)
      repeat' split
      all_goals first
        | (rw [ByteArray.size_append, show tTimes.size = 6 from rfl]; omega)
        | (rw [ByteArray.size_append, show tUnit.size = 8 from rfl]; omega)
        | (show (7 : Nat) ≤ _; omega)
        | (show (4 : Nat) ≤ _; omega)
        | (show (0 : Nat) ≤ _; omega)
theorem rd_at {l : List S25} {i : Nat} {d : S25} (h : l[i]? = some d) : rd_T25 l (i : Int) = d := by
  unfold rd_T25
  simp [List.getD, h]

theorem l1In_eq (a b c : Int) : spec_l1In.f a b c = some (decide (b ≤ a ∧ a ≤ c)) := by
  unfold spec_l1In.f
  by_cases h : a ≥ b
  · rw [if_pos h]; simp [h]
  · rw [if_neg h]; congr 1; symm; simp; intro h2; omega

theorem spec_number : ∀ (m n : Nat), n ≤ m → n ≤ 100000 → Ev (fun k => spec_l1Number.f k (n : Int)) (digB (n : Int)) := by
  intro m
  induction m with
  | zero =>
    intro n hn hb
    obtain rfl : n = 0 := by omega
    rw [digB_nat, Go.Lib.decDigits_one (by omega)]
    refine Ev.step (f := fun k => spec_l1Number.j0 k 0 false) (fun k => ?_) (Ev.step (f := fun _ => some (strOfNums [((48 + 0 : Nat) : Int) % 256])) (fun k => ?_) ?_)
    · simp only [spec_l1Number.f]; rfl
    · simp only [spec_l1Number.j0]; rw [if_neg (by simp), if_neg (by omega), if_pos (by omega), w64 (by omega) (by omega)]; rfl
    · rw [strOf_one]; exact Ev.now _
  | succ m ih =>
    intro n hn hb
    rw [digB_nat]
    refine Ev.step (f := fun k => spec_l1Number.j0 k (n : Int) false) (fun k => ?_) ?_
    · simp only [spec_l1Number.f]; rw [if_neg (by omega)]
    by_cases h : n < 10
    · rw [Go.Lib.decDigits_one h, ← strOf_one]
      refine Ev.step (f := fun k => some _) (fun k => ?_) (Ev.now _)
      simp only [spec_l1Number.j0]
      rw [if_neg (by simp), if_neg (by omega), if_pos (by omega), w64 (by omega) (by omega)]
      rfl
    · have h1 := ih (n / 10) (by omega) (by omega)
      have hsz := digB_size (n / 10) (by omega)
      refine Ev.step (f := fun k => (spec_l1Number.f k ((n / 10 : Nat) : Int)).bind fun t => if t.size + (strOfNums [((48 + n % 10 : Nat) : Int) % 256]).size ≤ 9223372036854775807 then some (t ++ strOfNums [((48 + n % 10 : Nat) : Int) % 256]) else none) (fun k => ?_) (Ev.bind h1 ?_)
      · simp only [spec_l1Number.j0]
        rw [if_neg (by simp), if_neg (by omega), if_neg (by omega), show (10 : Int) = ((10 : Nat) : Int) from rfl, tdiv_nat, tmod_nat, w64 (by omega) (by omega), w64 (by omega) (by omega)]
        rfl
      · rw [strOf_one]
        refine Ev.ite_pos ?_ ?_
        · have : (⟨[UInt8.ofNat (48 + n % 10)].toArray⟩ : ByteArray).size = 1 := rfl
          omega
        · rw [digB_nat, bytes_append]
          have e : Go.Lib.decDigits n = Go.Lib.decDigits (n / 10) ++ [UInt8.ofNat (48 + n % 10)] := by rw [Go.Lib.decDigits, dif_neg h]
          rw [e]
          exact Ev.now _

theorem spec_j2f (a x y : Int) : Ev (fun k => spec_DeedText.j2 k false a x y) (if a = 4 ∧ x = 0 ∧ y = 0 then tBack else tNone) := by
  refine Ev.step (f := fun _ => some (if a = 4 ∧ x = 0 ∧ y = 0 then tBack else tNone)) (fun k => ?_) (Ev.now _)
  simp only [spec_DeedText.j2]
  rw [if_neg (by simp)]
  by_cases h : a = 4 ∧ x = 0 ∧ y = 0
  · rw [if_pos (by simp [h]), if_pos h]; rfl
  · rw [if_neg (by simpa using h), if_neg h]; rfl
theorem spec_j2t (a x y : Int) (h : 0 ≤ x ∧ x ≤ 99 ∧ 0 ≤ y ∧ y ≤ 9999) : Ev (fun k => spec_DeedText.j2 k true a x y) (((tSet ++ digB x) ++ tSp) ++ digB y) := by
  obtain ⟨h1, h2, h4, h5⟩ := h
  obtain ⟨n, rfl⟩ : ∃ n : Nat, x = n := ⟨x.toNat, by omega⟩
  obtain ⟨m, rfl⟩ : ∃ m : Nat, y = m := ⟨y.toNat, by omega⟩
  have s1 := digB_size n (by omega)
  have s2 := digB_size m (by omega)
  refine Ev.step (f := fun k => (spec_l1Number.f k (n : Int)).bind fun t116 => (if 4 + t116.size ≤ 9223372036854775807 then (if (tSet ++ t116).size + 1 ≤ 9223372036854775807 then ((spec_l1Number.f k (m : Int)).bind fun t117 => (if ((tSet ++ t116) ++ tSp).size + t117.size ≤ 9223372036854775807 then (some (((tSet ++ t116) ++ tSp) ++ t117)) else (none))) else (none)) else (none))) (fun k => ?_) ?_
  · simp only [spec_DeedText.j2, if_true]; rfl
  · refine Ev.bind (spec_number n n (Nat.le_refl _) (by omega)) (Ev.ite_pos (by omega) (Ev.ite_pos ?_ (Ev.bind (spec_number m m (Nat.le_refl _) (by omega)) (Ev.ite_pos ?_ (Ev.now _)))))
    · rw [ByteArray.size_append, show tSet.size = 4 from rfl]; omega
    · rw [ByteArray.size_append, ByteArray.size_append, show tSet.size = 4 from rfl, show tSp.size = 1 from rfl]; omega
/-- What comes behind times and unitary. -/
theorem spec_rest (a x y : Int) (h0 : ¬ (a = 0 ∧ 0 ≤ x ∧ x ≤ 9 ∧ y = 0)) (h1 : ¬ (a = 1 ∧ 0 ≤ x ∧ x ≤ 9 ∧ y = 0)) : Ev (fun k => spec_DeedText.j1 k false a x y) (dText a x y) := by
  by_cases hi : a = 2 ∧ x = 0 ∧ y = 0
  · obtain ⟨rfl, rfl, rfl⟩ := hi
    refine Ev.step (f := fun _ => some tInv) (fun k => ?_) (Ev.now _)
    simp only [spec_DeedText.j1]; rfl
  · have hi2 : ¬ (a == 2 && (x == 0 && y == 0)) = true := by simpa using hi
    by_cases h3 : a = 3
    · subst h3
      by_cases c : 0 ≤ x ∧ x ≤ 99 ∧ 0 ≤ y ∧ y ≤ 9999
      · have e : dText 3 x y = ((tSet ++ digB x) ++ tSp) ++ digB y := by unfold dText; rw [if_pos ⟨rfl, c⟩]
        rw [e]
        refine Ev.step (f := fun k => spec_DeedText.j2 k true 3 x y) (fun k => ?_) (spec_j2t 3 x y c)
        simp only [spec_DeedText.j1]
        rw [if_neg (by simp), if_neg hi2, if_pos trivial, l1In_eq, Option.bind_some, l1In_eq, if_pos (by simp [c]), Option.bind_some]
        congr 1
        simp [c]
      · have e : dText 3 x y = (if (3 : Int) = 4 ∧ x = 0 ∧ y = 0 then tBack else tNone) := by
          unfold dText
          rw [if_neg (fun z => c z.2)]
          by_cases hh : y = 0 ∧ 0 ≤ x ∧ x ≤ 9
          · rw [if_neg (by simpa using hh), if_neg (by omega), if_neg (by omega), if_neg (by omega), if_neg (by omega), if_neg (by omega)]
          · rw [if_pos hh, if_neg (by omega)]
        rw [e]
        refine Ev.step (f := fun k => spec_DeedText.j2 k false 3 x y) (fun k => ?_) (spec_j2f 3 x y)
        simp only [spec_DeedText.j1]
        rw [if_neg (by simp), if_neg hi2, if_pos trivial, l1In_eq, Option.bind_some, l1In_eq]
        by_cases c1 : 0 ≤ x ∧ x ≤ 99
        · rw [if_pos (by simpa using c1), Option.bind_some]
          congr 1
          exact decide_eq_false (fun z => c ⟨c1.1, c1.2, z.1, z.2⟩)
        · rw [if_neg (by simpa using c1)]
    · have e : dText a x y = (if a = 4 ∧ x = 0 ∧ y = 0 then tBack else tNone) := by
        unfold dText
        rw [if_neg (fun z => h3 z.1)]
        by_cases hh : y = 0 ∧ 0 ≤ x ∧ x ≤ 9
        · rw [if_neg (by simpa using hh), if_neg (fun z => h0 ⟨z, hh.2.1, hh.2.2, hh.1⟩), if_neg (fun z => h1 ⟨z, hh.2.1, hh.2.2, hh.1⟩), if_neg (fun z => hi ⟨z.2, z.1, hh.1⟩)]
          by_cases h4 : a = 4 ∧ x = 0 ∧ y = 0
          · rw [if_pos h4, if_pos ⟨h4.2.1, h4.1⟩]
          · rw [if_neg h4, if_neg (fun z => h4 ⟨z.2, z.1, hh.1⟩)]
        · rw [if_pos hh, if_neg (fun z => hh ⟨z.2.2, by omega, by omega⟩)]
      rw [e]
      refine Ev.step (f := fun k => spec_DeedText.j2 k false a x y) (fun k => ?_) (spec_j2f a x y)
      simp only [spec_DeedText.j1]
      rw [if_neg (by simp), if_neg hi2, if_neg h3]
theorem spec_j1 (b : Bool) (a x y : Int) (hb : b = decide (a = 1 ∧ 0 ≤ x ∧ x ≤ 9 ∧ y = 0)) (h0 : ¬ (a = 0 ∧ 0 ≤ x ∧ x ≤ 9 ∧ y = 0)) : Ev (fun k => spec_DeedText.j1 k b a x y) (dText a x y) := by
  cases b with
  | true =>
    obtain ⟨rfl, h1, h2, rfl⟩ := of_decide_eq_true hb.symm
    obtain ⟨n, rfl⟩ : ∃ n : Nat, x = n := ⟨x.toNat, by omega⟩
    have s1 := digB_size n (by omega)
    have e : dText 1 (n : Int) 0 = tUnit ++ digB (n : Int) := by
      unfold dText; rw [if_neg (by omega), if_neg (by omega), if_neg (by omega), if_pos rfl]
    rw [e]
    refine Ev.step (f := fun k => (spec_l1Number.f k (n : Int)).bind fun t => if 8 + t.size ≤ 9223372036854775807 then some (tUnit ++ t) else none) (fun k => ?_) (Ev.bind (spec_number n n (Nat.le_refl _) (by omega)) (Ev.ite_pos (by omega) (Ev.now _)))
    simp only [spec_DeedText.j1, if_true]; rfl
  | false => exact spec_rest a x y h0 (of_decide_eq_false hb.symm)
theorem spec_j0 (b : Bool) (a x y : Int) (hb : b = decide (a = 0 ∧ 0 ≤ x ∧ x ≤ 9 ∧ y = 0)) : Ev (fun k => spec_DeedText.j0 k b a x y) (dText a x y) := by
  cases b with
  | true =>
    obtain ⟨rfl, h1, h2, rfl⟩ := of_decide_eq_true hb.symm
    obtain ⟨n, rfl⟩ : ∃ n : Nat, x = n := ⟨x.toNat, by omega⟩
    have s1 := digB_size n (by omega)
    have e : dText 0 (n : Int) 0 = tTimes ++ digB (n : Int) := by
      unfold dText; rw [if_neg (by omega), if_neg (by omega), if_pos rfl]
    rw [e]
    refine Ev.step (f := fun k => (spec_l1Number.f k (n : Int)).bind fun t => if 6 + t.size ≤ 9223372036854775807 then some (tTimes ++ t) else none) (fun k => ?_) (Ev.bind (spec_number n n (Nat.le_refl _) (by omega)) (Ev.ite_pos (by omega) (Ev.now _)))
    simp only [spec_DeedText.j0, if_true]; rfl
  | false =>
    refine Ev.step (f := fun k => spec_DeedText.j1 k (decide (a = 1 ∧ 0 ≤ x ∧ x ≤ 9 ∧ y = 0)) a x y) (fun k => ?_) (spec_j1 _ a x y rfl (of_decide_eq_false hb.symm))
    simp only [spec_DeedText.j0]
    rw [if_neg (by simp)]
    by_cases h1 : a = 1
    · rw [if_pos h1, l1In_eq, Option.bind_some]
      by_cases h2 : 0 ≤ x ∧ x ≤ 9
      · rw [if_pos (by simpa using h2)]; congr 1
        by_cases h3 : y = 0 <;> simp [h1, h2, h3]
      · rw [if_neg (by simpa using h2)]; congr 1
        exact (decide_eq_false (fun z => h2 ⟨z.2.1, z.2.2.1⟩)).symm
    · rw [if_neg h1]; congr 1
      exact (decide_eq_false (fun z => h1 z.1)).symm
theorem spec_deedText (a x y : Int) : Ev (fun k => spec_DeedText.f k a x y) (dText a x y) := by
  refine Ev.congr (f := fun k => spec_DeedText.j0 k (decide (a = 0 ∧ 0 ≤ x ∧ x ≤ 9 ∧ y = 0)) a x y) (fun k => ?_) (spec_j0 _ a x y rfl)
  unfold spec_DeedText.f
  by_cases h1 : a = 0
  · rw [if_pos h1, l1In_eq, Option.bind_some]
    by_cases h2 : 0 ≤ x ∧ x ≤ 9
    · rw [if_pos (by simpa using h2)]; congr 1
      by_cases h3 : y = 0 <;> simp [h1, h2, h3]
    · rw [if_neg (by simpa using h2)]; congr 1
      exact (decide_eq_false (fun z => h2 ⟨z.2.1, z.2.2.1⟩)).symm
  · rw [if_neg h1]; congr 1
    exact (decide_eq_false (fun z => h1 z.1)).symm

theorem spec_jL (l : List S25) (hl : l.length ≤ 1048576) : ∀ (r : List S25) (i : Nat) (out : ByteArray), l.drop i = r → out.size ≤ i * 300001 → Ev (fun k => spec_JournalText.l0 k l out (i : Int)) (jTxt r out) := by
  intro r
  induction r with
  | nil =>
    intro i out h _
    have : l.length ≤ i := List.drop_eq_nil_iff.1 h
    refine Ev.step (f := fun _ => some out) (fun k => ?_) (Ev.now _)
    simp only [spec_JournalText.l0]
    rw [if_neg (by omega)]
  | cons d r ih =>
    intro i out h hs
    obtain ⟨h1, h2, h3⟩ := drop_at h
    have hd := dText_size d.f0 d.f1 d.f2
    have hnl : (⟨#[10]⟩ : ByteArray).size = 1 := rfl
    by_cases ht : (dText d.f0 d.f1 d.f2).toList = ([] : List UInt8)
    · have e : jTxt (d :: r) out = tNone := by unfold jTxt; rw [if_pos ht]
      rw [e]
      refine Ev.step (f := fun k => (spec_DeedText.f k d.f0 d.f1 d.f2).bind fun t => if t.toList = ([] : List UInt8) then some tNone else (spec_DeedText.f k d.f0 d.f1 d.f2).bind fun t121 => (if out.size + t121.size ≤ 9223372036854775807 then (if (out ++ t121).size + 1 ≤ 9223372036854775807 then (spec_JournalText.l0 k l ((out ++ t121) ++ (⟨#[10]⟩ : ByteArray)) (wrap64 ((i : Int) + 1))) else (none)) else (none))) (fun k => ?_) (Ev.bind (spec_deedText d.f0 d.f1 d.f2) (Ev.ite_pos ht (Ev.now _)))
      simp only [spec_JournalText.l0]
      rw [if_pos (by omega), if_pos (by omega), rd_at h2]
      rfl
    · have e : jTxt (d :: r) out = jTxt r ((out ++ dText d.f0 d.f1 d.f2) ++ ⟨#[10]⟩) := by rw [jTxt, if_neg ht]
      rw [e]
      have hih := ih (i + 1) ((out ++ dText d.f0 d.f1 d.f2) ++ ⟨#[10]⟩) h3 (by rw [ByteArray.size_append, ByteArray.size_append, hnl]; omega)
      refine Ev.step (f := fun k => (spec_DeedText.f k d.f0 d.f1 d.f2).bind fun t => if t.toList = ([] : List UInt8) then some tNone else (spec_DeedText.f k d.f0 d.f1 d.f2).bind fun t121 => (if out.size + t121.size ≤ 9223372036854775807 then (if (out ++ t121).size + 1 ≤ 9223372036854775807 then (spec_JournalText.l0 k l ((out ++ t121) ++ (⟨#[10]⟩ : ByteArray)) (((i + 1 : Nat) : Int))) else (none)) else (none))) (fun k => ?_) (Ev.bind (spec_deedText d.f0 d.f1 d.f2) (Ev.ite_neg ht (Ev.bind (spec_deedText d.f0 d.f1 d.f2) (Ev.ite_pos (by omega) (Ev.ite_pos (by rw [ByteArray.size_append]; omega) hih)))))
      simp only [spec_JournalText.l0]
      rw [if_pos (by omega), if_pos (by omega), rd_at h2, w64 (by omega) (by omega)]
      rfl
theorem spec_journal (l : List S25) (hl : l.length ≤ 1048576) : Ev (fun k => spec_JournalText.f k l) (jTxt l tNone) := by
  unfold spec_JournalText.f
  exact spec_jL l hl l 0 tNone rfl (by show (0 : Nat) ≤ _; omega)

theorem itoa_eq (n : Int) (h0 : 0 ≤ n) (h1 : n ≤ 100000) : strconv_Itoa.f n = some (digB n) := by
  unfold strconv_Itoa.f; rw [if_pos (by omega), if_pos (by omega)]; rfl
theorem impl_j1 (b : Bool) (a x y : Int) (hb : b = decide (¬ (y = 0 ∧ 0 ≤ x ∧ x ≤ 9))) (h3 : ¬ (a = 3 ∧ 0 ≤ x ∧ x ≤ 99 ∧ 0 ≤ y ∧ y ≤ 9999)) : Ev (fun k => impl_DeedText.j1 k b a x y) (dText a x y) := by
  cases b with
  | true =>
    have hb := of_decide_eq_true hb.symm
    refine Ev.step (f := fun _ => some (dText a x y)) (fun k => ?_) (Ev.now _)
    simp only [impl_DeedText.j1]
    unfold dText
    rw [if_pos trivial, if_neg h3, if_pos hb]; rfl
  | false =>
    have hb : y = 0 ∧ 0 ≤ x ∧ x ≤ 9 := Decidable.not_not.1 (of_decide_eq_false hb.symm)
    obtain ⟨rfl, h1, h2⟩ := hb
    obtain ⟨n, rfl⟩ : ∃ n : Nat, x = n := ⟨x.toNat, by omega⟩
    have s1 := digB_size n (by omega)
    have e : dText a (n : Int) 0 = (if a = 0 then tTimes ++ digB (n : Int) else if a = 1 then tUnit ++ digB (n : Int) else if (n : Int) = 0 ∧ a = 2 then tInv else if (n : Int) = 0 ∧ a = 4 then tBack else tNone) := by
      unfold dText; rw [if_neg h3, if_neg (by omega)]
    rw [e]
    refine Ev.step (f := fun _ => some (if a = 0 then tTimes ++ digB (n : Int) else if a = 1 then tUnit ++ digB (n : Int) else if (n : Int) = 0 ∧ a = 2 then tInv else if (n : Int) = 0 ∧ a = 4 then tBack else tNone)) (fun k => ?_) (Ev.now _)
    simp only [impl_DeedText.j1]
    rw [if_neg (by simp), itoa_eq _ (by omega) (by omega)]
    simp only [Option.bind_some]
    by_cases c0 : a = 0
    · rw [if_pos c0, if_pos c0, if_pos (by omega)]; rfl
    · rw [if_neg c0, if_neg c0]
      by_cases c1 : a = 1
      · rw [if_pos c1, if_pos c1, if_pos (by omega)]; rfl
      · rw [if_neg c1, if_neg c1]
        by_cases cx : (n : Int) = 0
        · simp only [cx, if_true, true_and]
          by_cases c2 : a = 2
          · simp only [if_pos c2]; rfl
          · simp only [if_neg c2]
            by_cases c4 : a = 4
            · simp only [if_pos c4]; rfl
            · simp only [if_neg c4]; rfl
        · simp only [cx, if_false, false_and]; rfl
theorem impl_j0f (a x y : Int) (h3 : ¬ (a = 3 ∧ 0 ≤ x ∧ x ≤ 99 ∧ 0 ≤ y ∧ y ≤ 9999)) : Ev (fun k => impl_DeedText.j0 k false a x y) (dText a x y) := by
  refine Ev.step (f := fun k => impl_DeedText.j1 k (decide (¬ (y = 0 ∧ 0 ≤ x ∧ x ≤ 9))) a x y) (fun k => ?_) (impl_j1 _ a x y rfl h3)
  simp only [impl_DeedText.j0]
  rw [if_neg (by simp)]
  by_cases hy : y = 0
  · rw [if_pos hy]
    by_cases hx : x < 0
    · rw [if_pos hx]; congr 1
      exact (decide_eq_true (show ¬ (y = 0 ∧ 0 ≤ x ∧ x ≤ 9) from fun z => by omega)).symm
    · rw [if_neg hx]; congr 1
      by_cases h9 : x > 9
      · rw [decide_eq_true h9]; exact (decide_eq_true (show ¬ (y = 0 ∧ 0 ≤ x ∧ x ≤ 9) from fun z => by omega)).symm
      · rw [decide_eq_false h9]; exact (decide_eq_false (show ¬ ¬ (y = 0 ∧ 0 ≤ x ∧ x ≤ 9) from fun z => z ⟨hy, by omega, by omega⟩)).symm
  · rw [if_neg hy]; congr 1
    exact (decide_eq_true (show ¬ (y = 0 ∧ 0 ≤ x ∧ x ≤ 9) from fun z => hy z.1)).symm
theorem impl_deedText (a x y : Int) : Ev (fun k => impl_DeedText.f k a x y) (dText a x y) := by
  unfold impl_DeedText.f
  by_cases h3 : a = 3
  · simp only [if_pos h3]
    by_cases hx : x ≥ 0
    · simp only [if_pos hx]
      by_cases hx2 : x ≤ 99
      · simp only [if_pos hx2]
        by_cases hy : y ≥ 0
        · simp only [if_pos hy]
          by_cases hy2 : y ≤ 9999
          · simp only [decide_eq_true hy2]
            obtain ⟨n, rfl⟩ : ∃ n : Nat, x = n := ⟨x.toNat, by omega⟩
            obtain ⟨m, rfl⟩ : ∃ m : Nat, y = m := ⟨y.toNat, by omega⟩
            have s1 := digB_size n (by omega)
            have s2 := digB_size m (by omega)
            have e : dText a (n : Int) (m : Int) = ((tSet ++ digB (n : Int)) ++ tSp) ++ digB (m : Int) := by unfold dText; rw [if_pos ⟨h3, hx, hx2, hy, hy2⟩]
            rw [e]
            refine Ev.step (f := fun _ => some _) (fun k => ?_) (Ev.now _)
            simp only [impl_DeedText.j0]
            rw [if_pos trivial, itoa_eq _ (by omega) (by omega), Option.bind_some, if_pos (by omega), if_pos, itoa_eq _ (by omega) (by omega), Option.bind_some, if_pos]
            · rfl
            · show ((tSet ++ digB (n : Int)) ++ tSp).size + _ ≤ _
              rw [ByteArray.size_append, ByteArray.size_append, show tSet.size = 4 from rfl, show tSp.size = 1 from rfl]; omega
            · show (tSet ++ digB (n : Int)).size + _ ≤ _
              rw [ByteArray.size_append, show tSet.size = 4 from rfl]; omega
          · simp only [decide_eq_false hy2]
            exact impl_j0f a x y (fun z => hy2 z.2.2.2.2)
        · simp only [if_neg hy]; exact impl_j0f a x y (fun z => hy z.2.2.2.1)
      · simp only [if_neg hx2]; exact impl_j0f a x y (fun z => hx2 z.2.2.1)
    · simp only [if_neg hx]; exact impl_j0f a x y (fun z => hx z.2.1)
  · simp only [if_neg h3]; exact impl_j0f a x y (fun z => h3 z.1)

theorem impl_jL (l : List S25) (hl : l.length ≤ 1048576) : ∀ (r : List S25) (i : Nat) (out : ByteArray), l.drop i = r → out.size ≤ i * 300001 → Ev (fun k => impl_JournalText.l0 k out l (l.length : Int) (i : Int)) (jTxt r out) := by
  intro r
  induction r with
  | nil =>
    intro i out h _
    have : l.length ≤ i := List.drop_eq_nil_iff.1 h
    refine Ev.step (f := fun _ => some out) (fun k => ?_) (Ev.now _)
    simp only [impl_JournalText.l0]
    rw [if_neg (by omega)]
  | cons d r ih =>
    intro i out h hs
    obtain ⟨h1, h2, h3⟩ := drop_at h
    have hd := dText_size d.f0 d.f1 d.f2
    have hnl : (⟨#[10]⟩ : ByteArray).size = 1 := rfl
    by_cases ht : (dText d.f0 d.f1 d.f2).toList = ([] : List UInt8)
    · have e : jTxt (d :: r) out = tNone := by unfold jTxt; rw [if_pos ht]
      rw [e]
      refine Ev.step (f := fun k => (impl_DeedText.f k d.f0 d.f1 d.f2).bind fun t => if t.toList = ([] : List UInt8) then some tNone else (if t.size + 1 ≤ 9223372036854775807 then (if out.size + (t ++ (⟨#[10]⟩ : ByteArray)).size ≤ 9223372036854775807 then (impl_JournalText.l0 k (out ++ (t ++ (⟨#[10]⟩ : ByteArray))) l (l.length : Int) (wrap64 ((i : Int) + 1))) else (none)) else (none))) (fun k => ?_) (Ev.bind (impl_deedText d.f0 d.f1 d.f2) (Ev.ite_pos ht (Ev.now _)))
      simp only [impl_JournalText.l0]
      rw [if_pos (by omega), if_pos (by omega), if_pos (by omega), rd_at h2]
      rfl
    · have e : jTxt (d :: r) out = jTxt r (out ++ (dText d.f0 d.f1 d.f2 ++ ⟨#[10]⟩)) := by rw [jTxt, if_neg ht, ByteArray.append_assoc]
      rw [e]
      have hih := ih (i + 1) (out ++ (dText d.f0 d.f1 d.f2 ++ ⟨#[10]⟩)) h3 (by rw [ByteArray.size_append, ByteArray.size_append, hnl]; omega)
      refine Ev.step (f := fun k => (impl_DeedText.f k d.f0 d.f1 d.f2).bind fun t => if t.toList = ([] : List UInt8) then some tNone else (if t.size + 1 ≤ 9223372036854775807 then (if out.size + (t ++ (⟨#[10]⟩ : ByteArray)).size ≤ 9223372036854775807 then (impl_JournalText.l0 k (out ++ (t ++ (⟨#[10]⟩ : ByteArray))) l (l.length : Int) ((i + 1 : Nat) : Int)) else (none)) else (none))) (fun k => ?_) (Ev.bind (impl_deedText d.f0 d.f1 d.f2) (Ev.ite_neg ht (Ev.ite_pos (by omega) (Ev.ite_pos (by rw [ByteArray.size_append, hnl]; omega) hih))))
      simp only [impl_JournalText.l0]
      rw [if_pos (by omega), if_pos (by omega), if_pos (by omega), rd_at h2, w64 (by omega) (by omega)]
      rfl
theorem impl_journal (l : List S25) (hl : l.length ≤ 1048576) : Ev (fun k => impl_JournalText.f k l) (jTxt l tNone) := by
  unfold impl_JournalText.f
  exact impl_jL l hl l 0 tNone rfl (by show (0 : Nat) ≤ _; omega)

def cvD (x : S23) : S25 := ⟨x.f0, x.f1, x.f2⟩
theorem rd_atL {l : List S23} {i : Nat} {d : S23} (h : l[i]? = some d) : rd_T23 l (i : Int) = d := by
  unfold rd_T23
  simp [List.getD, h]
theorem toDeedsL (l : List S23) (hl : l.length ≤ 1048576) : ∀ (d i : Nat), i + d = l.length → Ev (fun k => laws_toDeedS.l0 k l ((l.take i).map cvD ++ List.replicate d z25) (i : Int)) (l.map cvD) := by
  intro d
  induction d with
  | zero =>
    intro i h
    refine Ev.step (f := fun _ => some (l.map cvD)) (fun k => ?_) (Ev.now _)
    simp only [laws_toDeedS.l0]
    rw [if_neg (by omega), List.take_of_length_le (by omega)]
    simp
  | succ d ih =>
    intro i h
    obtain ⟨x, hx⟩ : ∃ x, l[i]? = some x := ⟨l[i]'(by omega), List.getElem?_eq_getElem (by omega)⟩
    refine Ev.step (fun k => ?_) (ih (i + 1) (by omega))
    simp only [laws_toDeedS.l0, laws_toDeed.f, Option.bind_some]
    have hlen : ((l.take i).map cvD ++ List.replicate (d + 1) z25).length = l.length := by simp; omega
    rw [if_pos (by omega), if_pos (by omega), if_pos (by rw [hlen]; omega), rd_atL hx, w64 (by omega) (by omega)]
    have e : ((l.take i).map cvD ++ List.replicate (d + 1) z25).set ((i : Int)).toNat ⟨x.f0, x.f1, x.f2⟩ = (l.take (i + 1)).map cvD ++ List.replicate d z25 := by
      have hi : (i : Int).toNat = i := by omega
      rw [hi, List.take_add_one, hx, List.set_append_right _ _ (by simp; omega)]
      have : i - ((l.take i).map cvD).length = 0 := by simp; omega
      rw [this, List.replicate_succ]
      simp [cvD]
    rw [e]
    rfl
theorem toDeeds (l : List S23) (hl : l.length ≤ 1048576) : Ev (fun k => laws_toDeedS.f k l) (l.map cvD) := by
  unfold laws_toDeedS.f
  have h := toDeedsL l hl l.length 0 (by omega)
  simp only [List.take_zero, List.map_nil, List.nil_append] at h
  refine Ev.ite_pos (by omega) (Ev.ite_pos (by omega) ?_)
  have e : ((l.length : Int)).toNat = l.length := by omega
  rw [e]
  exact h

theorem eqDeedsL (l : List S25) (hl : l.length ≤ 9223372036854775806) : ∀ (d i : Nat), i + d = l.length → Ev (fun k => laws_eqDeedS.l0 k l l (i : Int)) true := by
  intro d
  induction d with
  | zero =>
    intro i h
    refine Ev.step (f := fun _ => some true) (fun k => ?_) (Ev.now _)
    simp only [laws_eqDeedS.l0]
    rw [if_neg (by omega)]
  | succ d ih =>
    intro i h
    refine Ev.step (fun k => ?_) (ih (i + 1) (by omega))
    simp only [laws_eqDeedS.l0, laws_eqDeed.f]
    rw [if_pos (by omega), if_pos (by omega), if_pos (by omega), w64 (by omega) (by omega)]
    simp only [if_true, Option.bind_some]
    rfl
theorem eqDeeds (l : List S25) (hl : l.length ≤ 9223372036854775806) : Ev (fun k => laws_eqDeedS.f k l l) true := by
  unfold laws_eqDeedS.f
  exact Ev.ite_pos rfl (eqDeedsL l hl l.length 0 (by omega))

theorem FnExactJournalText : ∀ l : List S23, l.length ≤ 9223372036854775807 → ∃ k, laws_FnExactJournalText.f k l = some true := by
  intro l hl
  refine Ev.rounds ?_
  unfold laws_FnExactJournalText.f laws_szDeedS.f
  by_cases h : l.length ≤ 1048576
  · have hm : (l.map cvD).length ≤ 1048576 := by simpa using h
    refine Ev.bindc (if_neg (by rw [w64 (by omega) (by omega)]; omega)) ?_
    refine Ev.ite_neg (by rw [w64 (by omega) (by omega)]; omega) ?_
    refine Ev.bind (toDeeds l h) (Ev.bind (spec_journal _ hm) (Ev.bind (toDeeds l h) (Ev.bind (impl_journal _ hm) (Ev.ite_pos rfl (Ev.bind (toDeeds l h) (Ev.bind (eqDeeds _ (by omega)) (Ev.ite_pos rfl (Ev.now _))))))))
  · refine Ev.bindc (if_pos (by rw [w64 (by omega) (by omega)]; omega)) ?_
    exact Ev.ite_pos (by omega) (Ev.now _)

end Go.Proofs.YtgkgpmnaflaaeaaDoor.Pure
