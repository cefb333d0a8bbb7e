/-
  Without rows of before a desk is one; and the program and the reference agree of every drawn desk: what is drawn is never too long, and every deed of the reference has an end.
-/
import Derived.Test.YtgkgpmnaflaaeaaPFnDeskOkx12
import Derived.Test.YtgkgpmnaflaaeaaLib
import Derived.Test.YtgkgpmnaflaaeaaLibLen
import Derived.Test.YtgkgpmnaflaaeaaLibRow
import Derived.Test.YtgkgpmnaflaaeaaLibDraw
namespace Go.Proofs.Ytgkgpmnaflaaeaa.Pure
open Go.RowKit Go.Proofs.Ytgkgpmnaflaaeaa.PFnDeskOk Go.Proofs.YtgkgpmnaflaaeaaW.PrintWords Go.Proofs.YtgkgpmnaflaaeaaW.PrintLast Go.Proofs.YtgkgpmnaflaaeaaW.PrintMore Go.Proofs.Ytgkgpmnaflaaeaa.Lib
set_option linter.unusedVariables false
set_option linter.unusedSimpArgs false

theorem l1In_eq (a b c : Int) : spec_l1In.f a b c = some (decide (b ≤ a ∧ a ≤ c)) := by
  unfold spec_l1In.f
  by_cases h : a ≥ b
  · rw [if_pos h]; simp [h]
  · rw [if_neg h]; congr 1; symm; simp; intro h2; omega

theorem named_all : (List.range 8).all (fun n => match spec_NamedRow.f 200 (n : Int) with | some r => r.length == 24 | none => false) = true := by decide +kernel
theorem named_ev (t : Int) : ∃ r, (r.length = 24 ∨ r = []) ∧ ((t = 0 → r.length = 24) ∧ Ev (fun k => spec_NamedRow.f k t) r) := by
  by_cases h : 0 ≤ t ∧ t ≤ 7
  · have h1 := List.all_eq_true.1 named_all t.toNat (List.mem_range.2 (by omega))
    rw [Int.toNat_of_nonneg h.1] at h1
    split at h1
    · rename_i r hr
      exact ⟨r, .inl (by simpa using h1), fun _ => by simpa using h1, Ev.of (spec_NamedRow.mono t) hr⟩
    · cases h1
  · refine ⟨[], .inr rfl, fun h0 => by omega, ?_⟩
    unfold spec_NamedRow.f
    refine Ev.up ?_
    simp only [spec_NamedRow.l0, l1In_eq, decide_eq_false h]
    exact Ev.ite_pos (by decide) (Ev.bindc rfl (Ev.ite_neg (by simp) (Ev.now _)))

theorem spec_rowL (row : List Int) (hl : row.length ≤ 1000000000) : ∀ f i, i + f = row.length → Ev (fun k => spec_RowOk.l0 k row (i : Int)) (allF (r1 row) f i && ((row.length : Int) == 24)) := by
  intro f
  induction f with
  | zero =>
    intro i h
    refine Ev.step (fun k => ?_) (Ev.now _)
    simp only [spec_RowOk.l0]
    rw [if_neg (by omega)]
    simp [allF]
  | succ f ih =>
    intro i h
    by_cases e : -1000000000 ≤ row.getD i 0 ∧ row.getD i 0 ≤ 1000000000
    · have ih := ih (i + 1) (by omega)
      have ek : r1 row i = true := decide_eq_true e
      simp only [allF, ek, Bool.true_and]
      refine Ev.step (fun k => ?_) ih
      simp only [spec_RowOk.l0, rdn, l1In_eq, Option.bind_some]
      rw [if_pos (by omega), if_pos (by omega), decide_eq_true e, if_pos rfl, w64 (by omega) (by omega)]
      rfl
    · have ek : r1 row i = false := decide_eq_false e
      simp only [allF, ek, Bool.false_and]
      refine Ev.step (fun k => ?_) (Ev.now _)
      simp only [spec_RowOk.l0, rdn, l1In_eq, Option.bind_some]
      rw [if_pos (by omega), if_pos (by omega), decide_eq_false e, if_neg (by simp)]
theorem spec_rowOk (row : List Int) (hl : row.length ≤ 1000000000) : Ev (fun k => spec_RowOk.f k row) (rowB row) := spec_rowL row hl row.length 0 (by omega)

theorem sp_times1 (f g : List Int) (hf : f.length = 24) (hg : g.length = 24) (i : Nat) (h1 : 1 ≤ i) (h2 : i ≤ 24) (ih : ∀ x : List Int, x.length = 24 → ∃ r, r.length = 24 ∧ Ev (fun k => spec_l2Times.l0 k f g x ((i : Int) + 1)) r) : ∀ n j : Nat, 1 ≤ j → j + n = 25 → ∀ x : List Int, x.length = 24 → ∃ r, r.length = 24 ∧ Ev (fun k => spec_l2Times.l1 k f g x (i : Int) (j : Int)) r := by
  intro n
  induction n with
  | zero =>
    intro j hj1 hj x hx
    obtain ⟨r, hr, he⟩ := ih x hx
    refine ⟨r, hr, Ev.up ?_⟩
    have ej : j = 25 := by omega
    subst ej
    have e2 : wrap64 ((i : Int) + 1) = (i : Int) + 1 := w64 (by omega) (by omega)
    simp only [spec_l2Times.l1, e2]
    refine Ev.ite_neg ?_ he
    rw [w64 (by omega) (by omega)]
    omega
  | succ n ihn =>
    intro j hj1 hj x hx
    obtain ⟨p, hp⟩ : ∃ p : Nat, p = i * j := ⟨_, rfl⟩
    have hpi : i ≤ p := by rw [hp]; exact Nat.le_mul_of_pos_right _ hj1
    have hpj : j ≤ p := by rw [hp]; exact Nat.le_mul_of_pos_left _ h1
    have hpm : p ≤ 24 * 25 := by rw [hp]; exact Nat.mul_le_mul h2 (by omega)
    have ep : ((i : Int) * (j : Int)) = (p : Int) := by rw [hp]; exact (Int.natCast_mul i j).symm
    clear hp
    by_cases h : p ≤ 24
    · obtain ⟨r, hr, he⟩ := ihn (j + 1) (by omega) (by omega) (x.set ((p : Int) - 1).toNat (wrap64 (rd x ((p : Int) - 1) + wrap64 (rd f ((i : Int) - 1) * rd g ((j : Int) - 1))))) (by rw [List.length_set]; exact hx)
      refine ⟨r, hr, Ev.up ?_⟩
      have es : wrap64 (p : Int) = (p : Int) ∧ wrap64 ((i : Int) + 1) = (i : Int) + 1 ∧ wrap64 ((j : Int) + 1) = ((j + 1 : Nat) : Int) ∧ wrap64 ((p : Int) - 1) = (p : Int) - 1 ∧ wrap64 ((i : Int) - 1) = (i : Int) - 1 ∧ wrap64 ((j : Int) - 1) = (j : Int) - 1 := ⟨w64 (by omega) (by omega), w64 (by omega) (by omega), w64 (by omega) (by omega), w64 (by omega) (by omega), w64 (by omega) (by omega), w64 (by omega) (by omega)⟩
      simp only [spec_l2Times.l1, ep, es.1, es.2.1, es.2.2.1, es.2.2.2.1, es.2.2.2.2.1, es.2.2.2.2.2]
      clear es ep
      exact Ev.ite_pos (by omega) (Ev.ite_pos (by omega) (Ev.ite_pos (by omega) (Ev.ite_pos (by omega) (Ev.ite_pos (by omega) (Ev.ite_pos (by omega) (Ev.ite_pos (by omega) he))))))
    · obtain ⟨r, hr, he⟩ := ih x hx
      refine ⟨r, hr, Ev.up ?_⟩
      have es : wrap64 (p : Int) = (p : Int) ∧ wrap64 ((i : Int) + 1) = (i : Int) + 1 ∧ wrap64 ((j : Int) + 1) = ((j + 1 : Nat) : Int) ∧ wrap64 ((p : Int) - 1) = (p : Int) - 1 ∧ wrap64 ((i : Int) - 1) = (i : Int) - 1 ∧ wrap64 ((j : Int) - 1) = (j : Int) - 1 := ⟨w64 (by omega) (by omega), w64 (by omega) (by omega), w64 (by omega) (by omega), w64 (by omega) (by omega), w64 (by omega) (by omega), w64 (by omega) (by omega)⟩
      simp only [spec_l2Times.l1, ep, es.1, es.2.1, es.2.2.1, es.2.2.2.1, es.2.2.2.2.1, es.2.2.2.2.2]
      clear es ep
      exact Ev.ite_neg (by omega) he
theorem sp_times0 (f g : List Int) (hf : f.length = 24) (hg : g.length = 24) : ∀ n i : Nat, 1 ≤ i → i + n = 25 → ∀ x : List Int, x.length = 24 → ∃ r, r.length = 24 ∧ Ev (fun k => spec_l2Times.l0 k f g x (i : Int)) r := by
  intro n
  induction n with
  | zero =>
    intro i h1 h x hx
    refine ⟨x, hx, Ev.up ?_⟩
    simp only [spec_l2Times.l0]
    exact Ev.ite_neg (by omega) (Ev.now _)
  | succ n ih =>
    intro i h1 h x hx
    obtain ⟨r, hr, he⟩ := sp_times1 f g hf hg i h1 (by omega) (fun x hx => ih (i + 1) (by omega) (by omega) x hx) 24 1 (by omega) (by omega) x hx
    refine ⟨r, hr, Ev.up ?_⟩
    simp only [spec_l2Times.l0]
    exact Ev.ite_pos (by omega) he
theorem sp_timesTop (f g : List Int) (hf : f.length = 24) (hg : g.length = 24) : ∃ r, r.length = 24 ∧ Ev (fun k => spec_l2Times.f k f g) r := by
  obtain ⟨r, hr, he⟩ := sp_times0 f g hf hg 24 1 (by omega) (by omega) (List.replicate 24 0) List.length_replicate
  refine ⟨r, hr, ?_⟩
  unfold spec_l2Times.f
  exact Ev.ite_pos (by omega) he
theorem sp_timesL (f g : List Int) (hf : f.length = 24) (hg : g.length = 24) : ∀ n i : Nat, i + n = 24 → ∃ r b, (b = true → r.length = 24) ∧ Ev (fun k => spec_TimesOf.l0 k f g (i : Int)) (r, b) := by
  intro n
  induction n with
  | zero =>
    intro i h
    obtain ⟨r, hr, he⟩ := sp_timesTop f g hf hg
    refine ⟨r, true, fun _ => hr, Ev.up ?_⟩
    simp only [spec_TimesOf.l0]
    exact Ev.ite_neg (by omega) (Ev.bind he (Ev.now _))
  | succ n ih =>
    intro i h
    obtain ⟨r, b, hb, he⟩ := ih (i + 1) (by omega)
    have e3 : wrap64 ((i : Int) + 1) = ((i + 1 : Nat) : Int) := w64 (by omega) (by omega)
    by_cases c1 : (-10000 : Int) ≤ rd f (i : Int) ∧ rd f (i : Int) ≤ 10000
    · by_cases c2 : (-10000 : Int) ≤ rd g (i : Int) ∧ rd g (i : Int) ≤ 10000
      · refine ⟨r, b, hb, Ev.up ?_⟩
        simp only [spec_TimesOf.l0, l1In_eq, e3]
        exact Ev.ite_pos (by omega) (Ev.ite_pos (by omega) (Ev.ite_pos (by omega) (Ev.bindc rfl (Ev.ite_pos (decide_eq_true c1) (Ev.ite_pos (by omega) (Ev.bindc rfl (Ev.ite_pos (decide_eq_true c2) he)))))))
      · refine ⟨[], false, nofun, Ev.up ?_⟩
        simp only [spec_TimesOf.l0, l1In_eq, e3]
        exact Ev.ite_pos (by omega) (Ev.ite_pos (by omega) (Ev.ite_pos (by omega) (Ev.bindc rfl (Ev.ite_pos (decide_eq_true c1) (Ev.ite_pos (by omega) (Ev.bindc rfl (Ev.ite_neg (fun h => c2 (of_decide_eq_true h)) (Ev.now _))))))))
    · refine ⟨[], false, nofun, Ev.up ?_⟩
      simp only [spec_TimesOf.l0, l1In_eq, e3]
      exact Ev.ite_pos (by omega) (Ev.ite_pos (by omega) (Ev.ite_pos (by omega) (Ev.bindc rfl (Ev.ite_neg (fun h => c1 (of_decide_eq_true h)) (Ev.now _)))))
theorem sp_times (f g : List Int) (hf : f.length ≤ 1000000) (hg : g.length ≤ 1000000) : ∃ r b, (b = true → r.length = 24 ∧ f.length = 24 ∧ g.length = 24) ∧ Ev (fun k => spec_TimesOf.f k f g) (r, b) := by
  unfold spec_TimesOf.f
  have er := spec_rowOk f (by omega)
  have eg := spec_rowOk g (by omega)
  cases h1 : rowB f with
  | false =>
    rw [h1] at er
    refine ⟨[], false, nofun, Ev.bind er (Ev.ite_neg (by simp) (Ev.up ?_))⟩
    simp only [spec_TimesOf.j0]
    exact Ev.ite_pos (by simp) (Ev.now _)
  | true =>
    rw [h1] at er
    cases h2 : rowB g with
    | false =>
      rw [h2] at eg
      refine ⟨[], false, nofun, Ev.bind er (Ev.ite_pos rfl (Ev.bind eg (Ev.up ?_)))⟩
      simp only [spec_TimesOf.j0]
      exact Ev.ite_pos (by simp) (Ev.now _)
    | true =>
      rw [h2] at eg
      obtain ⟨r, b, hb, he⟩ := sp_timesL f g (rowB_len h1) (rowB_len h2) 24 0 (by omega)
      refine ⟨r, b, fun h => ⟨hb h, rowB_len h1, rowB_len h2⟩, Ev.bind er (Ev.ite_pos rfl (Ev.bind eg (Ev.up ?_)))⟩
      simp only [spec_TimesOf.j0]
      exact Ev.ite_neg (by simp) he

theorem unitary_all : (List.range 24).all (fun n => (List.range 24).all (fun d => (spec_UnitaryOk.f 100 ((d + 1 : Nat) : Int) ((n + 1 : Nat) : Int)).isSome)) = true := by decide +kernel
theorem unitary_ev {d n : Nat} (h1 : 1 ≤ d) (h2 : d ≤ 24) (h3 : 1 ≤ n) (h4 : n ≤ 24) : ∃ b, Ev (fun k => spec_UnitaryOk.f k (d : Int) (n : Int)) b := by
  have h := List.all_eq_true.1 (List.all_eq_true.1 unitary_all (n - 1) (List.mem_range.2 (by omega))) (d - 1) (List.mem_range.2 (by omega))
  rw [show n - 1 + 1 = n by omega, show d - 1 + 1 = d by omega] at h
  obtain ⟨b, hb⟩ := Option.isSome_iff_exists.1 h
  exact ⟨b, Ev.of (spec_UnitaryOk.mono _ _) hb⟩
theorem sp_unit1 (f g x : List Int) (hf : f.length = 24) (hg : g.length = 24) (hx : x.length ≤ 1000) (n : Nat) (h1 : 1 ≤ n) (h2 : n ≤ 24) (ih : ∀ z : Int, ∃ r, r.length = x.length + 1 + (24 - n) ∧ Ev (fun k => spec_UnitaryTimes.l0 k f g true (x ++ [z]) ((n : Int) + 1)) (r, true)) : ∀ m d : Nat, 1 ≤ d → d + m = n + 1 → ∀ z : Int, ∃ r, r.length = x.length + 1 + (24 - n) ∧ Ev (fun k => spec_UnitaryTimes.l1 k f g true x (n : Int) z (d : Int)) (r, true) := by
  intro m
  induction m with
  | zero =>
    intro d hd hm z
    obtain ⟨r, hr, he⟩ := ih z
    refine ⟨r, hr, Ev.up ?_⟩
    have e1 : wrap64 ((n : Int) + 1) = (n : Int) + 1 := w64 (by omega) (by omega)
    simp only [spec_UnitaryTimes.l1, e1]
    clear e1
    exact Ev.ite_neg (by omega) (Ev.ite_pos (by omega) he)
  | succ m ihm =>
    intro d hd hm z
    obtain ⟨b, hb⟩ := unitary_ev hd (by omega) h1 h2
    cases b with
    | false =>
      obtain ⟨r, hr, he⟩ := ihm (d + 1) (by omega) (by omega) z
      refine ⟨r, hr, Ev.up ?_⟩
      have e1 : wrap64 ((d : Int) + 1) = ((d + 1 : Nat) : Int) := w64 (by omega) (by omega)
      simp only [spec_UnitaryTimes.l1, e1]
      clear e1
      exact Ev.ite_pos (by omega) (Ev.bind hb (Ev.ite_neg (by simp) he))
    | true =>
      obtain ⟨q, hq⟩ : ∃ q : Nat, q = n / d := ⟨_, rfl⟩
      have hq1 : 1 ≤ q := by rw [hq]; exact (Nat.le_div_iff_mul_le (by omega)).2 (by omega)
      have hq2 : q ≤ n := by rw [hq]; exact Nat.div_le_self _ _
      obtain ⟨r, hr, he⟩ := ihm (d + 1) (by omega) (by omega) (wrap64 (z + wrap64 (rd f ((d : Int) - 1) * rd g ((q : Int) - 1))))
      refine ⟨r, hr, Ev.up ?_⟩
      have es : wrap64 ((d : Int) + 1) = ((d + 1 : Nat) : Int) ∧ wrap64 ((d : Int) - 1) = (d : Int) - 1 ∧ wrap64 (q : Int) = (q : Int) ∧ wrap64 ((q : Int) - 1) = (q : Int) - 1 := ⟨w64 (by omega) (by omega), w64 (by omega) (by omega), w64 (by omega) (by omega), w64 (by omega) (by omega)⟩
      have ed : Int.tdiv (n : Int) (d : Int) = (q : Int) := by rw [hq]; exact tdiv_nat n d
      simp only [spec_UnitaryTimes.l1, ed, es.1, es.2.1, es.2.2.1, es.2.2.2]
      clear es ed hq
      exact Ev.ite_pos (by omega) (Ev.bind hb (Ev.ite_pos rfl (Ev.ite_pos (by omega) (Ev.ite_pos (by omega) (Ev.ite_neg (by omega) (Ev.ite_pos (by omega) (Ev.ite_pos (by omega) he)))))))
theorem sp_unit0 (f g : List Int) (hf : f.length = 24) (hg : g.length = 24) : ∀ m n : Nat, 1 ≤ n → n + m = 25 → ∀ x : List Int, x.length + 1 = n → ∃ r, r.length = 24 ∧ Ev (fun k => spec_UnitaryTimes.l0 k f g true x (n : Int)) (r, true) := by
  intro m
  induction m with
  | zero =>
    intro n h1 h x hx
    refine ⟨x, by omega, Ev.up ?_⟩
    simp only [spec_UnitaryTimes.l0]
    refine Ev.ite_neg (by omega) (Ev.up ?_)
    simp only [spec_UnitaryTimes.j1]
    exact Ev.ite_neg (by simp) (Ev.now _)
  | succ m ih =>
    intro n h1 h x hx
    obtain ⟨r, hr, he⟩ := sp_unit1 f g x hf hg (by omega) n h1 (by omega) (fun z => by
      obtain ⟨r, hr, he⟩ := ih (n + 1) (by omega) (by omega) (x ++ [z]) (by simp; omega)
      exact ⟨r, by omega, he⟩) n 1 (by omega) (by omega) 0
    refine ⟨r, by omega, Ev.up ?_⟩
    simp only [spec_UnitaryTimes.l0]
    refine Ev.ite_pos (by omega) (Ev.up ?_)
    simp only [spec_UnitaryTimes.j1]
    exact Ev.ite_pos trivial he
theorem sp_unitary (f g : List Int) (hf : f.length ≤ 1000000) (hg : g.length ≤ 1000000) : ∃ r b, (b = true → r.length = 24) ∧ Ev (fun k => spec_UnitaryTimes.f k f g) (r, b) := by
  obtain ⟨t, b, hb, he⟩ := sp_times f g hf hg
  unfold spec_UnitaryTimes.f
  cases b with
  | false =>
    refine ⟨[], false, nofun, Ev.bind he (Ev.up ?_)⟩
    simp only [spec_UnitaryTimes.l0]
    refine Ev.ite_pos (by decide) (Ev.up ?_)
    simp only [spec_UnitaryTimes.j1]
    exact Ev.ite_neg (by simp) (Ev.now _)
  | true =>
    obtain ⟨_, h1, h2⟩ := hb rfl
    obtain ⟨r, hr, h⟩ := sp_unit0 f g h1 h2 24 1 (by omega) (by omega) [] rfl
    exact ⟨r, true, fun _ => hr, Ev.bind he h⟩

theorem sp_divE (f g : List Int) (hf : f.length = 24) (hg : g.length = 24) (n : Nat) (h1 : 1 ≤ n) (h2 : n ≤ 24) (ih : ∀ x : List Int, x.length = 24 → ∃ r, Ev (fun k => spec_l3Divided.l0 k f g x ((n : Int) + 1)) r) (d : Nat) (hd : n < d) (x : List Int) (z : Int) (hx : x.length = 24) : ∃ r, Ev (fun k => spec_l3Divided.l1 k f g x (n : Int) z (d : Int)) r := by
  obtain ⟨y, hy⟩ : ∃ y : List Int, y = x.set ((n : Int) - 1).toNat (wrap64 (z * rd g 0)) := ⟨_, rfl⟩
  have hyl : y.length = 24 := by rw [hy, List.length_set]; exact hx
  by_cases c : (-1000000000 : Int) ≤ rd y ((n : Int) - 1) ∧ rd y ((n : Int) - 1) ≤ 1000000000
  · obtain ⟨r, he⟩ := ih y hyl
    refine ⟨r, Ev.up ?_⟩
    have es : wrap64 ((n : Int) + 1) = (n : Int) + 1 ∧ wrap64 ((n : Int) - 1) = (n : Int) - 1 := ⟨w64 (by omega) (by omega), w64 (by omega) (by omega)⟩
    simp only [spec_l3Divided.l1, es.1, es.2, l1In_eq, ← hy]
    clear es
    exact Ev.ite_neg (by omega) (Ev.ite_pos (by omega) (Ev.ite_pos (by omega) (Ev.ite_pos (by omega) (Ev.bindc rfl (Ev.bindc rfl (Ev.ite_pos (decide_eq_true c) he))))))
  · refine ⟨[], Ev.up ?_⟩
    have es : wrap64 ((n : Int) + 1) = (n : Int) + 1 ∧ wrap64 ((n : Int) - 1) = (n : Int) - 1 := ⟨w64 (by omega) (by omega), w64 (by omega) (by omega)⟩
    simp only [spec_l3Divided.l1, es.1, es.2, l1In_eq, ← hy]
    clear es
    exact Ev.ite_neg (by omega) (Ev.ite_pos (by omega) (Ev.ite_pos (by omega) (Ev.ite_pos (by omega) (Ev.bindc rfl (Ev.bindc rfl (Ev.ite_neg (fun h => c (of_decide_eq_true h)) (Ev.now _)))))))
theorem sp_div1 (f g : List Int) (hf : f.length = 24) (hg : g.length = 24) (n : Nat) (h1 : 1 ≤ n) (h2 : n ≤ 24) (ih : ∀ x : List Int, x.length = 24 → ∃ r, Ev (fun k => spec_l3Divided.l0 k f g x ((n : Int) + 1)) r) : ∀ m d : Nat, 1 ≤ d → n < d + m → ∀ (x : List Int) (z : Int), x.length = 24 → ∃ r, Ev (fun k => spec_l3Divided.l1 k f g x (n : Int) z (d : Int)) r := by
  intro m
  induction m with
  | zero =>
    intro d hd hm x z hx
    exact sp_divE f g hf hg n h1 h2 ih d (by omega) x z hx
  | succ m ihm =>
    intro d hd hm x z hx
    by_cases hdn : d ≤ n
    · by_cases hr0 : n % d = 0
      · obtain ⟨q, hq⟩ : ∃ q : Nat, q = n / d := ⟨_, rfl⟩
        have hq1 : 1 ≤ q := by rw [hq]; exact (Nat.le_div_iff_mul_le (by omega)).2 (by omega)
        have hq2 : q ≤ n := by rw [hq]; exact Nat.div_le_self _ _
        obtain ⟨r, he⟩ := ihm (d + 1) (by omega) (by omega) x (wrap64 (z - wrap64 (rd g ((d : Int) - 1) * rd x ((q : Int) - 1)))) hx
        refine ⟨r, Ev.up ?_⟩
        have es : wrap64 ((d : Int) + 1) = ((d + 1 : Nat) : Int) ∧ wrap64 ((d : Int) - 1) = (d : Int) - 1 ∧ wrap64 (q : Int) = (q : Int) ∧ wrap64 ((q : Int) - 1) = (q : Int) - 1 := ⟨w64 (by omega) (by omega), w64 (by omega) (by omega), w64 (by omega) (by omega), w64 (by omega) (by omega)⟩
        have ed : Int.tdiv (n : Int) (d : Int) = (q : Int) := by rw [hq]; exact tdiv_nat n d
        have em : Int.tmod (n : Int) (d : Int) = 0 := by rw [tmod_nat, hr0]; rfl
        simp only [spec_l3Divided.l1, ed, em, es.1, es.2.1, es.2.2.1, es.2.2.2]
        clear es ed em hq hr0
        exact Ev.ite_pos (by omega) (Ev.ite_neg (by omega) (Ev.ite_pos trivial (Ev.ite_pos (by omega) (Ev.ite_pos (by omega) (Ev.ite_pos (by omega) (Ev.ite_pos (by omega) he))))))
      · obtain ⟨r, he⟩ := ihm (d + 1) (by omega) (by omega) x z hx
        refine ⟨r, Ev.up ?_⟩
        have e1 : wrap64 ((d : Int) + 1) = ((d + 1 : Nat) : Int) := w64 (by omega) (by omega)
        have em : ¬ Int.tmod (n : Int) (d : Int) = 0 := by rw [tmod_nat]; exact fun h => hr0 (by exact_mod_cast h)
        simp only [spec_l3Divided.l1, e1]
        clear e1 hr0
        exact Ev.ite_pos (by omega) (Ev.ite_neg (by omega) (Ev.ite_neg em he))
    · exact sp_divE f g hf hg n h1 h2 ih d (by omega) x z hx
theorem sp_div0 (f g : List Int) (hf : f.length = 24) (hg : g.length = 24) : ∀ m n : Nat, 1 ≤ n → n + m = 25 → ∀ x : List Int, x.length = 24 → ∃ r, Ev (fun k => spec_l3Divided.l0 k f g x (n : Int)) r := by
  intro m
  induction m with
  | zero =>
    intro n h1 h x hx
    refine ⟨x, Ev.up ?_⟩
    simp only [spec_l3Divided.l0]
    exact Ev.ite_neg (by omega) (Ev.now _)
  | succ m ih =>
    intro n h1 h x hx
    obtain ⟨r, he⟩ := sp_div1 f g hf hg n h1 (by omega) (fun x hx => ih (n + 1) (by omega) (by omega) x hx) n 2 (by omega) (by omega) x (rd f ((n : Int) - 1)) hx
    refine ⟨r, Ev.up ?_⟩
    have e1 : wrap64 ((n : Int) - 1) = (n : Int) - 1 := w64 (by omega) (by omega)
    simp only [spec_l3Divided.l0, e1]
    clear e1
    exact Ev.ite_pos (by omega) (Ev.ite_pos (by omega) (Ev.ite_pos (by omega) he))
theorem sp_divided (f g : List Int) (hf : f.length = 24) (hg : g.length ≤ 1000000) : ∃ r b, (b = true → r.length = 24) ∧ Ev (fun k => spec_DividedOf.f k f g) (r, b) := by
  obtain ⟨t, b, hb, he⟩ := sp_times g f hg (by omega)
  unfold spec_DividedOf.f
  cases b with
  | false => exact ⟨[], false, nofun, Ev.bind he (Ev.ite_neg (by simp) (Ev.now _))⟩
  | true =>
    obtain ⟨_, h1, h2⟩ := hb rfl
    have eu : ∃ u, Ev (fun k => spec_UnitOk.f k g) u := by
      unfold spec_UnitOk.f
      have hr := spec_rowOk g (by omega)
      cases h : rowB g with
      | false => rw [h] at hr; exact ⟨false, Ev.bind hr (Ev.ite_neg (by simp) (Ev.now _))⟩
      | true =>
        rw [h] at hr
        by_cases h0 : rd g 0 = 1
        · exact ⟨true, Ev.bind hr (Ev.ite_pos rfl (Ev.ite_pos (by omega) (Ev.ite_pos h0 (Ev.now _))))⟩
        · exact ⟨_, Ev.bind hr (Ev.ite_pos rfl (Ev.ite_pos (by omega) (Ev.ite_neg h0 (Ev.now _))))⟩
    obtain ⟨u, hu⟩ := eu
    cases u with
    | false => exact ⟨[], false, nofun, Ev.bind he (Ev.ite_pos rfl (Ev.bind hu (Ev.ite_neg (by simp) (Ev.now _))))⟩
    | true =>
      obtain ⟨r, hr⟩ := sp_div0 f g hf h1 24 1 (by omega) (by omega) (List.replicate 24 0) List.length_replicate
      have hd : Ev (fun k => spec_l3Divided.f k f g) r := by
        unfold spec_l3Divided.f
        exact Ev.ite_pos (by omega) hr
      refine ⟨r, ((r.length : Int) == 24), fun h => ?_, Ev.bind he (Ev.ite_pos rfl (Ev.bind hu (Ev.ite_pos rfl (Ev.bind hd (Ev.now _)))))⟩
      rw [beq_iff_eq] at h
      omega
theorem sp_inverse (f : List Int) (hf : f.length ≤ 1000000) : ∃ r b, (b = true → r.length = 24) ∧ Ev (fun k => spec_InverseOf.f k f) (r, b) := by
  obtain ⟨e, _, h0, he⟩ := named_ev 0
  obtain ⟨r, b, hb, hd⟩ := sp_divided e f (h0 rfl) hf
  unfold spec_InverseOf.f
  exact ⟨r, b, hb, Ev.bind he (Ev.bind hd (Ev.now _))⟩

theorem impl_rowL (row : List Int) (hl : row.length ≤ 1000000000) : ∀ f i, i + f = row.length → Ev (fun k => impl_within.l0 k row 1000000000 row (row.length : Int) (i : Int)) (allF (r1 row) f i && ((row.length : Int) == 24)) := by
  intro f
  induction f with
  | zero =>
    intro i h
    refine Ev.step (fun k => ?_) (Ev.now _)
    simp only [impl_within.l0]
    rw [if_neg (by omega)]
    simp [allF]
  | succ f ih =>
    intro i h
    have ew : wrap64 (-1000000000) = -1000000000 := by decide +kernel
    by_cases e : -1000000000 ≤ row.getD i 0 ∧ row.getD i 0 ≤ 1000000000
    · have ih := ih (i + 1) (by omega)
      have ek : r1 row i = true := decide_eq_true e
      simp only [allF, ek, Bool.true_and]
      refine Ev.step (fun k => ?_) ih
      simp only [impl_within.l0, rdn, ew]
      rw [if_pos (by omega), if_pos (by omega), if_pos (by omega), if_neg (by omega), if_neg (by omega), w64 (by omega) (by omega)]
      rfl
    · have ek : r1 row i = false := decide_eq_false e
      simp only [allF, ek, Bool.false_and]
      refine Ev.step (fun k => ?_) (Ev.now _)
      simp only [impl_within.l0, rdn, ew]
      rw [if_pos (by omega), if_pos (by omega), if_pos (by omega)]
      by_cases e2 : row.getD i 0 < -1000000000
      · rw [if_pos e2]
      · rw [if_neg e2, if_pos (by omega)]
theorem impl_rowOk (row : List Int) (hl : row.length ≤ 1000000000) : Ev (fun k => impl_RowOk.f k row) (rowB row) := by
  have h : Ev (fun k => impl_within.f k row 1000000000) (rowB row) := impl_rowL row hl row.length 0 (by omega)
  unfold impl_RowOk.f
  exact Ev.bind h (Ev.now _)

theorem rdL (l : List (List Int)) (i : Nat) : rd_L1 l (i : Int) = l.getD i [] := by unfold rd_L1; rw [Int.toNat_natCast]
theorem getD_len {l : List (List Int)} {m : Nat} (h : ∀ x ∈ l, x.length ≤ m) (i : Nat) : (l.getD i []).length ≤ m := by
  by_cases hi : i < l.length
  · rw [List.getD_eq_getElem?_getD, List.getElem?_eq_getElem hi]
    exact h _ (List.getElem_mem _)
  · rw [List.getD_eq_getElem?_getD, List.getElem?_eq_none (by omega)]
    exact Nat.zero_le _
theorem impl_deskL (now : List Int) (past : List (List Int)) (h1 : now.length ≤ 1000000000) (h2 : past.length ≤ 1000000000) (h3 : ∀ x ∈ past, x.length ≤ 1000000000) : ∀ f i, i + f = past.length → Ev (fun k => impl_DeskOk.l0 k past (past.length : Int) (i : Int) now past) (allF (fun i => rowB (past.getD i [])) f i && (rowB now && decide ((past.length : Int) ≤ 8))) := by
  intro f
  induction f with
  | zero =>
    intro i h
    simp only [allF, Bool.true_and]
    refine Ev.step (f := fun k => (impl_RowOk.f k now).bind fun t139 => (if t139 = true then (some (decide ((past.length : Int) ≤ 8))) else (some false))) (fun k => ?_) (Ev.bind (impl_rowOk now h1) ?_)
    · simp only [impl_DeskOk.l0]
      rw [if_neg (by omega)]
    · cases rowB now
      · exact Ev.ite_neg (by simp) (Ev.now _)
      · rw [Bool.true_and]
        exact Ev.ite_pos rfl (Ev.now _)
  | succ f ih =>
    intro i h
    refine Ev.step (f := fun k => (impl_RowOk.f k (past.getD i [])).bind fun t138 => (if t138 = true then (impl_DeskOk.l0 k past (past.length : Int) (wrap64 ((i : Int) + 1)) now past) else (some false))) (fun k => ?_) (Ev.bind (impl_rowOk _ (getD_len h3 i)) ?_)
    · simp only [impl_DeskOk.l0, rdL]
      rw [if_pos (by omega), if_pos (by omega), if_pos (by omega)]
    · simp only [allF]
      cases rowB (past.getD i [])
      · simp only [Bool.false_and]
        exact Ev.ite_neg (by simp) (Ev.now _)
      · rw [Bool.true_and, w64 (by omega) (by omega)]
        exact Ev.ite_pos rfl (ih (i + 1) (by omega))
theorem impl_desk (now : List Int) (past : List (List Int)) (h1 : now.length ≤ 1000000000) (h2 : past.length ≤ 1000000000) (h3 : ∀ x ∈ past, x.length ≤ 1000000000) : Ev (fun k => impl_DeskOk.f k now past) (deskB now past) :=
  impl_deskL now past h1 h2 h3 past.length 0 (by omega)
theorem spec_deskL (now : List Int) (past : List (List Int)) (h1 : now.length ≤ 1000000000) (h2 : past.length ≤ 1000000000) (h3 : ∀ x ∈ past, x.length ≤ 1000000000) : ∀ f i, i + f = past.length → Ev (fun k => spec_DeskOk.l0 k (i : Int) now past) (allF (fun i => rowB (past.getD i [])) f i && (rowB now && decide ((past.length : Int) ≤ 8))) := by
  intro f
  induction f with
  | zero =>
    intro i h
    simp only [allF, Bool.true_and]
    refine Ev.step (f := fun k => (spec_RowOk.f k now).bind fun t139 => (if t139 = true then (some (decide ((past.length : Int) ≤ 8))) else (some false))) (fun k => ?_) (Ev.bind (spec_rowOk now h1) ?_)
    · simp only [spec_DeskOk.l0]
      rw [if_neg (by omega)]
    · cases rowB now
      · exact Ev.ite_neg (by simp) (Ev.now _)
      · rw [Bool.true_and]
        exact Ev.ite_pos rfl (Ev.now _)
  | succ f ih =>
    intro i h
    refine Ev.step (f := fun k => (spec_RowOk.f k (past.getD i [])).bind fun t138 => (if t138 = true then (spec_DeskOk.l0 k (wrap64 ((i : Int) + 1)) now past) else (some false))) (fun k => ?_) (Ev.bind (spec_rowOk _ (getD_len h3 i)) ?_)
    · simp only [spec_DeskOk.l0, rdL]
      rw [if_pos (by omega), if_pos (by omega)]
    · simp only [allF]
      cases rowB (past.getD i [])
      · simp only [Bool.false_and]
        exact Ev.ite_neg (by simp) (Ev.now _)
      · rw [Bool.true_and, w64 (by omega) (by omega)]
        exact Ev.ite_pos rfl (ih (i + 1) (by omega))
theorem spec_desk (now : List Int) (past : List (List Int)) (h1 : now.length ≤ 1000000000) (h2 : past.length ≤ 1000000000) (h3 : ∀ x ∈ past, x.length ≤ 1000000000) : Ev (fun k => spec_DeskOk.f k now past) (deskB now past) :=
  spec_deskL now past h1 h2 h3 past.length 0 (by omega)

theorem sp_made (f : List Int) (a b c : Int) (hf : f.length = 24) : ∃ r o, (o = true → r.length = 24) ∧ Ev (fun k => spec_l12Made.f k f a b c) (r, o) := by
  obtain ⟨nm, hn, _, en⟩ := named_ev b
  have hnl : nm.length ≤ 1000000 := by rcases hn with h | h <;> simp [h]
  obtain ⟨r1, o1, h1, e1⟩ := sp_times f nm (by omega) hnl
  obtain ⟨r2, o2, h2, e2⟩ := sp_unitary f nm (by omega) hnl
  obtain ⟨r3, o3, h3, e3⟩ := sp_inverse f (by omega)
  have j1t : Ev (fun k => spec_l12Made.j1 k f true a b c) (r2, o2) := by
    refine Ev.up ?_
    simp only [spec_l12Made.j1]
    exact Ev.ite_pos trivial (Ev.bind en (Ev.bind e2 (Ev.now _)))
  have j1f : ∃ r o, (o = true → r.length = 24) ∧ Ev (fun k => spec_l12Made.j1 k f false a b c) (r, o) := by
    by_cases ci : (a == 2 && (b == 0 && (c == 0))) = true
    · refine ⟨r3, o3, h3, Ev.up ?_⟩
      simp only [spec_l12Made.j1]
      exact Ev.ite_neg (by simp) (Ev.ite_pos ci (Ev.bind e3 (Ev.now _)))
    by_cases c3 : a = 3
    · by_cases cb : 1 ≤ b ∧ b ≤ 24
      · by_cases cc : 0 ≤ c ∧ c ≤ 9999
        · refine ⟨f.set (b - 1).toNat c, true, fun _ => by rw [List.length_set]; exact hf, Ev.up ?_⟩
          have e1 : wrap64 (b - 1) = b - 1 := w64 (by omega) (by omega)
          simp only [spec_l12Made.j1, l1In_eq, e1]
          clear e1
          exact Ev.ite_neg (by simp) (Ev.ite_neg ci (Ev.ite_pos c3 (Ev.bindc rfl (Ev.ite_pos (decide_eq_true cb) (Ev.bindc rfl (Ev.ite_pos (decide_eq_true cc) (Ev.bindc rfl (Ev.ite_pos (by simp; omega) (Ev.bindc rfl (Ev.ite_pos (by omega) (Ev.ite_pos (by simp; omega) (Ev.now _))))))))))))
        · refine ⟨[], false, nofun, Ev.up ?_⟩
          simp only [spec_l12Made.j1, l1In_eq]
          exact Ev.ite_neg (by simp) (Ev.ite_neg ci (Ev.ite_pos c3 (Ev.bindc rfl (Ev.ite_pos (decide_eq_true cb) (Ev.bindc rfl (Ev.ite_neg (fun h => cc (of_decide_eq_true h)) (Ev.now _)))))))
      · refine ⟨[], false, nofun, Ev.up ?_⟩
        simp only [spec_l12Made.j1, l1In_eq]
        exact Ev.ite_neg (by simp) (Ev.ite_neg ci (Ev.ite_pos c3 (Ev.bindc rfl (Ev.ite_neg (fun h => cb (of_decide_eq_true h)) (Ev.now _)))))
    · refine ⟨[], false, nofun, Ev.up ?_⟩
      simp only [spec_l12Made.j1]
      exact Ev.ite_neg (by simp) (Ev.ite_neg ci (Ev.ite_neg c3 (Ev.now _)))
  have j1 : ∀ t : Bool, ∃ r o, (o = true → r.length = 24) ∧ Ev (fun k => spec_l12Made.j1 k f t a b c) (r, o) := by
    intro t
    cases t with
    | true => exact ⟨r2, o2, h2, j1t⟩
    | false => exact j1f
  have j0 : ∀ t : Bool, ∃ r o, (o = true → r.length = 24) ∧ Ev (fun k => spec_l12Made.j0 k f t a b c) (r, o) := by
    intro t
    cases t with
    | true =>
      refine ⟨r1, o1, fun h => (h1 h).1, Ev.up ?_⟩
      simp only [spec_l12Made.j0]
      exact Ev.ite_pos trivial (Ev.bind en (Ev.bind e1 (Ev.now _)))
    | false =>
      by_cases ca : a = 1
      · obtain ⟨r, o, h, e⟩ := j1 (c == 0)
        refine ⟨r, o, h, Ev.up ?_⟩
        simp only [spec_l12Made.j0]
        exact Ev.ite_neg (by simp) (Ev.ite_pos ca e)
      · obtain ⟨r, o, h, e⟩ := j1 false
        refine ⟨r, o, h, Ev.up ?_⟩
        simp only [spec_l12Made.j0]
        exact Ev.ite_neg (by simp) (Ev.ite_neg ca e)
  unfold spec_l12Made.f
  by_cases ca : a = 0
  · obtain ⟨r, o, h, e⟩ := j0 (c == 0)
    exact ⟨r, o, h, Ev.ite_pos ca e⟩
  · obtain ⟨r, o, h, e⟩ := j0 false
    exact ⟨r, o, h, Ev.ite_neg ca e⟩
theorem sp_same (f g : List Int) (hf : f.length = 24) (hg : g.length = 24) : ∀ m i : Nat, i + m = 24 → ∃ b, Ev (fun k => spec_l12Same.l0 k f g (i : Int)) b := by
  intro m
  induction m with
  | zero =>
    intro i h
    refine ⟨true, Ev.up ?_⟩
    simp only [spec_l12Same.l0]
    exact Ev.ite_neg (by omega) (Ev.now _)
  | succ m ih =>
    intro i h
    by_cases c : rd f (i : Int) = rd g (i : Int)
    · obtain ⟨b, e⟩ := ih (i + 1) (by omega)
      refine ⟨b, Ev.up ?_⟩
      have e1 : wrap64 ((i : Int) + 1) = ((i + 1 : Nat) : Int) := w64 (by omega) (by omega)
      simp only [spec_l12Same.l0, e1]
      clear e1
      exact Ev.ite_pos (by omega) (Ev.ite_pos (by omega) (Ev.ite_pos (by omega) (Ev.ite_pos (by omega) (Ev.ite_pos c e))))
    · refine ⟨false, Ev.up ?_⟩
      simp only [spec_l12Same.l0]
      exact Ev.ite_pos (by omega) (Ev.ite_pos (by omega) (Ev.ite_pos (by omega) (Ev.ite_pos (by omega) (Ev.ite_neg c (Ev.now _)))))
theorem sp_copyL (now : List Int) (past : List (List Int)) (h2 : past.length ≤ 1000000) (h3 : ∀ x ∈ past, x.length ≤ 1000000) : ∀ m i : Nat, i + m = past.length → ∀ acc : List (List Int), acc.length = i → Ev (fun k => spec_l12Copy.l0 k (i : Int) now past now acc) (now, acc ++ past.drop i) := by
  intro m
  induction m with
  | zero =>
    intro i h acc ha
    refine Ev.up ?_
    simp only [spec_l12Copy.l0]
    rw [List.drop_eq_nil_of_le (by omega), List.append_nil]
    exact Ev.ite_neg (by omega) (Ev.now _)
  | succ m ih =>
    intro i h acc ha
    have hi : i < past.length := by omega
    have e := ih (i + 1) (by omega) (acc ++ [past.getD i []]) (by simp; omega)
    have ed : acc ++ [past.getD i []] ++ past.drop (i + 1) = acc ++ past.drop i := by
      rw [List.append_assoc, List.drop_eq_getElem_cons hi, List.getD_eq_getElem?_getD, List.getElem?_eq_getElem hi]
      rfl
    rw [ed] at e
    have hl := getD_len h3 i
    refine Ev.up ?_
    have e1 : wrap64 ((i : Int) + 1) = ((i + 1 : Nat) : Int) := w64 (by omega) (by omega)
    simp only [spec_l12Copy.l0, rdL, e1]
    clear e1
    exact Ev.ite_pos (by omega) (Ev.bindc rfl (Ev.ite_pos (by omega) (Ev.ite_pos (by simp only [List.length_nil]; omega) (Ev.ite_pos (by omega) e))))
theorem sp_copy (now : List Int) (past : List (List Int)) (h1 : now.length ≤ 1000000) (h2 : past.length ≤ 1000000) (h3 : ∀ x ∈ past, x.length ≤ 1000000) : Ev (fun k => spec_l12Copy.f k now past) (now, past) := by
  unfold spec_l12Copy.f
  exact Ev.bindc rfl (Ev.ite_pos (by simp only [List.length_nil]; omega) (sp_copyL now past h2 h3 past.length 0 (by omega) [] rfl))
/-- A desk that is not too long. -/
def Sz (now : List Int) (past : List (List Int)) : Prop := now.length ≤ 24 ∧ past.length ≤ 9 ∧ ∀ x ∈ past, x.length ≤ 24
theorem sp_do (now : List Int) (past : List (List Int)) (a b c : Int) (hs : Sz now past) : ∃ r1 r2 r3, Sz r1 r2 ∧ (r3 = true → r1.length = 24) ∧ Ev (fun k => spec_DeskDo.f k now past a b c) (r1, r2, r3) := by
  obtain ⟨s1, s2, s3⟩ := hs
  have eo := spec_desk now past (by omega) (by omega) (fun x hx => by have := s3 x hx; omega)
  unfold spec_DeskDo.f
  cases hd : deskB now past with
  | false =>
    rw [hd] at eo
    exact ⟨[], [], false, ⟨by simp, by simp, nofun⟩, nofun, Ev.bind eo (Ev.ite_neg (by simp) (Ev.now _))⟩
  | true =>
    rw [hd] at eo
    obtain ⟨d1, d2, d3⟩ := deskB_len hd
    have ec := sp_copy now past (by omega) (by omega) (fun x hx => by have := s3 x hx; omega)
    obtain ⟨r, o, hr, em⟩ := sp_made now a b c d1
    have j1 : ∀ t : Bool, (t = true ∨ r.length = 24) → ∃ r1 r2 r3, Sz r1 r2 ∧ (r3 = true → r1.length = 24) ∧ Ev (fun k => spec_DeskDo.j1 k r t now past) (r1, r2, r3) := by
      intro t ht
      cases t with
      | true =>
        refine ⟨now, past, false, ⟨s1, s2, s3⟩, nofun, Ev.up ?_⟩
        simp only [spec_DeskDo.j1]
        exact Ev.ite_pos trivial (Ev.now _)
      | false =>
        have hr := ht.resolve_left (by simp)
        have hm : ∀ x ∈ past ++ [now], x.length ≤ 24 := fun x hx => by
          rcases List.mem_append.1 hx with h | h
          · exact s3 x h
          · rw [List.mem_singleton.1 h]; omega
        by_cases cl : ((past ++ [now]).length : Int) > 8
        · refine ⟨r, (past ++ [now]).drop 1, true, ⟨by omega, by simp; omega, fun x hx => hm x (List.mem_of_mem_drop hx)⟩, fun _ => hr, Ev.up ?_⟩
          simp only [spec_DeskDo.j1]
          exact Ev.ite_neg (by simp) (Ev.ite_pos (by omega) (Ev.bindc rfl (Ev.ite_pos cl (Ev.ite_pos (by omega) (Ev.now _)))))
        · refine ⟨r, past ++ [now], true, ⟨by omega, by simp; omega, hm⟩, fun _ => hr, Ev.up ?_⟩
          simp only [spec_DeskDo.j1]
          exact Ev.ite_neg (by simp) (Ev.ite_pos (by omega) (Ev.bindc rfl (Ev.ite_neg cl (Ev.now _))))
    have j0 : ∀ t : Bool, (t = true → 0 < past.length) → ∃ r1 r2 r3, Sz r1 r2 ∧ (r3 = true → r1.length = 24) ∧ Ev (fun k => spec_DeskDo.j0 k t now past a b c now past) (r1, r2, r3) := by
      intro t ht
      cases t with
      | true =>
        have hp := ht rfl
        refine ⟨past.getD (past.length - 1) [], past.take (past.length - 1), true, ⟨getD_len s3 _, by rw [List.length_take]; omega, fun x hx => s3 x (List.mem_of_mem_take hx)⟩, fun _ => by rw [List.getD_eq_getElem?_getD, List.getElem?_eq_getElem (by omega)]; exact d3 _ (List.getElem_mem _), Ev.up ?_⟩
        simp only [spec_DeskDo.j0]
        exact Ev.ite_pos trivial (Ev.ite_pos ⟨hp, by omega⟩ (Ev.now _))
      | false =>
        cases o with
        | false =>
          obtain ⟨r1, r2, r3, hz, hl, e⟩ := j1 true (.inl rfl)
          refine ⟨r1, r2, r3, hz, hl, Ev.up ?_⟩
          simp only [spec_DeskDo.j0]
          exact Ev.ite_neg (by simp) (Ev.bind em (Ev.ite_neg (by simp) e))
        | true =>
          obtain ⟨t, et⟩ := sp_same r now (hr rfl) d1 24 0 (by omega)
          obtain ⟨r1, r2, r3, hz, hl, e⟩ := j1 t (.inr (hr rfl))
          refine ⟨r1, r2, r3, hz, hl, Ev.up ?_⟩
          simp only [spec_DeskDo.j0]
          exact Ev.ite_neg (by simp) (Ev.bind em (Ev.ite_pos rfl (Ev.bind (f := fun k t320 => spec_DeskDo.j1 k r t320 now past) et e)))
    by_cases cb : (a == 4 && (b == 0 && (c == 0))) = true
    · obtain ⟨r1, r2, r3, hz, hl, e⟩ := j0 (decide ((past.length : Int) > 0)) (fun h => by have := of_decide_eq_true h; omega)
      exact ⟨r1, r2, r3, hz, hl, Ev.bind eo (Ev.ite_pos rfl (Ev.bind ec (Ev.ite_pos cb e)))⟩
    · obtain ⟨r1, r2, r3, hz, hl, e⟩ := j0 false (by simp)
      exact ⟨r1, r2, r3, hz, hl, Ev.bind eo (Ev.ite_pos rfl (Ev.bind ec (Ev.ite_neg cb e)))⟩

theorem pick_ev {bs : List Int} (hb : Bytes bs) (hl : bs.length ≤ 2000) {p n : Int} (h0 : 0 ≤ p) (h1 : p ≤ 1000000) (hn : 1 ≤ n) :
    ∃ r, 0 ≤ r ∧ r < n ∧ Ev (fun k => spec_l20Rd_pick.f k bs p n) (r, p + 1) := by
  have ep : wrap64 (p + 1) = p + 1 := w64 (by omega) (by omega)
  have e1 : wrap64 (p + 1 - 1) = p := by rw [w64 (by omega) (by omega)]; omega
  have hf : ∀ k, spec_l20Rd_pick.f k bs p n = spec_l20Rd_pick.j0 k n ((bs.length : Int) == 0) bs (p + 1) := by
    intro k
    unfold spec_l20Rd_pick.f
    rw [if_neg (by omega), ep]
  by_cases hz : bs.length = 0
  · refine ⟨0, by omega, by omega, Ev.congr hf (Ev.step (fun k => ?_) (Ev.now _))⟩
    simp only [spec_l20Rd_pick.j0]
    rw [if_pos (by simp [hz])]
  · have hz2 : ((bs.length : Int) == 0) = false := by simpa using hz
    by_cases hp : p < (bs.length : Int)
    · have hr := hb.at_ p
      have ht := tmod_range hr.1 hn
      refine ⟨Int.tmod (rd bs p) n, ht.1, ht.2, Ev.congr hf (Ev.step (fun k => ?_) (Ev.now _))⟩
      simp only [spec_l20Rd_pick.j0, hz2, e1]
      rw [if_neg (by simp), if_pos hp, if_pos h0, if_neg (by omega), w64 (by omega) (by omega)]
    · have hl1 : (1 : Int) ≤ (bs.length : Int) := by omega
      have t1 := tmod_range h0 hl1
      have t2 := tmod_range (show 0 ≤ p * 7 + 3 by omega) hl1
      have t3 := tdiv_range h0 hl1
      have e7 : wrap64 (p * 7) = p * 7 := w64 (by omega) (by omega)
      have e73 : wrap64 (p * 7 + 3) = p * 7 + 3 := w64 (by omega) (by omega)
      have u1 := hb.at_ (Int.tmod p (bs.length : Int))
      have u2 := hb.at_ (Int.tmod (p * 7 + 3) (bs.length : Int))
      have key : ∀ k, spec_l20Rd_pick.j0 (k + 1) n ((bs.length : Int) == 0) bs (p + 1) = some (Int.tmod (Go.bits .xor .i64 (rd bs (Int.tmod p (bs.length : Int)) * 131 + rd bs (Int.tmod (p * 7 + 3) (bs.length : Int)) * 1117 + p * 29 + Int.tdiv p (bs.length : Int) * 53) (Int.tdiv (rd bs (Int.tmod p (bs.length : Int)) * 131 + rd bs (Int.tmod (p * 7 + 3) (bs.length : Int)) * 1117 + p * 29 + Int.tdiv p (bs.length : Int) * 53) 64)) n, p + 1) := by
        intro k
        simp only [spec_l20Rd_pick.j0, hz2, e1, e7, e73]
        rw [if_neg (by simp), if_neg hp, if_neg (by omega), if_pos t1.1, if_pos t1.2, if_pos t2.1, if_pos t2.2, if_neg (by omega)]
        generalize rd bs (Int.tmod p (bs.length : Int)) = u at *
        generalize rd bs (Int.tmod (p * 7 + 3) (bs.length : Int)) = v at *
        generalize Int.tdiv p (bs.length : Int) = q at *
        rw [w64 (n := u) (by omega) (by omega), w64 (n := v) (by omega) (by omega), w64 (n := u * 131) (by omega) (by omega), w64 (n := v * 1117) (by omega) (by omega), w64 (n := u * 131 + v * 1117) (by omega) (by omega), w64 (n := p * 29) (by omega) (by omega), w64 (n := u * 131 + v * 1117 + p * 29) (by omega) (by omega), w64 (n := q) (by omega) (by omega), w64 (n := q * 53) (by omega) (by omega), w64 (n := u * 131 + v * 1117 + p * 29 + q * 53) (by omega) (by omega)]
        have t4 := tdiv_range (show 0 ≤ u * 131 + v * 1117 + p * 29 + q * 53 by omega) (show (1 : Int) ≤ 64 by omega)
        rw [w64 (n := Int.tdiv (u * 131 + v * 1117 + p * 29 + q * 53) 64) (by omega) (by omega)]
      generalize rd bs (Int.tmod p (bs.length : Int)) = u at *
      generalize rd bs (Int.tmod (p * 7 + 3) (bs.length : Int)) = v at *
      generalize Int.tdiv p (bs.length : Int) = q at *
      have t4 := tdiv_range (show 0 ≤ u * 131 + v * 1117 + p * 29 + q * 53 by omega) (show (1 : Int) ≤ 64 by omega)
      have hx := xor_pos (a := u * 131 + v * 1117 + p * 29 + q * 53) (b := Int.tdiv (u * 131 + v * 1117 + p * 29 + q * 53) 64) (by omega) (by omega) (by omega) (by omega)
      have ht := tmod_range hx hn
      exact ⟨_, ht.1, ht.2, Ev.congr hf (Ev.step key (Ev.now _))⟩
theorem open_ev {l0 : List Int} (hb : Bytes l0) : ∃ bs, Bytes bs ∧ bs.length ≤ 2000 ∧ spec_l20Open.f l0 = some (bs, 0) := by
  unfold spec_l20Open.f
  by_cases h : (l0.length : Int) > 2000
  · exact ⟨l0.take 2000, hb.take _, by rw [List.length_take]; omega, by rw [if_pos h, if_pos (by omega)]⟩
  · exact ⟨l0, hb, by omega, by rw [if_neg h]⟩

theorem odd_ev {bs : List Int} (hb : Bytes bs) (hl : bs.length ≤ 2000) {p n : Int} (h0 : 0 ≤ p) (h1 : p ≤ 1000000) (hn : 1 ≤ n) : ∃ b : Bool, Ev (fun k => spec_l20Rd_odd.f k bs p n) (b, p + 1) := by
  obtain ⟨r, a1, b1, c1⟩ := pick_ev hb hl h0 h1 hn
  refine ⟨r == wrap64 (n - 1), ?_⟩
  unfold spec_l20Rd_odd.f
  exact Ev.ite_pos (by omega) (Ev.bind c1 (Ev.now _))
theorem deed_j1 {bs : List Int} (hb : Bytes bs) (hl : bs.length ≤ 2000) {p : Int} (h0 : 0 ≤ p) (h1 : p ≤ 900000) (a b c : Int) : ∃ b' q, p ≤ q ∧ q ≤ p + 2 ∧ Ev (fun k => spec_l20Deed.j1 k bs p a b c) (a, b', c, q) := by
  obtain ⟨o, ho⟩ := odd_ev hb hl h0 (by omega : p ≤ 1000000) (by omega : (1 : Int) ≤ 40)
  cases o with
  | true =>
    obtain ⟨r, a1, b1, c1⟩ := pick_ev hb hl (by omega : 0 ≤ p + 1) (by omega) (by omega : (1 : Int) ≤ 3)
    refine ⟨rd [-1, 25, 100] r, p + 1 + 1, by omega, by omega, Ev.step (f := fun k => (spec_l20Rd_odd.f k bs p 40).bind fun bt152 => (if bt152.1 = true then ((some (([(-1), 25, 100] : List Int) : List Int)).bind fun y154 => ((spec_l20Rd_pick.f k bs bt152.2 3).bind fun bt157 => (if 0 ≤ bt157.1 then (if bt157.1 < (y154.length : Int) then (some (a, rd y154 bt157.1, c, bt157.2)) else (none)) else (none)))) else (some (a, b, c, bt152.2)))) (fun k => ?_) (Ev.bind ho (Ev.ite_pos rfl (Ev.bindc rfl (Ev.bind c1 (Ev.ite_pos a1 (Ev.ite_pos (by simp; omega) (Ev.now _)))))))⟩
    simp only [spec_l20Deed.j1]
  | false =>
    refine ⟨b, p + 1, by omega, by omega, Ev.step (f := fun k => (spec_l20Rd_odd.f k bs p 40).bind fun bt152 => (if bt152.1 = true then ((some (([(-1), 25, 100] : List Int) : List Int)).bind fun y154 => ((spec_l20Rd_pick.f k bs bt152.2 3).bind fun bt157 => (if 0 ≤ bt157.1 then (if bt157.1 < (y154.length : Int) then (some (a, rd y154 bt157.1, c, bt157.2)) else (none)) else (none)))) else (some (a, b, c, bt152.2)))) (fun k => ?_) (Ev.bind ho (Ev.ite_neg (by simp) (Ev.now _)))⟩
    simp only [spec_l20Deed.j1]
theorem deed_j0 {bs : List Int} (hb : Bytes bs) (hl : bs.length ≤ 2000) {p : Int} (h0 : 0 ≤ p) (h1 : p ≤ 800000) (x : Int) (f : Bool) (a b c : Int) : ∃ b' c' q, p ≤ q ∧ q ≤ p + 5 ∧ Ev (fun k => spec_l20Deed.j0 k x f bs p a b c) (a, b', c', q) := by
  by_cases hf : f = true
  · obtain ⟨r, a1, b1, c1⟩ := pick_ev hb hl h0 (by omega) (by omega : (1 : Int) ≤ 9)
    obtain ⟨b', q, q1, q2, hj⟩ := deed_j1 hb hl (by omega : 0 ≤ p + 1) (by omega) a r c
    refine ⟨b', c, q, by omega, by omega, Ev.step (f := fun k => (spec_l20Rd_pick.f k bs p 9).bind fun bt140 => (spec_l20Deed.j1 k bs bt140.2 a bt140.1 c)) (fun k => ?_) (Ev.bind c1 hj)⟩
    simp only [spec_l20Deed.j0]
    rw [if_pos hf]
  · by_cases hx : x = 3
    · obtain ⟨r1, a1, b1, c1⟩ := pick_ev hb hl h0 (by omega) (by omega : (1 : Int) ≤ 24)
      obtain ⟨r2, a2, b2, c2⟩ := pick_ev hb hl (by omega : 0 ≤ p + 1) (by omega) (by omega : (1 : Int) ≤ 100)
      obtain ⟨r3, a3, b3, c3⟩ := pick_ev hb hl (by omega : 0 ≤ p + 1 + 1) (by omega) (by omega : (1 : Int) ≤ 4)
      obtain ⟨b', q, q1, q2, hj⟩ := deed_j1 hb hl (by omega : 0 ≤ p + 1 + 1 + 1) (by omega) a (wrap64 (1 + r1)) (rd [0, 1, r2, 9999] r3)
      refine ⟨b', rd [0, 1, r2, 9999] r3, q, by omega, by omega, Ev.step (f := fun k => (spec_l20Rd_pick.f k bs p 24).bind fun bt142 => ((spec_l20Rd_pick.f k bs bt142.2 100).bind fun bt144 => ((some (([0, 1, bt144.1, 9999] : List Int) : List Int)).bind fun y146 => ((spec_l20Rd_pick.f k bs bt144.2 4).bind fun bt149 => (if 0 ≤ bt149.1 then (if bt149.1 < (y146.length : Int) then (spec_l20Deed.j1 k bs bt149.2 a (wrap64 (1 + bt142.1)) (rd y146 bt149.1)) else (none)) else (none)))))) (fun k => ?_) (Ev.bind c1 (Ev.bind c2 (Ev.bindc rfl (Ev.bind c3 (Ev.ite_pos a3 (Ev.ite_pos (by simp; omega) hj))))))⟩
      simp only [spec_l20Deed.j0]
      rw [if_neg hf, if_pos hx]
    · obtain ⟨b', q, q1, q2, hj⟩ := deed_j1 hb hl h0 (by omega) a b c
      refine ⟨b', c, q, by omega, by omega, Ev.step (fun k => ?_) hj⟩
      simp only [spec_l20Deed.j0]
      rw [if_neg hf, if_neg hx]
theorem deed_ev {bs : List Int} (hb : Bytes bs) (hl : bs.length ≤ 2000) {p : Int} (h0 : 0 ≤ p) (h1 : p ≤ 700000) : ∃ a b c q, p ≤ q ∧ q ≤ p + 7 ∧ Ev (fun k => spec_l20Deed.f k bs p) (a, b, c, q) := by
  obtain ⟨r1, a1, b1, c1⟩ := pick_ev hb hl h0 (by omega) (by omega : (1 : Int) ≤ 7)
  obtain ⟨r2, a2, b2, c2⟩ := pick_ev hb hl (by omega : 0 ≤ p + 1) (by omega) (by omega : (1 : Int) ≤ 60)
  unfold spec_l20Deed.f
  by_cases hk : wrap64 (rd [0, 0, 1, 2, 3, 3, 4] r1 + wrap64 (wrap64 (Int.tdiv r2 59) * 5)) = 0
  · obtain ⟨b', c', q, q1, q2, hj⟩ := deed_j0 hb hl (by omega : 0 ≤ p + 1 + 1) (by omega) (wrap64 (rd [0, 0, 1, 2, 3, 3, 4] r1 + wrap64 (wrap64 (Int.tdiv r2 59) * 5))) (wrap64 (rd [0, 0, 1, 2, 3, 3, 4] r1 + wrap64 (wrap64 (Int.tdiv r2 59) * 5)) == 0) (wrap64 (rd [0, 0, 1, 2, 3, 3, 4] r1 + wrap64 (wrap64 (Int.tdiv r2 59) * 5))) 0 0
    exact ⟨_, b', c', q, by omega, by omega, Ev.bindc rfl (Ev.bind c1 (Ev.ite_pos a1 (Ev.ite_pos (by simp; omega) (Ev.bind c2 (Ev.ite_pos hk hj)))))⟩
  · obtain ⟨b', c', q, q1, q2, hj⟩ := deed_j0 hb hl (by omega : 0 ≤ p + 1 + 1) (by omega) (wrap64 (rd [0, 0, 1, 2, 3, 3, 4] r1 + wrap64 (wrap64 (Int.tdiv r2 59) * 5))) (wrap64 (rd [0, 0, 1, 2, 3, 3, 4] r1 + wrap64 (wrap64 (Int.tdiv r2 59) * 5)) == 1) (wrap64 (rd [0, 0, 1, 2, 3, 3, 4] r1 + wrap64 (wrap64 (Int.tdiv r2 59) * 5))) 0 0
    exact ⟨_, b', c', q, by omega, by omega, Ev.bindc rfl (Ev.bind c1 (Ev.ite_pos a1 (Ev.ite_pos (by simp; omega) (Ev.bind c2 (Ev.ite_neg hk hj)))))⟩

theorem deskNew_all : (List.range 8).all (fun n => match spec_DeskNew.f 200 (n : Int) with | some (r, p, _) => r.length == 24 && p.isEmpty | none => false) = true := by decide +kernel
theorem deskNew_ev {t : Int} (h0 : 0 ≤ t) (h1 : t < 8) : ∃ r b, r.length = 24 ∧ Ev (fun k => spec_DeskNew.f k t) (r, [], b) := by
  have h := List.all_eq_true.1 deskNew_all t.toNat (List.mem_range.2 (by omega))
  rw [Int.toNat_of_nonneg h0] at h
  split at h
  · rename_i r p b hr
    simp only [Bool.and_eq_true, beq_iff_eq, List.isEmpty_iff] at h
    obtain ⟨h2, rfl⟩ := h
    exact ⟨r, b, h2, Ev.of (spec_DeskNew.mono t) hr⟩
  · cases h
theorem sp_deskL {bs : List Int} (hb : Bytes bs) (hl : bs.length ≤ 2000) {n : Int} (hn : 1 ≤ n) : ∀ m : Nat, m ≤ 100 → ∀ (p : Int) (now : List Int) (past : List (List Int)), 0 ≤ p → p + 10 * m ≤ 100000 → Sz now past → now.length = 24 → ∃ r1 r2 q, r1.length ≤ 24 ∧ r2.length ≤ 10 ∧ (∀ x ∈ r2, x.length ≤ 24) ∧ p ≤ q ∧ q ≤ p + 10 * m + 10 ∧ Ev (fun k => spec_l20Desk.l0 k n (m : Int) bs p now past) (r1, r2, q) := by
  intro m
  induction m with
  | zero =>
    intro _ p now past h0 h1 hs hn24
    obtain ⟨s1, s2, s3⟩ := hs
    obtain ⟨o, ho⟩ := odd_ev hb hl h0 (by omega : p ≤ 1000000) hn
    cases o with
    | false =>
      refine ⟨now, past, p + 1, s1, by omega, s3, by omega, by omega, Ev.up ?_⟩
      simp only [spec_l20Desk.l0]
      exact Ev.ite_neg (by omega) (Ev.bind ho (Ev.ite_neg (by simp) (Ev.now _)))
    | true =>
      obtain ⟨r, a1, b1, c1⟩ := pick_ev hb hl (by omega : 0 ≤ p + 1) (by omega) (by omega : (1 : Int) ≤ 3)
      by_cases r0 : r = 0
      · refine ⟨now.drop 1, past, p + 1 + 1, by simp; omega, by omega, s3, by omega, by omega, Ev.up ?_⟩
        simp only [spec_l20Desk.l0]
        exact Ev.ite_neg (by omega) (Ev.bind ho (Ev.ite_pos rfl (Ev.bind c1 (Ev.ite_pos r0 (Ev.ite_pos (by omega) (Ev.now _))))))
      · by_cases r1 : r = 1
        · refine ⟨now, past ++ [[]], p + 1 + 1, s1, by simp; omega, fun x hx => ?_, by omega, by omega, Ev.up ?_⟩
          · rcases List.mem_append.1 hx with h | h
            · exact s3 x h
            · rw [List.mem_singleton.1 h]; simp
          · simp only [spec_l20Desk.l0]
            exact Ev.ite_neg (by omega) (Ev.bind ho (Ev.ite_pos rfl (Ev.bind c1 (Ev.ite_neg r0 (Ev.ite_pos r1 (Ev.ite_pos (by omega) (Ev.now _)))))))
        · refine ⟨[], [], p + 1 + 1, by simp, by simp, nofun, by omega, by omega, Ev.up ?_⟩
          simp only [spec_l20Desk.l0]
          exact Ev.ite_neg (by omega) (Ev.bind ho (Ev.ite_pos rfl (Ev.bind c1 (Ev.ite_neg r0 (Ev.ite_neg r1 (Ev.now _))))))
  | succ m ih =>
    intro hm p now past h0 h1 hs hn24
    obtain ⟨a, b, c, q, q1, q2, ed⟩ := deed_ev hb hl h0 (by omega : p ≤ 700000)
    obtain ⟨x1, x2, x3, xs, xl, ex⟩ := sp_do now past a b c hs
    have e1 : wrap64 (((m + 1 : Nat) : Int) - 1) = (m : Int) := by rw [w64 (by omega) (by omega)]; omega
    cases x3 with
    | true =>
      obtain ⟨r1, r2, q', g1, g2, g3, g4, g5, e⟩ := ih (by omega) q x1 x2 (by omega) (by omega) xs (xl rfl)
      refine ⟨r1, r2, q', g1, g2, g3, by omega, by omega, Ev.up ?_⟩
      simp only [spec_l20Desk.l0, e1]
      clear e1
      exact Ev.ite_pos (by omega) (Ev.bind ed (Ev.bind ex (Ev.ite_pos rfl e)))
    | false =>
      obtain ⟨r1, r2, q', g1, g2, g3, g4, g5, e⟩ := ih (by omega) q now past (by omega) (by omega) hs hn24
      refine ⟨r1, r2, q', g1, g2, g3, by omega, by omega, Ev.up ?_⟩
      simp only [spec_l20Desk.l0, e1]
      clear e1
      exact Ev.ite_pos (by omega) (Ev.bind ed (Ev.bind ex (Ev.ite_neg (by simp) e)))
theorem sp_l20desk {bs : List Int} (hb : Bytes bs) (hl : bs.length ≤ 2000) {p n : Int} (h0 : 0 ≤ p) (h1 : p ≤ 50000) (hn : 1 ≤ n) : ∃ r1 r2 q, r1.length ≤ 24 ∧ r2.length ≤ 10 ∧ (∀ x ∈ r2, x.length ≤ 24) ∧ p ≤ q ∧ q ≤ p + 100 ∧ Ev (fun k => spec_l20Desk.f k bs p n) (r1, r2, q) := by
  obtain ⟨a, a1, a2, ea⟩ := pick_ev hb hl h0 (by omega) (by omega : (1 : Int) ≤ 8)
  obtain ⟨r, b, hr, er⟩ := deskNew_ev a1 a2
  obtain ⟨m, m1, m2, em⟩ := pick_ev hb hl (by omega : 0 ≤ p + 1) (by omega) (by omega : (1 : Int) ≤ 5)
  obtain ⟨r1, r2, q, g1, g2, g3, g4, g5, e⟩ := sp_deskL hb hl hn m.toNat (by omega) (p + 1 + 1) r [] (by omega) (by omega) ⟨by omega, by simp, nofun⟩ hr
  rw [Int.toNat_of_nonneg m1] at e
  refine ⟨r1, r2, q, g1, g2, g3, by omega, by omega, ?_⟩
  unfold spec_l20Desk.f
  exact Ev.bind ea (Ev.bind er (Ev.bind em e))

theorem numberOk_eq (a : Int) : impl_numberOk.f a = some (decide (1 ≤ a ∧ a ≤ 10000)) := by
  unfold impl_numberOk.f
  by_cases h : a ≥ 1
  · rw [if_pos h]; simp [h]
  · rw [if_neg h]; congr 1; symm; simp; intro h2; omega

theorem alive_eq : laws_alive.f = some true := by
  unfold laws_alive.f impl_DividesOk.f
  simp only [numberOk_eq]
  decide +kernel

theorem deskB_forget {now : List Int} {past : List (List Int)} (h : deskB now past = true) : deskB now [] = true := by
  unfold deskB at *
  simp only [Bool.and_eq_true] at h
  simp [allF, h.2.1]
theorem FnDeskOk : laws_FnDeskOk.Pure := by
  intro l0 _ _ hw
  refine Ev.rounds ?_
  unfold laws_FnDeskOk.f
  by_cases hl : (l0.length : Int) > 1048576
  · exact Ev.ite_pos hl (Ev.now _)
  refine Ev.ite_neg hl ?_
  obtain ⟨bs, h1, h2, h3⟩ := open_ev (Bytes.of hw)
  obtain ⟨now, past, q, g1, g2, g3, _, _, e⟩ := sp_l20desk h1 h2 (p := 0) (n := 2) (by omega) (by omega) (by omega)
  have hd : Ev (fun k => spec_DrawDeskOk.f k l0) (now, past) := by
    unfold spec_DrawDeskOk.f
    exact Ev.bindc h3 (Ev.bind e (Ev.now _))
  have g4 : ∀ x ∈ past, x.length ≤ 1000000000 := fun x hx => by have := g3 x hx; omega
  have e1 := impl_desk now past (by omega) (by omega) g4
  have e2 := spec_desk now past (by omega) (by omega) g4
  have e3 : Ev (fun k => impl_DeskOk.f k ([] : List Int) ([] : List (List Int))) false := impl_desk [] [] (by simp) (by simp) nofun
  refine Ev.bind hd (Ev.bind e1 (Ev.bind e2 (Ev.ite_neg (by simp) ?_)))
  cases h : deskB now past with
  | true =>
    have e4 := impl_desk now [] (by omega) (by simp) nofun
    rw [deskB_forget h] at e4
    exact Ev.ite_pos rfl (Ev.bind e4 (Ev.ite_pos rfl (Ev.bind e3 (Ev.ite_neg (by simp) (Ev.bindc alive_eq (Ev.now _))))))
  | false => exact Ev.ite_neg (by simp) (Ev.bind e3 (Ev.ite_neg (by simp) (Ev.bindc alive_eq (Ev.now _))))

end Go.Proofs.Ytgkgpmnaflaaeaa.Pure
