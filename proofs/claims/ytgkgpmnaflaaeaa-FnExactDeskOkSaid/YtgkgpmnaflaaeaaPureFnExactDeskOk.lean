/-
  What a desk is, the program and the reference tell alike.
-/
import Derived.Test.YtgkgpmnaflaaeaaPFnExactDeskOkx3
import Derived.Test.YtgkgpmnaflaaeaaLib
import Derived.Test.YtgkgpmnaflaaeaaLibRow
namespace Go.Proofs.Ytgkgpmnaflaaeaa.Pure
open Go.RowKit Go.Proofs.Ytgkgpmnaflaaeaa.PFnExactDeskOk Go.Proofs.YtgkgpmnaflaaeaaW.PrintWords Go.Proofs.YtgkgpmnaflaaeaaW.PrintLast Go.Proofs.YtgkgpmnaflaaeaaW.PrintMore Go.Proofs.Ytgkgpmnaflaaeaa.Lib
set_option linter.unusedVariables false
set_option linter.unusedSimpArgs false

theorem impl_rowL (row : List Int) (hl : row.length ≤ 1000000000) : ∀ f i, i + f = row.length → Ev (fun k => impl_within.l0 k row 1000000000 row (row.length : Int) (i : Int)) (allF (r1 row) f i && ((row.length : Int) == 24)) := by
  intro f
  induction f with
  | zero =>
    intro i h
    refine Ev.step (fun k => ?_) (Ev.now _)
    simp only [impl_within.l0]
    rw [if_neg (by omega)]
    simp [allF]
  | succ f ih =>
    intro i h
    have ew : wrap64 (-1000000000) = -1000000000 := by decide +kernel
    by_cases e : -1000000000 ≤ row.getD i 0 ∧ row.getD i 0 ≤ 1000000000
    · have ih := ih (i + 1) (by omega)
      have ek : r1 row i = true := decide_eq_true e
      simp only [allF, ek, Bool.true_and]
      refine Ev.step (fun k => ?_) ih
      simp only [impl_within.l0, rdn, ew]
      rw [if_pos (by omega), if_pos (by omega), if_pos (by omega), if_neg (by omega), if_neg (by omega), w64 (by omega) (by omega)]
      rfl
    · have ek : r1 row i = false := decide_eq_false e
      simp only [allF, ek, Bool.false_and]
      refine Ev.step (fun k => ?_) (Ev.now _)
      simp only [impl_within.l0, rdn, ew]
      rw [if_pos (by omega), if_pos (by omega), if_pos (by omega)]
      by_cases e2 : row.getD i 0 < -1000000000
      · rw [if_pos e2]
      · rw [if_neg e2, if_pos (by omega)]
theorem impl_rowOk (row : List Int) (hl : row.length ≤ 1000000000) : Ev (fun k => impl_RowOk.f k row) (rowB row) := by
  have h : Ev (fun k => impl_within.f k row 1000000000) (rowB row) := impl_rowL row hl row.length 0 (by omega)
  unfold impl_RowOk.f
  exact Ev.bind h (Ev.now _)

theorem l1In_eq (a b c : Int) : spec_l1In.f a b c = some (decide (b ≤ a ∧ a ≤ c)) := by
  unfold spec_l1In.f
  by_cases h : a ≥ b
  · rw [if_pos h]; simp [h]
  · rw [if_neg h]; congr 1; symm; simp; intro h2; omega

theorem spec_rowL (row : List Int) (hl : row.length ≤ 1000000000) : ∀ f i, i + f = row.length → Ev (fun k => spec_RowOk.l0 k row (i : Int)) (allF (r1 row) f i && ((row.length : Int) == 24)) := by
  intro f
  induction f with
  | zero =>
    intro i h
    refine Ev.step (fun k => ?_) (Ev.now _)
    simp only [spec_RowOk.l0]
    rw [if_neg (by omega)]
    simp [allF]
  | succ f ih =>
    intro i h
    by_cases e : -1000000000 ≤ row.getD i 0 ∧ row.getD i 0 ≤ 1000000000
    · have ih := ih (i + 1) (by omega)
      have ek : r1 row i = true := decide_eq_true e
      simp only [allF, ek, Bool.true_and]
      refine Ev.step (fun k => ?_) ih
      simp only [spec_RowOk.l0, rdn, l1In_eq, Option.bind_some]
      rw [if_pos (by omega), if_pos (by omega), decide_eq_true e, if_pos rfl, w64 (by omega) (by omega)]
      rfl
    · have ek : r1 row i = false := decide_eq_false e
      simp only [allF, ek, Bool.false_and]
      refine Ev.step (fun k => ?_) (Ev.now _)
      simp only [spec_RowOk.l0, rdn, l1In_eq, Option.bind_some]
      rw [if_pos (by omega), if_pos (by omega), decide_eq_false e, if_neg (by simp)]
theorem spec_rowOk (row : List Int) (hl : row.length ≤ 1000000000) : Ev (fun k => spec_RowOk.f k row) (rowB row) := spec_rowL row hl row.length 0 (by omega)

theorem rdL (l : List (List Int)) (i : Nat) : rd_L1 l (i : Int) = l.getD i [] := by unfold rd_L1; rw [Int.toNat_natCast]
theorem getD_len {l : List (List Int)} {m : Nat} (h : ∀ x ∈ l, x.length ≤ m) (i : Nat) : (l.getD i []).length ≤ m := by
  by_cases hi : i < l.length
  · rw [List.getD_eq_getElem?_getD, List.getElem?_eq_getElem hi]
    exact h _ (List.getElem_mem _)
  · rw [List.getD_eq_getElem?_getD, List.getElem?_eq_none (by omega)]
    exact Nat.zero_le _
theorem impl_deskL (now : List Int) (past : List (List Int)) (h1 : now.length ≤ 1000000000) (h2 : past.length ≤ 1000000000) (h3 : ∀ x ∈ past, x.length ≤ 1000000000) : ∀ f i, i + f = past.length → Ev (fun k => impl_DeskOk.l0 k past (past.length : Int) (i : Int) now past) (allF (fun i => rowB (past.getD i [])) f i && (rowB now && decide ((past.length : Int) ≤ 8))) := by
  intro f
  induction f with
  | zero =>
    intro i h
    simp only [allF, Bool.true_and]
    refine Ev.step (f := fun k => (impl_RowOk.f k now).bind fun t139 => (if t139 = true then (some (decide ((past.length : Int) ≤ 8))) else (some false))) (fun k => ?_) (Ev.bind (impl_rowOk now h1) ?_)
    · simp only [impl_DeskOk.l0]
      rw [if_neg (by omega)]
    · cases rowB now
      · exact Ev.ite_neg (by simp) (Ev.now _)
      · rw [Bool.true_and]
        exact Ev.ite_pos rfl (Ev.now _)
  | succ f ih =>
    intro i h
    refine Ev.step (f := fun k => (impl_RowOk.f k (past.getD i [])).bind fun t138 => (if t138 = true then (impl_DeskOk.l0 k past (past.length : Int) (wrap64 ((i : Int) + 1)) now past) else (some false))) (fun k => ?_) (Ev.bind (impl_rowOk _ (getD_len h3 i)) ?_)
    · simp only [impl_DeskOk.l0, rdL]
      rw [if_pos (by omega), if_pos (by omega), if_pos (by omega)]
    · simp only [allF]
      cases rowB (past.getD i [])
      · simp only [Bool.false_and]
        exact Ev.ite_neg (by simp) (Ev.now _)
      · rw [Bool.true_and, w64 (by omega) (by omega)]
        exact Ev.ite_pos rfl (ih (i + 1) (by omega))
theorem impl_desk (now : List Int) (past : List (List Int)) (h1 : now.length ≤ 1000000000) (h2 : past.length ≤ 1000000000) (h3 : ∀ x ∈ past, x.length ≤ 1000000000) : Ev (fun k => impl_DeskOk.f k now past) (deskB now past) :=
  impl_deskL now past h1 h2 h3 past.length 0 (by omega)
theorem spec_deskL (now : List Int) (past : List (List Int)) (h1 : now.length ≤ 1000000000) (h2 : past.length ≤ 1000000000) (h3 : ∀ x ∈ past, x.length ≤ 1000000000) : ∀ f i, i + f = past.length → Ev (fun k => spec_DeskOk.l0 k (i : Int) now past) (allF (fun i => rowB (past.getD i [])) f i && (rowB now && decide ((past.length : Int) ≤ 8))) := by
  intro f
  induction f with
  | zero =>
    intro i h
    simp only [allF, Bool.true_and]
    refine Ev.step (f := fun k => (spec_RowOk.f k now).bind fun t139 => (if t139 = true then (some (decide ((past.length : Int) ≤ 8))) else (some false))) (fun k => ?_) (Ev.bind (spec_rowOk now h1) ?_)
    · simp only [spec_DeskOk.l0]
      rw [if_neg (by omega)]
    · cases rowB now
      · exact Ev.ite_neg (by simp) (Ev.now _)
      · rw [Bool.true_and]
        exact Ev.ite_pos rfl (Ev.now _)
  | succ f ih =>
    intro i h
    refine Ev.step (f := fun k => (spec_RowOk.f k (past.getD i [])).bind fun t138 => (if t138 = true then (spec_DeskOk.l0 k (wrap64 ((i : Int) + 1)) now past) else (some false))) (fun k => ?_) (Ev.bind (spec_rowOk _ (getD_len h3 i)) ?_)
    · simp only [spec_DeskOk.l0, rdL]
      rw [if_pos (by omega), if_pos (by omega)]
    · simp only [allF]
      cases rowB (past.getD i [])
      · simp only [Bool.false_and]
        exact Ev.ite_neg (by simp) (Ev.now _)
      · rw [Bool.true_and, w64 (by omega) (by omega)]
        exact Ev.ite_pos rfl (ih (i + 1) (by omega))
theorem spec_desk (now : List Int) (past : List (List Int)) (h1 : now.length ≤ 1000000000) (h2 : past.length ≤ 1000000000) (h3 : ∀ x ∈ past, x.length ≤ 1000000000) : Ev (fun k => spec_DeskOk.f k now past) (deskB now past) :=
  spec_deskL now past h1 h2 h3 past.length 0 (by omega)

theorem eqIntS_ev (l : List Int) (hl : l.length ≤ 1000000000) : ∀ f i, i + f = l.length → Ev (fun k => laws_eqIntS.l0 k l l (i : Int)) true := by
  intro f
  induction f with
  | zero =>
    intro i h
    refine Ev.step (fun k => ?_) (Ev.now _)
    simp only [laws_eqIntS.l0]
    rw [if_neg (by omega)]
  | succ f ih =>
    intro i h
    refine Ev.step (fun k => ?_) (ih (i + 1) (by omega))
    simp only [laws_eqIntS.l0, if_true]
    rw [if_pos (by omega), if_pos (by omega), if_pos (by omega), w64 (by omega) (by omega)]
    rfl
theorem eqIntS_f (l : List Int) (hl : l.length ≤ 1000000000) : Ev (fun k => laws_eqIntS.f k l l) true := by
  unfold laws_eqIntS.f
  exact Ev.ite_pos rfl (eqIntS_ev l hl l.length 0 (by omega))
theorem eqIntSS_ev (l : List (List Int)) (hl : l.length ≤ 1000000000) (hr : ∀ x ∈ l, x.length ≤ 1000000000) : ∀ f i, i + f = l.length → Ev (fun k => laws_eqIntSS.l0 k l l (i : Int)) true := by
  intro f
  induction f with
  | zero =>
    intro i h
    refine Ev.step (fun k => ?_) (Ev.now _)
    simp only [laws_eqIntSS.l0]
    rw [if_neg (by omega)]
  | succ f ih =>
    intro i h
    have hx : (rd_L1 l (i : Int)).length ≤ 1000000000 := by
      unfold rd_L1
      rw [Int.toNat_natCast, List.getD_eq_getElem?_getD, List.getElem?_eq_getElem (show i < l.length by omega)]
      exact hr _ (List.getElem_mem _)
    refine Ev.step (f := fun k => (laws_eqIntS.f k (rd_L1 l (i : Int)) (rd_L1 l (i : Int))).bind fun t295 => (if t295 = true then (laws_eqIntSS.l0 k l l (wrap64 ((i : Int) + 1))) else (some false))) (fun k => ?_) (Ev.bind (eqIntS_f _ hx) (Ev.ite_pos rfl ?_))
    · simp only [laws_eqIntSS.l0]
      rw [if_pos (by omega), if_pos (by omega), if_pos (by omega)]
    · rw [w64 (by omega) (by omega)]
      exact ih (i + 1) (by omega)
theorem eqIntSS_f (l : List (List Int)) (hl : l.length ≤ 1000000000) (hr : ∀ x ∈ l, x.length ≤ 1000000000) : Ev (fun k => laws_eqIntSS.f k l l) true := by
  unfold laws_eqIntSS.f
  exact Ev.ite_pos rfl (eqIntSS_ev l hl hr l.length 0 (by omega))

theorem toIntS_ev (l : List Int) (hl : l.length ≤ 1000000000) : ∀ (f i : Nat) (x : List Int), i + f = l.length → x.length = l.length → (∀ j, j < i → x[j]? = l[j]?) → Ev (fun k => laws_toIntS.l0 k l x (i : Int)) l := by
  intro f
  induction f with
  | zero =>
    intro i x h hx hj
    have e : x = l := by
      refine List.ext_getElem? (fun j => ?_)
      by_cases hji : j < i
      · exact hj j hji
      · rw [List.getElem?_eq_none (by omega), List.getElem?_eq_none (by omega)]
    refine Ev.step (fun k => ?_) (Ev.now _)
    simp only [laws_toIntS.l0]
    rw [if_neg (by omega), e]
  | succ f ih =>
    intro i x h hx hj
    refine Ev.step (fun k => ?_) (ih (i + 1) (x.set i (rd l (i : Int))) (by omega) (by rw [List.length_set]; exact hx) (fun j hji => ?_))
    · simp only [laws_toIntS.l0]
      rw [if_pos (by omega), if_pos (by omega), if_pos (by omega), w64 (by omega) (by omega), Int.toNat_natCast]
      rfl
    · rw [List.getElem?_set]
      by_cases e : i = j
      · subst e
        rw [if_pos rfl, if_pos (by omega), rdn, List.getElem?_eq_getElem (show i < l.length by omega), List.getD_eq_getElem?_getD, List.getElem?_eq_getElem (show i < l.length by omega)]
        rfl
      · rw [if_neg e]
        exact hj j (by omega)
theorem toIntS_f (l : List Int) (hl : l.length ≤ 1000000000) : Ev (fun k => laws_toIntS.f k l) l := by
  unfold laws_toIntS.f
  refine Ev.ite_pos (by omega) (Ev.ite_pos (by omega) ?_)
  exact toIntS_ev l hl l.length 0 _ (by omega) (by rw [List.length_replicate]; omega) (fun j hj => by omega)
theorem toIntSS_ev (l : List (List Int)) (hl : l.length ≤ 1000000000) (hr : ∀ x ∈ l, x.length ≤ 1000000000) : ∀ (f i : Nat) (x : List (List Int)), i + f = l.length → x.length = l.length → (∀ j, j < i → x[j]? = l[j]?) → Ev (fun k => laws_toIntSS.l0 k l x (i : Int)) l := by
  intro f
  induction f with
  | zero =>
    intro i x h hx hj
    have e : x = l := by
      refine List.ext_getElem? (fun j => ?_)
      by_cases hji : j < i
      · exact hj j hji
      · rw [List.getElem?_eq_none (by omega), List.getElem?_eq_none (by omega)]
    refine Ev.step (fun k => ?_) (Ev.now _)
    simp only [laws_toIntSS.l0]
    rw [if_neg (by omega), e]
  | succ f ih =>
    intro i x h hx hj
    have el : l[i]? = some (rd_L1 l (i : Int)) := by
      unfold rd_L1
      rw [Int.toNat_natCast, List.getElem?_eq_getElem (show i < l.length by omega), List.getD_eq_getElem?_getD, List.getElem?_eq_getElem (show i < l.length by omega)]
      rfl
    have hx2 : (rd_L1 l (i : Int)).length ≤ 1000000000 := hr _ (List.mem_of_getElem? el)
    refine Ev.step (f := fun k => (laws_toIntS.f k (rd_L1 l (i : Int))).bind fun t121 => (if (i : Int) < (x.length : Int) then (laws_toIntSS.l0 k l (x.set ((i : Int) : Int).toNat t121) (wrap64 ((i : Int) + 1))) else (none))) (fun k => ?_) (Ev.bind (toIntS_f _ hx2) (Ev.ite_pos (by omega) ?_))
    · simp only [laws_toIntSS.l0]
      rw [if_pos (by omega), if_pos (by omega)]
    · rw [w64 (by omega) (by omega), Int.toNat_natCast]
      refine ih (i + 1) _ (by omega) (by rw [List.length_set]; exact hx) (fun j hji => ?_)
      rw [List.getElem?_set]
      by_cases e : i = j
      · subst e
        rw [if_pos rfl, if_pos (by omega), el]
      · rw [if_neg e]
        exact hj j (by omega)
theorem toIntSS_f (l : List (List Int)) (hl : l.length ≤ 1000000000) (hr : ∀ x ∈ l, x.length ≤ 1000000000) : Ev (fun k => laws_toIntSS.f k l) l := by
  unfold laws_toIntSS.f
  refine Ev.ite_pos (by omega) (Ev.ite_pos (by omega) ?_)
  exact toIntSS_ev l hl hr l.length 0 _ (by omega) (by rw [List.length_replicate]; omega) (fun j hj => by omega)
theorem toDesk_f (a : List Int) (l : List (List Int)) (ha : a.length ≤ 1000000000) (hl : l.length ≤ 1000000000) (hr : ∀ x ∈ l, x.length ≤ 1000000000) : Ev (fun k => laws_toDesk.f k a l) (a, l) := by
  unfold laws_toDesk.f
  exact Ev.bind (toIntS_f a ha) (Ev.bind (toIntSS_f l hl hr) (Ev.now _))

theorem szIntS_eq (l : List Int) (hl : l.length ≤ 9223372036854775807) {a : Int} (h0 : 0 ≤ a) (h1 : a ≤ 1048576) : laws_szIntS.f l a = some (if a < (l.length : Int) then -1 else a - (l.length : Int)) := by
  unfold laws_szIntS.f
  rw [w64 (by omega) (by omega)]
  by_cases h : a < (l.length : Int)
  · rw [if_pos (by omega), if_pos h]
  · rw [if_neg (by omega), if_neg h]
theorem szIntSS_ev (l : List (List Int)) (hl : l.length ≤ 1048576) (hr : ∀ x ∈ l, x.length ≤ 9223372036854775807) : ∀ (r : List (List Int)) (i : Nat) (a : Int), l.drop i = r → i ≤ l.length → 0 ≤ a → a ≤ 1048576 → ∃ t, Ev (fun k => laws_szIntSS.l0 k l a (i : Int)) t ∧ (t < 0 ∨ (∀ x ∈ r, x.length ≤ 1048576)) := by
  intro r
  induction r with
  | nil =>
    intro i a h hi h0 h1
    have : l.length ≤ i := List.drop_eq_nil_iff.1 h
    refine ⟨a, Ev.step (fun k => ?_) (Ev.now _), .inr (by simp)⟩
    simp only [laws_szIntSS.l0]
    rw [if_neg (by omega)]
  | cons x r ih =>
    intro i a h hi h0 h1
    obtain ⟨hlt, hx, hd⟩ := drop_at h
    have el : rd_L1 l (i : Int) = x := by
      unfold rd_L1
      rw [Int.toNat_natCast, List.getD_eq_getElem?_getD, hx]
      rfl
    have hxl := hr x (List.mem_of_getElem? hx)
    have hs := szIntS_eq x hxl h0 h1
    by_cases hc : a < (x.length : Int)
    · rw [if_pos hc] at hs
      refine ⟨-1, Ev.step (fun k => ?_) (Ev.now _), .inl (by omega)⟩
      simp only [laws_szIntSS.l0, el, hs, Option.bind_some]
      rw [if_pos (by omega), if_pos (by omega), if_pos (by omega)]
    · rw [if_neg hc] at hs
      obtain ⟨t, h2, h3⟩ := ih (i + 1) (a - (x.length : Int)) hd hlt (by omega) (by omega)
      refine ⟨t, Ev.step (fun k => ?_) h2, ?_⟩
      · simp only [laws_szIntSS.l0, el, hs, Option.bind_some]
        rw [if_pos (by omega), if_pos (by omega), if_neg (by omega), w64 (by omega) (by omega)]
        rfl
      · rcases h3 with h3 | h3
        · exact .inl h3
        · refine .inr (fun y hy => ?_)
          rcases List.mem_cons.1 hy with rfl | hy
          · omega
          · exact h3 y hy
theorem szDesk_ev (a : List Int) (l : List (List Int)) (ha : a.length ≤ 9223372036854775807) (hl : l.length ≤ 9223372036854775807) (hr : ∀ x ∈ l, x.length ≤ 9223372036854775807) : ∃ t, Ev (fun k => laws_szDesk.f k a l 1048576) t ∧ (t < 0 ∨ (a.length ≤ 1048576 ∧ l.length ≤ 1048576 ∧ ∀ x ∈ l, x.length ≤ 1048576)) := by
  have hs := szIntS_eq a ha (a := 1048576) (by omega) (by omega)
  unfold laws_szDesk.f
  by_cases hc : (1048576 : Int) < (a.length : Int)
  · rw [if_pos hc] at hs
    exact ⟨-1, Ev.bindc hs (Ev.ite_pos (by omega) (Ev.now _)), .inl (by omega)⟩
  · rw [if_neg hc] at hs
    by_cases hc2 : (1048576 : Int) - (a.length : Int) < (l.length : Int)
    · have h2 : Ev (fun k => laws_szIntSS.f k l (1048576 - (a.length : Int))) (-1) := by
        unfold laws_szIntSS.f
        rw [w64 (by omega) (by omega)]
        exact Ev.ite_pos (by omega) (Ev.now _)
      exact ⟨-1, Ev.bindc hs (Ev.ite_neg (by omega) (Ev.bind h2 (Ev.ite_pos (by omega) (Ev.now _)))), .inl (by omega)⟩
    · obtain ⟨t, h3, h4⟩ := szIntSS_ev l (by omega) hr l 0 (1048576 - (a.length : Int) - (l.length : Int)) rfl (by omega) (by omega) (by omega)
      have h2 : Ev (fun k => laws_szIntSS.f k l (1048576 - (a.length : Int))) t := by
        unfold laws_szIntSS.f
        rw [w64 (by omega) (by omega)]
        exact Ev.ite_neg (by omega) h3
      by_cases ht : t < 0
      · exact ⟨-1, Ev.bindc hs (Ev.ite_neg (by omega) (Ev.bind h2 (Ev.ite_pos ht (Ev.now _)))), .inl (by omega)⟩
      · refine ⟨t, Ev.bindc hs (Ev.ite_neg (by omega) (Ev.bind h2 (Ev.ite_neg ht (Ev.now _)))), ?_⟩
        rcases h4 with h4 | h4
        · exact .inl h4
        · exact .inr ⟨by omega, by omega, h4⟩

theorem FnExactDeskOk : ∀ (a : List Int) (l : List (List Int)), a.length ≤ 9223372036854775807 → l.length ≤ 9223372036854775807 → (∀ x ∈ l, x.length ≤ 9223372036854775807) → ∃ k, laws_FnExactDeskOk.f k a l = some true := by
  intro a l ha hl hr
  refine Ev.rounds ?_
  unfold laws_FnExactDeskOk.f
  obtain ⟨t, h1, h2⟩ := szDesk_ev a l ha hl hr
  refine Ev.bind h1 ?_
  by_cases ht : t < 0
  · exact Ev.ite_pos ht (Ev.now _)
  refine Ev.ite_neg ht ?_
  obtain ⟨b1, b2, b3⟩ := h2.resolve_left ht
  have b4 : ∀ x ∈ l, x.length ≤ 1000000000 := fun x hx => by have := b3 x hx; omega
  have td := toDesk_f a l (by omega) (by omega) b4
  have eq : Ev (fun k => laws_eqDesk.f k a l a l) true := by
    unfold laws_eqDesk.f
    exact Ev.bind (eqIntS_f a (by omega)) (Ev.ite_pos rfl (Ev.bind (eqIntSS_f l (by omega) b4) (Ev.ite_pos rfl (Ev.now _))))
  exact Ev.bind td (Ev.bind (spec_desk a l (by omega) (by omega) b4) (Ev.bind td (Ev.bind (impl_desk a l (by omega) (by omega) b4) (Ev.ite_neg (by simp) (Ev.bind td (Ev.bind eq (Ev.ite_pos rfl (Ev.now _))))))))

end Go.Proofs.Ytgkgpmnaflaaeaa.Pure
