/-
 Of every desk and every list of deeds the program and the reference agree; what was handed in is left as it was, and what is handed back is its own.
-/
import Derived.Test.YtmgjidgfhlclmaaPFnExactDeskRunx19
import Derived.Test.YtmgjidgfhlclmaaLib
import Derived.Test.YtmgjidgfhlclmaaLibRow
import Derived.Test.YtmgjidgfhlclmaaLibLen
namespace Go.Proofs.Ytmgjidgfhlclmaa.Pure
open Go.RowKit Go.Proofs.Ytmgjidgfhlclmaa.PFnExactDeskRun Go.Proofs.YtmgjidgfhlclmaaW.PrintWords Go.Proofs.YtmgjidgfhlclmaaW.PrintLast Go.Proofs.YtmgjidgfhlclmaaW.PrintMore Go.Proofs.Ytmgjidgfhlclmaa.Lib
set_option linter.unusedVariables false
set_option linter.unusedSimpArgs false

theorem szIntS_eq (l : List Int) (hl : l.length ≤ 9223372036854775807) {a : Int} (h0 : 0 ≤ a) (h1 : a ≤ 1048576) : laws_szIntS.f l a = some (if a < (l.length : Int) then -1 else a - (l.length : Int)) := by
 unfold laws_szIntS.f
 rw [w64 (by omega) (by omega)]
 by_cases h : a < (l.length : Int)
 ·rw [if_pos (by omega), if_pos h]
 ·rw [if_neg (by omega), if_neg h]
theorem szIntSS_ev (l : List (List Int)) (hl : l.length ≤ 1048576) (hr : ∀ x ∈ l, x.length ≤ 9223372036854775807) : ∀ (r : List (List Int)) (i : Nat) (a : Int), l.drop i = r → i ≤ l.length → 0 ≤ a → a ≤ 1048576 → ∃ t, Ev (fun k => laws_szIntSS.l0 k l a (i : Int)) t ∧ (t < 0 ∨ (∀ x ∈ r, x.length ≤ 1048576)) := by
 intro r
 induction r with
 | nil =>
  intro i a h hi h0 h1
  have : l.length ≤ i := List.drop_eq_nil_iff.1 h
  refine ⟨a, Ev.step (fun k => ?_) (Ev.now _), .inr (by simp)⟩
  simp only [laws_szIntSS.l0]
  rw [if_neg (by omega)]
 | cons x r ih =>
  intro i a h hi h0 h1
  obtain ⟨hlt, hx, hd⟩ := drop_at h
  have el : rd_L1 l (i : Int) = x := by
   unfold rd_L1
   rw [Int.toNat_natCast, List.getD_eq_getElem?_getD, hx]
   rfl
  have hxl := hr x (List.mem_of_getElem? hx)
  have hs := szIntS_eq x hxl h0 h1
  by_cases hc : a < (x.length : Int)
  ·rw [if_pos hc] at hs
   refine ⟨-1, Ev.step (fun k => ?_) (Ev.now _), .inl (by omega)⟩
   simp only [laws_szIntSS.l0, el, hs, Option.bind_some]
   rw [if_pos (by omega), if_pos (by omega), if_pos (by omega)]
  ·rw [if_neg hc] at hs
   obtain ⟨t, h2, h3⟩ := ih (i + 1) (a - (x.length : Int)) hd hlt (by omega) (by omega)
   refine ⟨t, Ev.step (fun k => ?_) h2, ?_⟩
   ·simp only [laws_szIntSS.l0, el, hs, Option.bind_some]
    rw [if_pos (by omega), if_pos (by omega), if_neg (by omega), w64 (by omega) (by omega)]
    rfl
   ·rcases h3 with h3 | h3
    ·exact .inl h3
    ·refine .inr (fun y hy => ?_)
     rcases List.mem_cons.1 hy with rfl | hy
     ·omega
     ·exact h3 y hy
theorem szDesk_ev (a : List Int) (l : List (List Int)) (ha : a.length ≤ 9223372036854775807) (hl : l.length ≤ 9223372036854775807) (hr : ∀ x ∈ l, x.length ≤ 9223372036854775807) : ∃ t, Ev (fun k => laws_szDesk.f k a l 1048576) t ∧ (t < 0 ∨ (a.length ≤ 1048576 ∧ l.length ≤ 1048576 ∧ ∀ x ∈ l, x.length ≤ 1048576)) := by
 have hs := szIntS_eq a ha (a := 1048576) (by omega) (by omega)
 unfold laws_szDesk.f
 by_cases hc : (1048576 : Int) < (a.length : Int)
 ·rw [if_pos hc] at hs
  exact ⟨-1, Ev.bindc hs (Ev.ite_pos (by omega) (Ev.now _)), .inl (by omega)⟩
 ·rw [if_neg hc] at hs
  by_cases hc2 : (1048576 : Int) - (a.length : Int) < (l.length : Int)
  ·have h2 : Ev (fun k => laws_szIntSS.f k l (1048576 - (a.length : Int))) (-1) := by
    unfold laws_szIntSS.f
    rw [w64 (by omega) (by omega)]
    exact Ev.ite_pos (by omega) (Ev.now _)
   exact ⟨-1, Ev.bindc hs (Ev.ite_neg (by omega) (Ev.bind h2 (Ev.ite_pos (by omega) (Ev.now _)))), .inl (by omega)⟩
  ·obtain ⟨t, h3, h4⟩ := szIntSS_ev l (by omega) hr l 0 (1048576 - (a.length : Int) - (l.length : Int)) rfl (by omega) (by omega) (by omega)
   have h2 : Ev (fun k => laws_szIntSS.f k l (1048576 - (a.length : Int))) t := by
    unfold laws_szIntSS.f
    rw [w64 (by omega) (by omega)]
    exact Ev.ite_neg (by omega) h3
   by_cases ht : t < 0
   ·exact ⟨-1, Ev.bindc hs (Ev.ite_neg (by omega) (Ev.bind h2 (Ev.ite_pos ht (Ev.now _)))), .inl (by omega)⟩
   ·refine ⟨t, Ev.bindc hs (Ev.ite_neg (by omega) (Ev.bind h2 (Ev.ite_neg ht (Ev.now _)))), ?_⟩
    rcases h4 with h4 | h4
    ·exact .inl h4
    ·exact .inr ⟨by omega, by omega, h4⟩

theorem eqIntS_ev (l : List Int) (hl : l.length ≤ 1000000000) : ∀ f i, i + f = l.length → Ev (fun k => laws_eqIntS.l0 k l l (i : Int)) true := by
 intro f
 induction f with
 | zero =>
  intro i h
  refine Ev.step (fun k => ?_) (Ev.now _)
  simp only [laws_eqIntS.l0]
  rw [if_neg (by omega)]
 | succ f ih =>
  intro i h
  refine Ev.step (fun k => ?_) (ih (i + 1) (by omega))
  simp only [laws_eqIntS.l0, if_true]
  rw [if_pos (by omega), if_pos (by omega), if_pos (by omega), w64 (by omega) (by omega)]
  rfl
theorem eqIntS_f (l : List Int) (hl : l.length ≤ 1000000000) : Ev (fun k => laws_eqIntS.f k l l) true := by
 unfold laws_eqIntS.f
 exact Ev.ite_pos rfl (eqIntS_ev l hl l.length 0 (by omega))
theorem eqIntSS_ev (l : List (List Int)) (hl : l.length ≤ 1000000000) (hr : ∀ x ∈ l, x.length ≤ 1000000000) : ∀ f i, i + f = l.length → Ev (fun k => laws_eqIntSS.l0 k l l (i : Int)) true := by
 intro f
 induction f with
 | zero =>
  intro i h
  refine Ev.step (fun k => ?_) (Ev.now _)
  simp only [laws_eqIntSS.l0]
  rw [if_neg (by omega)]
 | succ f ih =>
  intro i h
  have hx : (rd_L1 l (i : Int)).length ≤ 1000000000 := by
   unfold rd_L1
   rw [Int.toNat_natCast, List.getD_eq_getElem?_getD, List.getElem?_eq_getElem (show i < l.length by omega)]
   exact hr _ (List.getElem_mem _)
  refine Ev.step (f := fun k => (laws_eqIntS.f k (rd_L1 l (i : Int)) (rd_L1 l (i : Int))).bind fun t295 => (if t295 = true then (laws_eqIntSS.l0 k l l (wrap64 ((i : Int) + 1))) else (some false))) (fun k => ?_) (Ev.bind (eqIntS_f _ hx) (Ev.ite_pos rfl ?_))
  ·simp only [laws_eqIntSS.l0]
   rw [if_pos (by omega), if_pos (by omega), if_pos (by omega)]
  ·rw [w64 (by omega) (by omega)]
   exact ih (i + 1) (by omega)
theorem eqIntSS_f (l : List (List Int)) (hl : l.length ≤ 1000000000) (hr : ∀ x ∈ l, x.length ≤ 1000000000) : Ev (fun k => laws_eqIntSS.f k l l) true := by
 unfold laws_eqIntSS.f
 exact Ev.ite_pos rfl (eqIntSS_ev l hl hr l.length 0 (by omega))

theorem toIntS_ev (l : List Int) (hl : l.length ≤ 1000000000) : ∀ (f i : Nat) (x : List Int), i + f = l.length → x.length = l.length → (∀ j, j < i → x[j]? = l[j]?) → Ev (fun k => laws_toIntS.l0 k l x (i : Int)) l := by
 intro f
 induction f with
 | zero =>
  intro i x h hx hj
  have e : x = l := by
   refine List.ext_getElem? (fun j => ?_)
   by_cases hji : j < i
   ·exact hj j hji
   ·rw [List.getElem?_eq_none (by omega), List.getElem?_eq_none (by omega)]
  refine Ev.step (fun k => ?_) (Ev.now _)
  simp only [laws_toIntS.l0]
  rw [if_neg (by omega), e]
 | succ f ih =>
  intro i x h hx hj
  refine Ev.step (fun k => ?_) (ih (i + 1) (x.set i (rd l (i : Int))) (by omega) (by rw [List.length_set]; exact hx) (fun j hji => ?_))
  ·simp only [laws_toIntS.l0]
   rw [if_pos (by omega), if_pos (by omega), if_pos (by omega), w64 (by omega) (by omega), Int.toNat_natCast]
   rfl
  ·rw [List.getElem?_set]
   by_cases e : i = j
   ·subst e
    rw [if_pos rfl, if_pos (by omega), rdn, List.getElem?_eq_getElem (show i < l.length by omega), List.getD_eq_getElem?_getD, List.getElem?_eq_getElem (show i < l.length by omega)]
    rfl
   ·rw [if_neg e]
    exact hj j (by omega)
theorem toIntS_f (l : List Int) (hl : l.length ≤ 1000000000) : Ev (fun k => laws_toIntS.f k l) l := by
 unfold laws_toIntS.f
 refine Ev.ite_pos (by omega) (Ev.ite_pos (by omega) ?_)
 exact toIntS_ev l hl l.length 0 _ (by omega) (by rw [List.length_replicate]; omega) (fun j hj => by omega)

theorem toIntSS_ev (l : List (List Int)) (hl : l.length ≤ 1000000000) (hr : ∀ x ∈ l, x.length ≤ 1000000000) : ∀ (f i : Nat) (x : List (List Int)), i + f = l.length → x.length = l.length → (∀ j, j < i → x[j]? = l[j]?) → Ev (fun k => laws_toIntSS.l0 k l x (i : Int)) l := by
 intro f
 induction f with
 | zero =>
  intro i x h hx hj
  have e : x = l := by
   refine List.ext_getElem? (fun j => ?_)
   by_cases hji : j < i
   ·exact hj j hji
   ·rw [List.getElem?_eq_none (by omega), List.getElem?_eq_none (by omega)]
  refine Ev.step (fun k => ?_) (Ev.now _)
  simp only [laws_toIntSS.l0]
  rw [if_neg (by omega), e]
 | succ f ih =>
  intro i x h hx hj
  have el : l[i]? = some (rd_L1 l (i : Int)) := by
   unfold rd_L1
   rw [Int.toNat_natCast, List.getElem?_eq_getElem (show i < l.length by omega), List.getD_eq_getElem?_getD, List.getElem?_eq_getElem (show i < l.length by omega)]
   rfl
  have hx2 : (rd_L1 l (i : Int)).length ≤ 1000000000 := hr _ (List.mem_of_getElem? el)
  refine Ev.step (f := fun k => (laws_toIntS.f k (rd_L1 l (i : Int))).bind fun t121 => (if (i : Int) < (x.length : Int) then (laws_toIntSS.l0 k l (x.set ((i : Int) : Int).toNat t121) (wrap64 ((i : Int) + 1))) else (none))) (fun k => ?_) (Ev.bind (toIntS_f _ hx2) (Ev.ite_pos (by omega) ?_))
  ·simp only [laws_toIntSS.l0]
   rw [if_pos (by omega), if_pos (by omega)]
  ·rw [w64 (by omega) (by omega), Int.toNat_natCast]
   refine ih (i + 1) _ (by omega) (by rw [List.length_set]; exact hx) (fun j hji => ?_)
   rw [List.getElem?_set]
   by_cases e : i = j
   ·subst e
    rw [if_pos rfl, if_pos (by omega), el]
   ·rw [if_neg e]
    exact hj j (by omega)
theorem toIntSS_f (l : List (List Int)) (hl : l.length ≤ 1000000000) (hr : ∀ x ∈ l, x.length ≤ 1000000000) : Ev (fun k => laws_toIntSS.f k l) l := by
 unfold laws_toIntSS.f
 refine Ev.ite_pos (by omega) (Ev.ite_pos (by omega) ?_)
 exact toIntSS_ev l hl hr l.length 0 _ (by omega) (by rw [List.length_replicate]; omega) (fun j hj => by omega)
theorem toDesk_f (a : List Int) (l : List (List Int)) (ha : a.length ≤ 1000000000) (hl : l.length ≤ 1000000000) (hr : ∀ x ∈ l, x.length ≤ 1000000000) : Ev (fun k => laws_toDesk.f k a l) (a, l) := by
 unfold laws_toDesk.f
 exact Ev.bind (toIntS_f a ha) (Ev.bind (toIntSS_f l hl hr) (Ev.now _))

/-- A list of numbers marked from a number on; a list of lists. -/
def mkI : Int → List Int → List Int
 | _, [] => []
 | n, _ :: r => n :: mkI (n + 1) r
theorem mkI_len : ∀ (r : List Int) (n : Int), (mkI n r).length = r.length
 | [], _ => rfl
 | _ :: r, n => by simp only [mkI, List.length_cons, mkI_len r (n + 1)]
theorem markI_L (L : Nat) (hl : L ≤ 1000000000) : ∀ (r : List Int) (i : Nat) (n : Int) (pre : List Int), pre.length = i → pre.length + r.length = L → 0 ≤ n → n + r.length ≤ 1000000000000 →
  Ev (fun k => laws_markIntS.l0 k (pre ++ r) n (i : Int)) (n + r.length, pre ++ mkI n r) := by
 intro r
 induction r with
 | nil =>
  intro i n pre h1 h2 h3 h4
  refine Ev.step (fun k => ?_) (Ev.now _)
  simp only [laws_markIntS.l0]
  rw [if_neg (by simp; omega)]
  simp [mkI]
 | cons x r ih =>
  intro i n pre h1 h2 h3 h4
  simp only [List.length_cons] at h2 h4
  have ih := ih (i + 1) (n + 1) (pre ++ [n]) (by simp; omega) (by simp; omega) (by omega) (by omega)
  rw [show pre ++ [n] ++ r = (pre ++ x :: r).set i n by rw [List.set_append_right _ _ (by omega)]; simp [← h1], show pre ++ [n] ++ mkI (n + 1) r = pre ++ mkI n (x :: r) by simp [mkI], show n + 1 + (r.length : Int) = n + ((x :: r).length : Int) by simp; omega] at ih
  refine Ev.step (fun k => ?_) ih
  simp only [laws_markIntS.l0, Int.toNat_natCast]
  rw [if_pos (by simp; omega), if_pos (by omega), w64 (by omega) (by omega), w64 (by omega) (by omega)]
  rfl
theorem markI (l : List Int) (hl : l.length ≤ 1000000000) {n : Int} (h0 : 0 ≤ n) (h1 : n + l.length ≤ 1000000000000) : Ev (fun k => laws_markIntS.f k l n) (n + (l.length : Int), mkI n l) := by
 unfold laws_markIntS.f
 exact markI_L l.length hl l 0 n [] rfl (by simp) h0 h1
theorem heldI_L (l0 : List Int) (hl : l0.length ≤ 1000000000) : ∀ (r : List Int) (i : Nat) (n : Int), l0.drop i = mkI n r → i + r.length = l0.length → 0 ≤ n → n + r.length ≤ 1000000000000 → Ev (fun k => laws_heldIntS.l0 k l0 n (i : Int)) (n + (r.length : Int)) := by
 intro r
 induction r with
 | nil =>
  intro i n h1 h2 h3 h4
  simp only [List.length_nil] at h2 h4 ⊢
  refine Ev.step (fun k => ?_) (Ev.now _)
  simp only [laws_heldIntS.l0]
  rw [if_neg (by omega)]
  simp
 | cons x r ih =>
  intro i n h1 h2 h3 h4
  simp only [List.length_cons] at h2 h4
  obtain ⟨g1, g2, g3⟩ := drop_at h1
  have ih := ih (i + 1) (n + 1) g3 (by omega) (by omega) (by omega)
  have hrd : rd l0 (i : Int) = n := by
   unfold rd
   rw [Int.toNat_natCast, List.getD_eq_getElem?_getD, g2]
   rfl
  rw [show n + 1 + (r.length : Int) = n + ((x :: r).length : Int) by simp; omega] at ih
  refine Ev.step (fun k => ?_) ih
  simp only [laws_heldIntS.l0, hrd]
  rw [if_pos (by omega), if_pos (by omega), if_pos trivial, w64 (by omega) (by omega), w64 (by omega) (by omega)]
  rfl
theorem heldI (l : List Int) (hl : l.length ≤ 1000000000) {n : Int} (h0 : 0 ≤ n) (h1 : n + l.length ≤ 1000000000000) : Ev (fun k => laws_heldIntS.f k (mkI n l) n) (n + (l.length : Int)) := by
 unfold laws_heldIntS.f
 exact heldI_L (mkI n l) (by rw [mkI_len]; exact hl) l 0 n rfl (by rw [mkI_len]; omega) h0 h1

def totL : List (List Int) → Nat
 | [] => 0
 | x :: r => x.length + totL r
def mkII : Int → List (List Int) → List (List Int)
 | _, [] => []
 | n, x :: r => mkI n x :: mkII (n + (x.length : Int)) r
theorem mkII_len : ∀ (r : List (List Int)) (n : Int), (mkII n r).length = r.length
 | [], _ => rfl
 | x :: r, n => by simp only [mkII, List.length_cons, mkII_len r (n + (x.length : Int))]
theorem markII_L (L : Nat) (hl : L ≤ 1000000000) : ∀ (r : List (List Int)) (i : Nat) (n : Int) (pre : List (List Int)), pre.length = i → pre.length + r.length = L → 0 ≤ n → n + totL r ≤ 1000000000 →
  Ev (fun k => laws_markIntSS.l0 k (pre ++ r) n (i : Int)) (n + (totL r : Int), pre ++ mkII n r) := by
 intro r
 induction r with
 | nil =>
  intro i n pre h1 h2 h3 h4
  refine Ev.step (fun k => ?_) (Ev.now _)
  simp only [laws_markIntSS.l0]
  rw [if_neg (by simp; omega)]
  simp [mkII, totL]
 | cons x r ih =>
  intro i n pre h1 h2 h3 h4
  simp only [List.length_cons, totL] at h2 h4
  have ih := ih (i + 1) (n + (x.length : Int)) (pre ++ [mkI n x]) (by simp; omega) (by simp; omega) (by omega) (by omega)
  rw [show pre ++ [mkI n x] ++ r = (pre ++ x :: r).set i (mkI n x) by rw [List.set_append_right _ _ (by omega)]; simp [← h1], show pre ++ [mkI n x] ++ mkII (n + (x.length : Int)) r = pre ++ mkII n (x :: r) by simp [mkII], show n + (x.length : Int) + (totL r : Int) = n + (totL (x :: r) : Int) by simp [totL]; omega] at ih
  have hg : (pre ++ x :: r).getD i [] = x := by
   rw [List.getD_eq_getElem?_getD, List.getElem?_append_right (by omega), h1, Nat.sub_self]
   rfl
  refine Ev.step (f := fun k => (laws_markIntS.f k x n).bind fun bt => laws_markIntSS.l0 k ((pre ++ x :: r).set i bt.2) bt.1 (wrap64 ((i : Int) + 1))) (fun k => ?_) (Ev.bind (markI x (by omega) h3 (by omega)) ?_)
  ·simp only [laws_markIntSS.l0, Int.toNat_natCast, hg]
   rw [if_pos (by simp; omega), if_pos (by omega)]
  ·rw [w64 (by omega) (by omega)]
   exact ih
theorem markII (l : List (List Int)) (hl : l.length ≤ 1000000000) {n : Int} (h0 : 0 ≤ n) (h1 : n + totL l ≤ 1000000000) : Ev (fun k => laws_markIntSS.f k l n) (n + (totL l : Int), mkII n l) := by
 unfold laws_markIntSS.f
 exact markII_L l.length hl l 0 n [] rfl (by simp) h0 h1
theorem heldII_L (l0 : List (List Int)) (hl : l0.length ≤ 1000000000) : ∀ (r : List (List Int)) (i : Nat) (n : Int), l0.drop i = mkII n r → i + r.length = l0.length → 0 ≤ n → n + totL r ≤ 1000000000 → Ev (fun k => laws_heldIntSS.l0 k l0 n (i : Int)) (n + (totL r : Int)) := by
 intro r
 induction r with
 | nil =>
  intro i n h1 h2 h3 h4
  simp only [List.length_nil] at h2
  refine Ev.step (fun k => ?_) (Ev.now _)
  simp only [laws_heldIntSS.l0]
  rw [if_neg (by omega)]
  simp [totL]
 | cons x r ih =>
  intro i n h1 h2 h3 h4
  simp only [List.length_cons, totL] at h2 h4
  obtain ⟨g1, g2, g3⟩ := drop_at h1
  have ih := ih (i + 1) (n + (x.length : Int)) g3 (by omega) (by omega) (by omega)
  have hrd : rd_L1 l0 (i : Int) = mkI n x := by
   unfold rd_L1
   rw [Int.toNat_natCast, List.getD_eq_getElem?_getD, g2]
   rfl
  rw [show n + (x.length : Int) + (totL r : Int) = n + (totL (x :: r) : Int) by simp [totL]; omega] at ih
  refine Ev.step (f := fun k => (laws_heldIntS.f k (mkI n x) n).bind fun t => (if t < 0 then (some (-1)) else (laws_heldIntSS.l0 k l0 t (wrap64 ((i : Int) + 1))))) (fun k => ?_) (Ev.bind (heldI x (by omega) h3 (by omega)) (Ev.ite_neg (by omega) ?_))
  ·simp only [laws_heldIntSS.l0, hrd]
   rw [if_pos (by omega), if_pos (by omega)]
  ·rw [w64 (by omega) (by omega)]
   exact ih
theorem heldII (l : List (List Int)) (hl : l.length ≤ 1000000000) {n : Int} (h0 : 0 ≤ n) (h1 : n + totL l ≤ 1000000000) : Ev (fun k => laws_heldIntSS.f k (mkII n l) n) (n + (totL l : Int)) := by
 unfold laws_heldIntSS.f
 exact heldII_L (mkII n l) (by rw [mkII_len]; exact hl) l 0 n rfl (by rw [mkII_len]; omega) h0 h1

theorem l1In_eq (a b c : Int) : spec_l1In.f a b c = some (decide (b ≤ a ∧ a ≤ c)) := by
 unfold spec_l1In.f
 by_cases h : a ≥ b
 ·rw [if_pos h]; simp [h]
 ·rw [if_neg h]; congr 1; symm; simp; intro h2; omega

theorem spec_rowL (row : List Int) (hl : row.length ≤ 1000000000) : ∀ f i, i + f = row.length → Ev (fun k => spec_RowOk.l0 k row (i : Int)) (allF (r1 row) f i && ((row.length : Int) == 24)) := by
 intro f
 induction f with
 | zero =>
  intro i h
  refine Ev.step (fun k => ?_) (Ev.now _)
  simp only [spec_RowOk.l0]
  rw [if_neg (by omega)]
  simp [allF]
 | succ f ih =>
  intro i h
  by_cases e : -1000000000 ≤ row.getD i 0 ∧ row.getD i 0 ≤ 1000000000
  ·have ih := ih (i + 1) (by omega)
   have ek : r1 row i = true := decide_eq_true e
   simp only [allF, ek, Bool.true_and]
   refine Ev.step (fun k => ?_) ih
   simp only [spec_RowOk.l0, rdn, l1In_eq, Option.bind_some]
   rw [if_pos (by omega), if_pos (by omega), decide_eq_true e, if_pos rfl, w64 (by omega) (by omega)]
   rfl
  ·have ek : r1 row i = false := decide_eq_false e
   simp only [allF, ek, Bool.false_and]
   refine Ev.step (fun k => ?_) (Ev.now _)
   simp only [spec_RowOk.l0, rdn, l1In_eq, Option.bind_some]
   rw [if_pos (by omega), if_pos (by omega), decide_eq_false e, if_neg (by simp)]
theorem spec_rowOk (row : List Int) (hl : row.length ≤ 1000000000) : Ev (fun k => spec_RowOk.f k row) (rowB row) := spec_rowL row hl row.length 0 (by omega)

def s1 (row : List Int) (i : Nat) : Bool := decide (-10000 ≤ row.getD i 0 ∧ row.getD i 0 ≤ 10000)
def smallB (row : List Int) : Bool := allF (s1 row) row.length 0 && ((row.length : Int) == 24)
theorem impl_smallL (row : List Int) (hl : row.length ≤ 1000000000) : ∀ f i, i + f = row.length → Ev (fun k => impl_within.l0 k row 10000 row (row.length : Int) (i : Int)) (allF (s1 row) f i && ((row.length : Int) == 24)) := by
 intro f
 induction f with
 | zero =>
  intro i h
  refine Ev.step (fun k => ?_) (Ev.now _)
  simp only [impl_within.l0]
  rw [if_neg (by omega)]
  simp [allF]
 | succ f ih =>
  intro i h
  have ew : wrap64 (-10000) = -10000 := by decide +kernel
  by_cases e : -10000 ≤ row.getD i 0 ∧ row.getD i 0 ≤ 10000
  ·have ih := ih (i + 1) (by omega)
   have ek : s1 row i = true := decide_eq_true e
   simp only [allF, ek, Bool.true_and]
   refine Ev.step (fun k => ?_) ih
   simp only [impl_within.l0, rdn, ew]
   rw [if_pos (by omega), if_pos (by omega), if_pos (by omega), if_neg (by omega), if_neg (by omega), w64 (by omega) (by omega)]
   rfl
  ·have ek : s1 row i = false := decide_eq_false e
   simp only [allF, ek, Bool.false_and]
   refine Ev.step (fun k => ?_) (Ev.now _)
   simp only [impl_within.l0, rdn, ew]
   rw [if_pos (by omega), if_pos (by omega), if_pos (by omega)]
   by_cases e2 : row.getD i 0 < -10000
   ·rw [if_pos e2]
   ·rw [if_neg e2, if_pos (by omega)]
theorem impl_small (row : List Int) (hl : row.length ≤ 1000000000) : Ev (fun k => impl_small.f k row) (smallB row) := by
 have h : Ev (fun k => impl_within.f k row 10000) (smallB row) := impl_smallL row hl row.length 0 (by omega)
 unfold impl_small.f
 exact Ev.bind h (Ev.now _)
theorem small_len {row : List Int} (h : smallB row = true) : row.length = 24 := by
 unfold smallB at h
 simp only [Bool.and_eq_true, beq_iff_eq] at h
 omega
theorem small_at {row : List Int} (h : smallB row = true) (i : Nat) : -10000 ≤ row.getD i 0 ∧ row.getD i 0 ≤ 10000 := by
 have hl := small_len h
 unfold smallB at h
 simp only [Bool.and_eq_true] at h
 by_cases hi : i < row.length
 ·exact of_decide_eq_true (allF_at _ _ _ h.1 i (by omega) (by omega))
 ·rw [List.getD_eq_getElem?_getD, List.getElem?_eq_none (by omega)]
  simp
theorem allF_of (p : Nat → Bool) : ∀ f i, (∀ j, i ≤ j → j < i + f → p j = true) → allF p f i = true := by
 intro f
 induction f with
 | zero => intro i _; rfl
 | succ f ih =>
  intro i h
  simp only [allF, h i (by omega) (by omega), ih (i + 1) (fun j h1 h2 => h j (by omega) (by omega)), Bool.and_self]
theorem small_row {row : List Int} (h : smallB row = true) : rowB row = true := by
 have hl := small_len h
 unfold rowB
 simp only [Bool.and_eq_true, beq_iff_eq]
 refine ⟨allF_of _ _ _ (fun j _ _ => ?_), by omega⟩
 have := small_at h j
 unfold r1
 simp only [decide_eq_true_eq]
 omega
theorem small_of {row : List Int} (hl : row.length = 24) (h : ∀ i, i < 24 → -10000 ≤ row.getD i 0 ∧ row.getD i 0 ≤ 10000) : smallB row = true := by
 unfold smallB
 simp only [Bool.and_eq_true, beq_iff_eq]
 refine ⟨allF_of _ _ _ (fun j _ hj => ?_), by omega⟩
 unfold s1
 simp only [decide_eq_true_eq]
 exact h j (by omega)

set_option maxRecDepth 100000
theorem len24 {f : List Int} (h : f.length = 24) : ∃ a1 a2 a3 a4 a5 a6 a7 a8 a9 a10 a11 a12 a13 a14 a15 a16 a17 a18 a19 a20 a21 a22 a23 a24 : Int, f = [a1, a2, a3, a4, a5, a6, a7, a8, a9, a10, a11, a12, a13, a14, a15, a16, a17, a18, a19, a20, a21, a22, a23, a24] := by
 match f, h with
 | [a1, a2, a3, a4, a5, a6, a7, a8, a9, a10, a11, a12, a13, a14, a15, a16, a17, a18, a19, a20, a21, a22, a23, a24], _ => exact ⟨a1, a2, a3, a4, a5, a6, a7, a8, a9, a10, a11, a12, a13, a14, a15, a16, a17, a18, a19, a20, a21, a22, a23, a24, rfl⟩
def DN (n : Nat) : List Nat := (List.range (n + 1)).filter (fun d => decide (1 ≤ d) && n % d == 0)
/-- For each place the pairs of places whose products are put together: over divisors, over unitary divisors. -/
def PT : List (List (Nat × Nat)) := (List.range 24).map (fun i => (DN (i + 1)).map (fun d => (d - 1, (i + 1) / d - 1)))
def PU : List (List (Nat × Nat)) := (List.range 24).map (fun i => ((DN (i + 1)).filter (fun d => Nat.gcd d ((i + 1) / d) == 1)).map (fun d => (d - 1, (i + 1) / d - 1)))
def addI (f g : List Int) (z : Int) (p : Nat × Nat) : Int := wrap64 (z + wrap64 (f.getD p.1 0 * g.getD p.2 0))
def allI (P : List (List (Nat × Nat))) (f g : List Int) : List Int := P.map (fun l => l.foldl (addI f g) 0)
theorem tsame (a1 a2 a3 a4 a5 a6 a7 a8 a9 a10 a11 a12 a13 a14 a15 a16 a17 a18 a19 a20 a21 a22 a23 a24 b1 b2 b3 b4 b5 b6 b7 b8 b9 b10 b11 b12 b13 b14 b15 b16 b17 b18 b19 b20 b21 b22 b23 b24 : Int) : spec_l2Times.f 300 [a1, a2, a3, a4, a5, a6, a7, a8, a9, a10, a11, a12, a13, a14, a15, a16, a17, a18, a19, a20, a21, a22, a23, a24] [b1, b2, b3, b4, b5, b6, b7, b8, b9, b10, b11, b12, b13, b14, b15, b16, b17, b18, b19, b20, b21, b22, b23, b24] = impl_rowBy_TimesOf.l0 100 [a1, a2, a3, a4, a5, a6, a7, a8, a9, a10, a11, a12, a13, a14, a15, a16, a17, a18, a19, a20, a21, a22, a23, a24] [b1, b2, b3, b4, b5, b6, b7, b8, b9, b10, b11, b12, b13, b14, b15, b16, b17, b18, b19, b20, b21, b22, b23, b24] (List.replicate (24 : Int).toNat 0) 0 := by kernel_rfl
theorem tform (a1 a2 a3 a4 a5 a6 a7 a8 a9 a10 a11 a12 a13 a14 a15 a16 a17 a18 a19 a20 a21 a22 a23 a24 b1 b2 b3 b4 b5 b6 b7 b8 b9 b10 b11 b12 b13 b14 b15 b16 b17 b18 b19 b20 b21 b22 b23 b24 : Int) : spec_l2Times.f 300 [a1, a2, a3, a4, a5, a6, a7, a8, a9, a10, a11, a12, a13, a14, a15, a16, a17, a18, a19, a20, a21, a22, a23, a24] [b1, b2, b3, b4, b5, b6, b7, b8, b9, b10, b11, b12, b13, b14, b15, b16, b17, b18, b19, b20, b21, b22, b23, b24] = some (allI PT [a1, a2, a3, a4, a5, a6, a7, a8, a9, a10, a11, a12, a13, a14, a15, a16, a17, a18, a19, a20, a21, a22, a23, a24] [b1, b2, b3, b4, b5, b6, b7, b8, b9, b10, b11, b12, b13, b14, b15, b16, b17, b18, b19, b20, b21, b22, b23, b24]) := by kernel_rfl
theorem times_row {f g : List Int} (hf : f.length = 24) (hg : g.length = 24) : Ev (fun k => spec_l2Times.f k f g) (allI PT f g) ∧ Ev (fun k => impl_rowBy_TimesOf.l0 k f g (List.replicate (24 : Int).toNat 0) 0) (allI PT f g) := by
 have h1 : spec_l2Times.f 300 f g = some (allI PT f g) := by
  obtain ⟨a1, a2, a3, a4, a5, a6, a7, a8, a9, a10, a11, a12, a13, a14, a15, a16, a17, a18, a19, a20, a21, a22, a23, a24, rfl⟩ := len24 hf
  obtain ⟨b1, b2, b3, b4, b5, b6, b7, b8, b9, b10, b11, b12, b13, b14, b15, b16, b17, b18, b19, b20, b21, b22, b23, b24, rfl⟩ := len24 hg
  exact tform ..
 have h2 : spec_l2Times.f 300 f g = impl_rowBy_TimesOf.l0 100 f g (List.replicate (24 : Int).toNat 0) 0 := by
  obtain ⟨a1, a2, a3, a4, a5, a6, a7, a8, a9, a10, a11, a12, a13, a14, a15, a16, a17, a18, a19, a20, a21, a22, a23, a24, rfl⟩ := len24 hf
  obtain ⟨b1, b2, b3, b4, b5, b6, b7, b8, b9, b10, b11, b12, b13, b14, b15, b16, b17, b18, b19, b20, b21, b22, b23, b24, rfl⟩ := len24 hg
  exact tsame ..
 exact ⟨Ev.of (spec_l2Times.mono _ _) h1, Ev.of (fun k => impl_rowBy_TimesOf.mono_l k _ _ _ _) (h2 ▸ h1)⟩
theorem usame (a1 a2 a3 a4 a5 a6 a7 a8 a9 a10 a11 a12 a13 a14 a15 a16 a17 a18 a19 a20 a21 a22 a23 a24 b1 b2 b3 b4 b5 b6 b7 b8 b9 b10 b11 b12 b13 b14 b15 b16 b17 b18 b19 b20 b21 b22 b23 b24 : Int) : spec_UnitaryTimes.l0 2000 [a1, a2, a3, a4, a5, a6, a7, a8, a9, a10, a11, a12, a13, a14, a15, a16, a17, a18, a19, a20, a21, a22, a23, a24] [b1, b2, b3, b4, b5, b6, b7, b8, b9, b10, b11, b12, b13, b14, b15, b16, b17, b18, b19, b20, b21, b22, b23, b24] true [] 1 = (impl_rowBy_UnitaryTimes.l0 200 [a1, a2, a3, a4, a5, a6, a7, a8, a9, a10, a11, a12, a13, a14, a15, a16, a17, a18, a19, a20, a21, a22, a23, a24] [b1, b2, b3, b4, b5, b6, b7, b8, b9, b10, b11, b12, b13, b14, b15, b16, b17, b18, b19, b20, b21, b22, b23, b24] (List.replicate (24 : Int).toNat 0) 0).bind fun t => some (t, true) := by kernel_rfl
theorem uform (a1 a2 a3 a4 a5 a6 a7 a8 a9 a10 a11 a12 a13 a14 a15 a16 a17 a18 a19 a20 a21 a22 a23 a24 b1 b2 b3 b4 b5 b6 b7 b8 b9 b10 b11 b12 b13 b14 b15 b16 b17 b18 b19 b20 b21 b22 b23 b24 : Int) : impl_rowBy_UnitaryTimes.l0 200 [a1, a2, a3, a4, a5, a6, a7, a8, a9, a10, a11, a12, a13, a14, a15, a16, a17, a18, a19, a20, a21, a22, a23, a24] [b1, b2, b3, b4, b5, b6, b7, b8, b9, b10, b11, b12, b13, b14, b15, b16, b17, b18, b19, b20, b21, b22, b23, b24] (List.replicate (24 : Int).toNat 0) 0 = some (allI PU [a1, a2, a3, a4, a5, a6, a7, a8, a9, a10, a11, a12, a13, a14, a15, a16, a17, a18, a19, a20, a21, a22, a23, a24] [b1, b2, b3, b4, b5, b6, b7, b8, b9, b10, b11, b12, b13, b14, b15, b16, b17, b18, b19, b20, b21, b22, b23, b24]) := by kernel_rfl
theorem unitary_row {f g : List Int} (hf : f.length = 24) (hg : g.length = 24) : Ev (fun k => spec_UnitaryTimes.l0 k f g true [] 1) (allI PU f g, true) ∧ Ev (fun k => impl_rowBy_UnitaryTimes.l0 k f g (List.replicate (24 : Int).toNat 0) 0) (allI PU f g) := by
 have h1 : impl_rowBy_UnitaryTimes.l0 200 f g (List.replicate (24 : Int).toNat 0) 0 = some (allI PU f g) := by
  obtain ⟨a1, a2, a3, a4, a5, a6, a7, a8, a9, a10, a11, a12, a13, a14, a15, a16, a17, a18, a19, a20, a21, a22, a23, a24, rfl⟩ := len24 hf
  obtain ⟨b1, b2, b3, b4, b5, b6, b7, b8, b9, b10, b11, b12, b13, b14, b15, b16, b17, b18, b19, b20, b21, b22, b23, b24, rfl⟩ := len24 hg
  exact uform ..
 have h2 : spec_UnitaryTimes.l0 2000 f g true [] 1 = (impl_rowBy_UnitaryTimes.l0 200 f g (List.replicate (24 : Int).toNat 0) 0).bind fun t => some (t, true) := by
  obtain ⟨a1, a2, a3, a4, a5, a6, a7, a8, a9, a10, a11, a12, a13, a14, a15, a16, a17, a18, a19, a20, a21, a22, a23, a24, rfl⟩ := len24 hf
  obtain ⟨b1, b2, b3, b4, b5, b6, b7, b8, b9, b10, b11, b12, b13, b14, b15, b16, b17, b18, b19, b20, b21, b22, b23, b24, rfl⟩ := len24 hg
  exact usame ..
 rw [h1] at h2
 exact ⟨Ev.of (fun k => (spec_UnitaryTimes.mono_l k).1 _ _ _ _ _) h2, Ev.of (fun k => impl_rowBy_UnitaryTimes.mono_l k _ _ _ _) h1⟩
def SmallR (f : List Int) : Prop := ∀ i, -10000 ≤ f.getD i 0 ∧ f.getD i 0 ≤ 10000
theorem mul_small {x y : Int} (h1 : -10000 ≤ x) (h2 : x ≤ 10000) (h3 : -10000 ≤ y) (h4 : y ≤ 10000) : -100000000 ≤ x * y ∧ x * y ≤ 100000000 := by
 have a1 : 0 ≤ (10000 - x) * (10000 - y) := Int.mul_nonneg (by omega) (by omega)
 have a2 : 0 ≤ (10000 + x) * (10000 + y) := Int.mul_nonneg (by omega) (by omega)
 have a3 : 0 ≤ (10000 - x) * (10000 + y) := Int.mul_nonneg (by omega) (by omega)
 have a4 : 0 ≤ (10000 + x) * (10000 - y) := Int.mul_nonneg (by omega) (by omega)
 have e1 : (10000 - x) * (10000 - y) = 100000000 - 10000 * y - 10000 * x + x * y := by
  rw [Int.sub_mul, Int.mul_sub, Int.mul_sub]; omega
 have e2 : (10000 + x) * (10000 + y) = 100000000 + 10000 * y + 10000 * x + x * y := by
  rw [Int.add_mul, Int.mul_add, Int.mul_add]; omega
 have e3 : (10000 - x) * (10000 + y) = 100000000 + 10000 * y - 10000 * x - x * y := by
  rw [Int.sub_mul, Int.mul_add, Int.mul_add]; omega
 have e4 : (10000 + x) * (10000 - y) = 100000000 - 10000 * y + 10000 * x - x * y := by
  rw [Int.add_mul, Int.mul_sub, Int.mul_sub]; omega
 omega
/-- Sums of products of small numbers do not wrap. -/
theorem addI_sum {f g : List Int} (hf : SmallR f) (hg : SmallR g) : ∀ (l : List (Nat × Nat)) (z : Int), -1000000000 ≤ z → z ≤ 1000000000 → l.length ≤ 100 → l.foldl (addI f g) z = z + (l.map (fun p => f.getD p.1 0 * g.getD p.2 0)).sum ∧ z - 100000000 * l.length ≤ l.foldl (addI f g) z ∧ l.foldl (addI f g) z ≤ z + 100000000 * l.length := by
 suffices H : ∀ (l : List (Nat × Nat)) (z : Int), -100000000000 + 100000000 * l.length ≤ z → z ≤ 100000000000 - 100000000 * l.length → l.foldl (addI f g) z = z + (l.map (fun p => f.getD p.1 0 * g.getD p.2 0)).sum ∧ z - 100000000 * l.length ≤ l.foldl (addI f g) z ∧ l.foldl (addI f g) z ≤ z + 100000000 * l.length from fun l z h1 h2 h3 => H l z (by omega) (by omega)
 intro l
 induction l with
 | nil => intro z h1 h2; simp
 | cons p l ih =>
  intro z h1 h2
  rw [List.length_cons] at h1 h2
  obtain ⟨m1, m2⟩ := mul_small (hf p.1).1 (hf p.1).2 (hg p.2).1 (hg p.2).2
  have ea : addI f g z p = z + f.getD p.1 0 * g.getD p.2 0 := by
   unfold addI
   rw [w64 (n := f.getD p.1 0 * g.getD p.2 0) (by omega) (by omega)]
   generalize f.getD p.1 0 * g.getD p.2 0 = q at *
   exact w64 (by omega) (by omega)
  obtain ⟨i1, i2, i3⟩ := ih (z + f.getD p.1 0 * g.getD p.2 0) (by omega) (by omega)
  rw [List.foldl_cons, ea, List.map_cons, List.sum_cons, List.length_cons]
  generalize (l.map (fun p => f.getD p.1 0 * g.getD p.2 0)).sum = s at *
  generalize f.getD p.1 0 * g.getD p.2 0 = q at *
  generalize l.foldl (addI f g) (z + q) = y at *
  refine ⟨by omega, by omega, by omega⟩
theorem allI_len (P : List (List (Nat × Nat))) (f g : List Int) : (allI P f g).length = P.length := List.length_map ..
theorem allI_at {f g : List Int} (hf : SmallR f) (hg : SmallR g) (P : List (List (Nat × Nat))) (hP : ∀ l ∈ P, l.length ≤ 8) (i : Nat) : -800000000 ≤ (allI P f g).getD i 0 ∧ (allI P f g).getD i 0 ≤ 800000000 := by
 unfold allI
 rw [List.getD_eq_getElem?_getD, List.getElem?_map]
 cases h : P[i]? with
 | none => simp
 | some l =>
  have h8 := hP l (List.mem_of_getElem? h)
  obtain ⟨_, h2, h3⟩ := addI_sum hf hg l 0 (by omega) (by omega) (by omega)
  simp only [Option.map_some, Option.getD_some]
  omega
theorem PT_8 : ∀ l ∈ PT, l.length ≤ 8 := by
 have h : PT.all (fun l => decide (l.length ≤ 8)) = true := by decide +kernel
 exact fun l hl => of_decide_eq_true (List.all_eq_true.1 h l hl)
theorem PU_8 : ∀ l ∈ PU, l.length ≤ 8 := by
 have h : PU.all (fun l => decide (l.length ≤ 8)) = true := by decide +kernel
 exact fun l hl => of_decide_eq_true (List.all_eq_true.1 h l hl)
theorem allI_plain {f g : List Int} (hf : SmallR f) (hg : SmallR g) : allI PT f g = PT.map (fun l => (l.map (fun p => f.getD p.1 0 * g.getD p.2 0)).sum) := by
 unfold allI
 refine List.map_congr_left (fun l hl => ?_)
 have := (addI_sum hf hg l 0 (by omega) (by omega) (by have := PT_8 l hl; omega)).1
 omega

theorem sp_tl (f g : List Int) (hf : f.length = 24) (hg : g.length = 24) {t : List Int} (ht : Ev (fun k => spec_l2Times.f k f g) t) : ∀ n i : Nat, i + n = 24 → Ev (fun k => spec_TimesOf.l0 k f g (i : Int)) (cond (allF (fun i => s1 f i && s1 g i) n i) (t, true) ([], false)) := by
 intro n
 induction n with
 | zero =>
  intro i h
  refine Ev.up ?_
  simp only [spec_TimesOf.l0, allF]
  exact Ev.ite_neg (by omega) (Ev.bind ht (Ev.now _))
 | succ n ih =>
  intro i h
  have ih := ih (i + 1) (by omega)
  have e3 : wrap64 ((i : Int) + 1) = ((i + 1 : Nat) : Int) := w64 (by omega) (by omega)
  simp only [allF]
  by_cases c1 : -10000 ≤ f.getD i 0 ∧ f.getD i 0 ≤ 10000
  ·by_cases c2 : -10000 ≤ g.getD i 0 ∧ g.getD i 0 ≤ 10000
   ·rw [show s1 f i = true from decide_eq_true c1, show s1 g i = true from decide_eq_true c2]
    simp only [Bool.true_and]
    refine Ev.up ?_
    simp only [spec_TimesOf.l0, l1In_eq, rdn, e3]
    clear e3
    exact Ev.ite_pos (by omega) (Ev.ite_pos (by omega) (Ev.ite_pos (by omega) (Ev.bindc rfl (Ev.ite_pos (decide_eq_true c1) (Ev.ite_pos (by omega) (Ev.bindc rfl (Ev.ite_pos (decide_eq_true c2) ih)))))))
   ·rw [show s1 g i = false from decide_eq_false c2]
    simp only [Bool.and_false, Bool.false_and, cond_false]
    refine Ev.up ?_
    simp only [spec_TimesOf.l0, l1In_eq, rdn, e3]
    clear e3
    exact Ev.ite_pos (by omega) (Ev.ite_pos (by omega) (Ev.ite_pos (by omega) (Ev.bindc rfl (Ev.ite_pos (decide_eq_true c1) (Ev.ite_pos (by omega) (Ev.bindc rfl (Ev.ite_neg (fun h => c2 (of_decide_eq_true h)) (Ev.now _))))))))
  ·rw [show s1 f i = false from decide_eq_false c1]
   simp only [Bool.false_and, cond_false]
   refine Ev.up ?_
   simp only [spec_TimesOf.l0, l1In_eq, rdn, e3]
   clear e3
   exact Ev.ite_pos (by omega) (Ev.ite_pos (by omega) (Ev.ite_pos (by omega) (Ev.bindc rfl (Ev.ite_neg (fun h => c1 (of_decide_eq_true h)) (Ev.now _)))))
theorem small_and {f g : List Int} (hf : f.length = 24) (hg : g.length = 24) : allF (fun i => s1 f i && s1 g i) 24 0 = (smallB f && smallB g) := by
 rw [allF_and]
 unfold smallB
 rw [hf, hg]
 simp
/-- The product, where both rows are small. -/
theorem times_both (f g : List Int) (hf : f.length ≤ 1000000) (hg : g.length ≤ 1000000) :
  (smallB f = true ∧ smallB g = true ∧ Ev (fun k => spec_TimesOf.f k f g) (allI PT f g, true) ∧ Ev (fun k => impl_TimesOf.f k f g) (allI PT f g, true)) ∨
  ((smallB f && smallB g) = false ∧ Ev (fun k => spec_TimesOf.f k f g) ([], false) ∧ Ev (fun k => impl_TimesOf.f k f g) ([], false)) := by
 have ef := impl_small f (by omega)
 have eg := impl_small g (by omega)
 have rf := spec_rowOk f (by omega)
 have rg := spec_rowOk g (by omega)
 have j1 : Ev (fun k => spec_TimesOf.j0 k f g true) ([], false) := by
  refine Ev.up ?_
  simp only [spec_TimesOf.j0]
  exact Ev.ite_pos trivial (Ev.now _)
 cases sf : smallB f with
 | true =>
  have lf := small_len sf
  rw [sf] at ef
  rw [small_row sf] at rf
  cases sg : smallB g with
  | true =>
   have lg := small_len sg
   rw [sg] at eg
   rw [small_row sg] at rg
   obtain ⟨h1, h3⟩ := times_row lf lg
   refine .inl ⟨rfl, rfl, ?_, ?_⟩
   ·unfold spec_TimesOf.f
    have h := sp_tl f g lf lg h1 24 0 (by omega)
    rw [small_and lf lg, sf, sg] at h
    refine Ev.bind rf (Ev.ite_pos rfl (Ev.bind rg (Ev.up ?_)))
    simp only [spec_TimesOf.j0]
    exact Ev.ite_neg (by simp) h
   ·unfold impl_TimesOf.f
    exact Ev.bind ef (Ev.ite_pos rfl (Ev.bind eg (Ev.ite_pos rfl (Ev.bind h3 (Ev.now _)))))
  | false =>
   rw [sg] at eg
   refine .inr ⟨rfl, ?_, ?_⟩
   ·unfold spec_TimesOf.f
    cases hg2 : rowB g with
    | false =>
     rw [hg2] at rg
     exact Ev.bind rf (Ev.ite_pos rfl (Ev.bind rg j1))
    | true =>
     rw [hg2] at rg
     have lg := rowB_len hg2
     obtain ⟨h1, h3⟩ := times_row lf lg
     have h := sp_tl f g lf lg h1 24 0 (by omega)
     rw [small_and lf lg, sf, sg] at h
     refine Ev.bind rf (Ev.ite_pos rfl (Ev.bind rg (Ev.up ?_)))
     simp only [spec_TimesOf.j0]
     exact Ev.ite_neg (by simp) h
   ·unfold impl_TimesOf.f
    exact Ev.bind ef (Ev.ite_pos rfl (Ev.bind eg (Ev.ite_neg (by simp) (Ev.now _))))
 | false =>
  rw [sf] at ef
  refine .inr ⟨rfl, ?_, ?_⟩
  ·unfold spec_TimesOf.f
   cases hf2 : rowB f with
   | false =>
    rw [hf2] at rf
    exact Ev.bind rf (Ev.ite_neg (by simp) j1)
   | true =>
    rw [hf2] at rf
    cases hg2 : rowB g with
    | false =>
     rw [hg2] at rg
     exact Ev.bind rf (Ev.ite_pos rfl (Ev.bind rg j1))
    | true =>
     rw [hg2] at rg
     have lf := rowB_len hf2
     have lg := rowB_len hg2
     obtain ⟨h1, h3⟩ := times_row lf lg
     have h := sp_tl f g lf lg h1 24 0 (by omega)
     rw [small_and lf lg, sf] at h
     refine Ev.bind rf (Ev.ite_pos rfl (Ev.bind rg (Ev.up ?_)))
     simp only [spec_TimesOf.j0]
     exact Ev.ite_neg (by simp) h
  ·unfold impl_TimesOf.f
   exact Ev.bind ef (Ev.ite_neg (by simp) (Ev.now _))
theorem unitary_both (f g : List Int) (hf : f.length ≤ 1000000) (hg : g.length ≤ 1000000) :
  (smallB f = true ∧ smallB g = true ∧ Ev (fun k => spec_UnitaryTimes.f k f g) (allI PU f g, true) ∧ Ev (fun k => impl_UnitaryTimes.f k f g) (allI PU f g, true)) ∨
  ((smallB f && smallB g) = false ∧ Ev (fun k => spec_UnitaryTimes.f k f g) ([], false) ∧ Ev (fun k => impl_UnitaryTimes.f k f g) ([], false)) := by
 have ef := impl_small f (by omega)
 have eg := impl_small g (by omega)
 rcases times_both f g hf hg with ⟨sf, sg, h1, _⟩ | ⟨s, h1, _⟩
 ·obtain ⟨u1, u2⟩ := unitary_row (small_len sf) (small_len sg)
  rw [sf] at ef
  rw [sg] at eg
  refine .inl ⟨sf, sg, ?_, ?_⟩
  ·unfold spec_UnitaryTimes.f
   exact Ev.bind h1 u1
  ·unfold impl_UnitaryTimes.f
   exact Ev.bind ef (Ev.ite_pos rfl (Ev.bind eg (Ev.ite_pos rfl (Ev.bind u2 (Ev.now _)))))
 ·refine .inr ⟨s, ?_, ?_⟩
  ·unfold spec_UnitaryTimes.f
   refine Ev.bind h1 (Ev.up ?_)
   simp only [spec_UnitaryTimes.l0]
   refine Ev.ite_pos (by decide) (Ev.up ?_)
   simp only [spec_UnitaryTimes.j1]
   exact Ev.ite_neg (by simp) (Ev.now _)
  ·unfold impl_UnitaryTimes.f
   cases sf : smallB f with
   | false =>
    rw [sf] at ef
    exact Ev.bind ef (Ev.ite_neg (by simp) (Ev.now _))
   | true =>
    rw [sf] at ef s
    rw [Bool.true_and] at s
    rw [s] at eg
    exact Ev.bind ef (Ev.ite_pos rfl (Ev.bind eg (Ev.ite_neg (by simp) (Ev.now _))))

def row0 : List Int := [1, 0, 0, 0, 0, 0, 0, 0, 0, 0, 0, 0, 0, 0, 0, 0, 0, 0, 0, 0, 0, 0, 0, 0]
theorem namedB_all : (List.range 8).all (fun n => match spec_NamedRow.f 200 (n : Int), impl_NamedRow.f 300 (n : Int) with | some r, some q => r.length == 24 && r == q | _, _ => false) = true := by decide +kernel
def ones : List Int := [1, 1, 1, 1, 1, 1, 1, 1, 1, 1, 1, 1, 1, 1, 1, 1, 1, 1, 1, 1, 1, 1, 1, 1]
theorem named1 : impl_NamedRow.f 300 1 = some ones := by decide +kernel
theorem named0 : spec_NamedRow.f 200 0 = some row0 := by decide +kernel
/-- The row with a name, both ways. -/
theorem named_both (t : Int) : ∃ r, (r.length = 24 ∨ r = []) ∧ (t = 0 → r = row0) ∧ (t = 1 → r = ones) ∧ Ev (fun k => spec_NamedRow.f k t) r ∧ Ev (fun k => impl_NamedRow.f k t) r := by
 by_cases h : 0 ≤ t ∧ t ≤ 7
 ·have h1 := List.all_eq_true.1 namedB_all t.toNat (List.mem_range.2 (by omega))
  rw [Int.toNat_of_nonneg h.1] at h1
  split at h1
  ·rename_i r q hr hq
   simp only [Bool.and_eq_true, beq_iff_eq] at h1
   obtain ⟨h2, rfl⟩ := h1
   refine ⟨r, .inl h2, fun h0 => ?_, fun h0 => ?_, Ev.of (spec_NamedRow.mono t) hr, Ev.of (impl_NamedRow.mono t) hq⟩
   ·subst h0
    exact Option.some.inj (hr.symm.trans named0)
   ·subst h0
    exact Option.some.inj (hq.symm.trans named1)
  ·cases h1
 ·refine ⟨[], .inr rfl, fun h0 => by omega, fun h0 => by omega, ?_, ?_⟩
  ·unfold spec_NamedRow.f
   refine Ev.up ?_
   simp only [spec_NamedRow.l0, l1In_eq, decide_eq_false h]
   exact Ev.ite_pos (by decide) (Ev.bindc rfl (Ev.ite_neg (by simp) (Ev.now _)))
  ·unfold impl_NamedRow.f
   by_cases h0 : t < 0
   ·exact Ev.ite_pos h0 (Ev.now _)
   ·exact Ev.ite_neg h0 (Ev.ite_pos (by omega) (Ev.now _))

theorem impl_rowL (row : List Int) (hl : row.length ≤ 1000000000) : ∀ f i, i + f = row.length → Ev (fun k => impl_within.l0 k row 1000000000 row (row.length : Int) (i : Int)) (allF (r1 row) f i && ((row.length : Int) == 24)) := by
 intro f
 induction f with
 | zero =>
  intro i h
  refine Ev.step (fun k => ?_) (Ev.now _)
  simp only [impl_within.l0]
  rw [if_neg (by omega)]
  simp [allF]
 | succ f ih =>
  intro i h
  have ew : wrap64 (-1000000000) = -1000000000 := by decide +kernel
  by_cases e : -1000000000 ≤ row.getD i 0 ∧ row.getD i 0 ≤ 1000000000
  ·have ih := ih (i + 1) (by omega)
   have ek : r1 row i = true := decide_eq_true e
   simp only [allF, ek, Bool.true_and]
   refine Ev.step (fun k => ?_) ih
   simp only [impl_within.l0, rdn, ew]
   rw [if_pos (by omega), if_pos (by omega), if_pos (by omega), if_neg (by omega), if_neg (by omega), w64 (by omega) (by omega)]
   rfl
  ·have ek : r1 row i = false := decide_eq_false e
   simp only [allF, ek, Bool.false_and]
   refine Ev.step (fun k => ?_) (Ev.now _)
   simp only [impl_within.l0, rdn, ew]
   rw [if_pos (by omega), if_pos (by omega), if_pos (by omega)]
   by_cases e2 : row.getD i 0 < -1000000000
   ·rw [if_pos e2]
   ·rw [if_neg e2, if_pos (by omega)]
theorem impl_rowOk (row : List Int) (hl : row.length ≤ 1000000000) : Ev (fun k => impl_RowOk.f k row) (rowB row) := by
 have h : Ev (fun k => impl_within.f k row 1000000000) (rowB row) := impl_rowL row hl row.length 0 (by omega)
 unfold impl_RowOk.f
 exact Ev.bind h (Ev.now _)

def subI (g x : List Int) (z : Int) (p : Nat × Nat) : Int := wrap64 (z - wrap64 (g.getD p.1 0 * x.getD p.2 0))
theorem subI_comm (g x : List Int) (z : Int) (p q : Nat × Nat) : subI g x (subI g x z p) q = subI g x (subI g x z q) p := by
 unfold subI
 generalize wrap64 (g.getD p.1 0 * x.getD p.2 0) = a
 generalize wrap64 (g.getD q.1 0 * x.getD q.2 0) = b
 unfold wrap64
 omega
theorem subI_out (g x : List Int) : ∀ (l : List (Nat × Nat)) (z : Int) (p : Nat × Nat), subI g x (l.foldl (subI g x) z) p = l.foldl (subI g x) (subI g x z p)
 | [], _, _ => rfl
 | q :: l, z, p => by
  rw [List.foldl_cons, List.foldl_cons, subI_out g x l _ p, subI_comm]
theorem subI_rev (g x : List Int) : ∀ (l : List (Nat × Nat)) (z : Int), l.reverse.foldl (subI g x) z = l.foldl (subI g x) z
 | [], _ => rfl
 | q :: l, z => by
  rw [List.reverse_cons, List.foldl_append, subI_rev g x l z, List.foldl_cons, List.foldl_nil, List.foldl_cons, subI_out]
/-- Divisors of n, from d on (m of them looked at). -/
def ps (n : Nat) : Nat → Nat → List (Nat × Nat)
 | 0, _ => []
 | m + 1, d => if n % d = 0 then (d - 1, n / d - 1) :: ps n m (d + 1) else ps n m (d + 1)
def pin (n : Nat) (s : List Nat) : List (Nat × Nat) := (s.filter (fun d => decide (d < n))).map (fun d => (n / d - 1, d - 1))
def nzs (t : List Nat) : List Int := t.map (fun d : Nat => (d : Int))
theorem nzs_len (t : List Nat) : (nzs t).length = t.length := List.length_map ..
theorem dn_all : (List.range 24).all (fun i => (pin (i + 1) (DN (i + 1)) == (ps (i + 1) i 2).reverse) && (impl_divisors.f 100 ((i + 1 : Nat) : Int) == some (nzs (DN (i + 1))))) = true := by decide +kernel
theorem sp_l1 (f g x : List Int) (hg : g.length = 24) (hx : x.length = 24) (n : Nat) (h2 : n ≤ 24) : ∀ m d : Nat, 1 ≤ d → d + m = n + 1 → ∀ (z : Int) (r : List Int), Ev (fun k => spec_l3Divided.l1 k f g x (n : Int) ((ps n m d).foldl (subI g x) z) ((n + 1 : Nat) : Int)) r → Ev (fun k => spec_l3Divided.l1 k f g x (n : Int) z (d : Int)) r := by
 intro m
 induction m with
 | zero =>
  intro d hd h z r he
  have e : d = n + 1 := by omega
  subst e
  exact he
 | succ m ih =>
  intro d hd h z r he
  have e1 : wrap64 ((d : Int) + 1) = ((d + 1 : Nat) : Int) := w64 (by omega) (by omega)
  refine Ev.up ?_
  by_cases hr0 : n % d = 0
  ·simp only [ps, if_pos hr0, List.foldl_cons] at he
   obtain ⟨q, hq⟩ : ∃ q : Nat, q = n / d := ⟨_, rfl⟩
   have hq1 : 1 ≤ q := by rw [hq]; exact (Nat.le_div_iff_mul_le (by omega)).2 (by omega)
   have hq2 : q ≤ n := by rw [hq]; exact Nat.div_le_self _ _
   have es : wrap64 ((d : Int) - 1) = ((d - 1 : Nat) : Int) ∧ wrap64 (q : Int) = (q : Int) ∧ wrap64 ((q : Int) - 1) = ((q - 1 : Nat) : Int) := ⟨by rw [w64 (by omega) (by omega)]; omega, w64 (by omega) (by omega), by rw [w64 (by omega) (by omega)]; omega⟩
   have ed : Int.tdiv (n : Int) (d : Int) = (q : Int) := by rw [hq]; exact tdiv_nat n d
   have em : Int.tmod (n : Int) (d : Int) = 0 := by rw [tmod_nat, hr0]; rfl
   rw [← hq] at he
   have h3 := ih (d + 1) (by omega) (by omega) _ r he
   simp only [spec_l3Divided.l1, ed, em, es.1, es.2.1, es.2.2, e1, rdn]
   clear es ed em hq hr0 e1 he
   exact Ev.ite_pos (by omega) (Ev.ite_neg (by omega) (Ev.ite_pos trivial (Ev.ite_pos (by omega) (Ev.ite_pos (by omega) (Ev.ite_pos (by omega) (Ev.ite_pos (by omega) h3))))))
  ·simp only [ps, if_neg hr0] at he
   have em : ¬ Int.tmod (n : Int) (d : Int) = 0 := by rw [tmod_nat]; exact fun h => hr0 (by exact_mod_cast h)
   have h3 := ih (d + 1) (by omega) (by omega) z r he
   simp only [spec_l3Divided.l1, e1]
   clear e1 hr0 he
   exact Ev.ite_pos (by omega) (Ev.ite_neg (by omega) (Ev.ite_neg em h3))
theorem im_l1 (f g x : List Int) (hg : g.length = 24) (hx : x.length = 24) (n : Nat) (h2 : n ≤ 24) (t : List Nat) (ht : ∀ d ∈ t, 1 ≤ d ∧ d ≤ n) (hl : t.length ≤ 100) : ∀ (s : List Nat) (i : Nat), t.drop i = s → ∀ (z : Int) (r : List Int × Bool), Ev (fun k => impl_DividedOf.l1 k f g x (n : Int) ((pin n s).foldl (subI g x) z) (nzs t) ((nzs t).length : Int) (t.length : Int)) r → Ev (fun k => impl_DividedOf.l1 k f g x (n : Int) z (nzs t) ((nzs t).length : Int) (i : Int)) r := by
 intro s
 induction s with
 | nil =>
  intro i hs z r he
  have hi : t.length ≤ i := by have := congrArg List.length hs; rw [List.length_drop, List.length_nil] at this; omega
  refine Ev.up ?_
  obtain ⟨K, he⟩ := he
  refine ⟨K, fun k hk => ?_⟩
  have h1 := he (k + 1) (by omega)
  simp only [impl_DividedOf.l1, nzs_len, pin, List.filter_nil, List.map_nil, List.foldl_nil] at h1 ⊢
  rw [if_neg (by omega)] at h1
  rw [if_neg (by omega)]
  exact h1
 | cons d s ih =>
  intro i hs z r he
  obtain ⟨hi, hid, hs2⟩ := drop_at hs
  obtain ⟨d1, d2⟩ := ht d (List.mem_of_getElem? hid)
  have e1 : wrap64 ((i : Int) + 1) = ((i + 1 : Nat) : Int) := w64 (by omega) (by omega)
  have er : rd (nzs t) (i : Int) = (d : Int) := by
   unfold nzs
   rw [rdn, List.getD_eq_getElem?_getD, List.getElem?_map, hid]
   rfl
  refine Ev.up ?_
  by_cases hd : d < n
  ·have hp : pin n (d :: s) = (n / d - 1, d - 1) :: pin n s := by
    unfold pin
    rw [List.filter_cons_of_pos (by simpa using hd), List.map_cons]
   rw [hp, List.foldl_cons] at he
   obtain ⟨q, hq⟩ : ∃ q : Nat, q = n / d := ⟨_, rfl⟩
   have hq1 : 1 ≤ q := by rw [hq]; exact (Nat.le_div_iff_mul_le (by omega)).2 (by omega)
   have hq2 : q ≤ n := by rw [hq]; exact Nat.div_le_self _ _
   have es : wrap64 ((d : Int) - 1) = ((d - 1 : Nat) : Int) ∧ wrap64 (q : Int) = (q : Int) ∧ wrap64 ((q : Int) - 1) = ((q - 1 : Nat) : Int) := ⟨by rw [w64 (by omega) (by omega)]; omega, w64 (by omega) (by omega), by rw [w64 (by omega) (by omega)]; omega⟩
   have ed : Int.tdiv (n : Int) (d : Int) = (q : Int) := by rw [hq]; exact tdiv_nat n d
   rw [← hq] at he
   have h3 := ih (i + 1) hs2 _ r he
   unfold subI at h3
   simp only [] at h3
   rw [Int.mul_comm (g.getD (q - 1) 0)] at h3
   simp only [impl_DividedOf.l1, er, ed, es.1, es.2.1, es.2.2, e1]
   simp only [rdn]
   clear es ed hq e1 er he hp
   exact Ev.ite_pos (by rw [nzs_len]; omega) (Ev.ite_pos (by omega) (Ev.ite_pos (by rw [nzs_len]; omega) (Ev.ite_pos (by omega) (Ev.ite_pos (by omega) (Ev.ite_pos (by omega) (Ev.ite_neg (by omega) (Ev.ite_pos (by omega) (Ev.ite_pos (by omega) h3))))))))
  ·have hp : pin n (d :: s) = pin n s := by
    unfold pin
    rw [List.filter_cons_of_neg (by simpa using hd)]
   rw [hp] at he
   have h3 := ih (i + 1) hs2 z r he
   simp only [impl_DividedOf.l1, er, e1]
   clear e1 er he hp
   exact Ev.ite_pos (by rw [nzs_len]; omega) (Ev.ite_pos (by omega) (Ev.ite_pos (by rw [nzs_len]; omega) (Ev.ite_neg (by omega) h3)))
theorem rowB_set {x y : List Int} {n : Nat} {v : Int} (h : rowB x = true) (hy : y = x.set (n - 1) v) (hz : -1000000000 ≤ rd y ((n - 1 : Nat) : Int) ∧ rd y ((n - 1 : Nat) : Int) ≤ 1000000000) : rowB y = true := by
 have hl := rowB_len h
 have hyl : y.length = 24 := by rw [hy, List.length_set]; exact hl
 unfold rowB at h ⊢
 simp only [Bool.and_eq_true, beq_iff_eq] at h ⊢
 refine ⟨allF_of _ _ _ (fun j _ hj => ?_), by omega⟩
 have h1 := of_decide_eq_true (allF_at _ _ _ h.1 j (by omega) (by omega))
 rw [rdn] at hz
 unfold r1
 refine decide_eq_true ?_
 by_cases e : j = n - 1
 ·subst e; exact hz
 ·have : y.getD j 0 = x.getD j 0 := by rw [hy, List.getD_eq_getElem?_getD, List.getD_eq_getElem?_getD, List.getElem?_set_ne (by omega)]
  rw [this]; exact h1
theorem rowB_zero : rowB (List.replicate 24 0) = true := by decide
theorem inv_both (f g : List Int) (hf : f.length = 24) (hg : g.length = 24) : ∀ m n : Nat, 1 ≤ n → n + m = 25 → ∀ x : List Int, rowB x = true → ∃ r b, (b = true → rowB r = true) ∧ (b = false → r = []) ∧ Ev (fun k => spec_l3Divided.l0 k f g x (n : Int)) r ∧ Ev (fun k => impl_DividedOf.l0 k f g x (n : Int)) (r, b) := by
 intro m
 induction m with
 | zero =>
  intro n h1 h x hx
  refine ⟨x, true, fun _ => hx, nofun, Ev.up ?_, Ev.up ?_⟩
  ·simp only [spec_l3Divided.l0]
   exact Ev.ite_neg (by omega) (Ev.now _)
  ·simp only [impl_DividedOf.l0]
   exact Ev.ite_neg (by omega) (Ev.now _)
 | succ m ih =>
  intro n h1 h x hxr
  have hx := rowB_len hxr
  have hall := List.all_eq_true.1 dn_all (n - 1) (List.mem_range.2 (by omega))
  rw [show n - 1 + 1 = n by omega] at hall
  simp only [Bool.and_eq_true, beq_iff_eq] at hall
  obtain ⟨hp, hd⟩ := hall
  have hdv : Ev (fun k => impl_divisors.f k (n : Int)) (nzs (DN n)) := Ev.of (impl_divisors.mono _) hd
  have hmem : ∀ d ∈ DN n, 1 ≤ d ∧ d ≤ n := fun d hd => by
   unfold DN at hd
   simp only [List.mem_filter, List.mem_range, Bool.and_eq_true, decide_eq_true_eq] at hd
   omega
  have hlen : (DN n).length ≤ 100 := by
   have := List.length_filter_le (fun d => decide (1 ≤ d) && n % d == 0) (List.range (n + 1))
   rw [List.length_range] at this
   unfold DN
   omega
  have e0 : wrap64 ((n : Int) - 1) = ((n - 1 : Nat) : Int) := by rw [w64 (by omega) (by omega)]; omega
  have e1 : wrap64 ((n : Int) + 1) = ((n + 1 : Nat) : Int) := w64 (by omega) (by omega)
  have hfold : (pin n (DN n)).foldl (subI g x) (f.getD (n - 1) 0) = (ps n (n - 1) 2).foldl (subI g x) (f.getD (n - 1) 0) := by rw [hp, subI_rev]
  obtain ⟨v, hv⟩ : ∃ v, v = (ps n (n - 1) 2).foldl (subI g x) (f.getD (n - 1) 0) := ⟨_, rfl⟩
  obtain ⟨y, hy⟩ : ∃ y : List Int, y = x.set (n - 1) (wrap64 (v * rd g 0)) := ⟨_, rfl⟩
  have hyl : y.length = 24 := by rw [hy, List.length_set]; exact hx
  have hsp : ∀ r, Ev (fun k => (spec_l1In.f (rd y ((n - 1 : Nat) : Int)) (-1000000000) 1000000000).bind fun t => (if t = true then spec_l3Divided.l0 k f g y ((n + 1 : Nat) : Int) else some [])) r → Ev (fun k => spec_l3Divided.l0 k f g x (n : Int)) r := by
   intro r hr
   refine Ev.up ?_
   simp only [spec_l3Divided.l0, e0, rdn]
   refine Ev.ite_pos (by omega) (Ev.ite_pos (by omega) (Ev.ite_pos (by omega) ?_))
   refine sp_l1 f g x hg hx n (by omega) (n - 1) 2 (by omega) (by omega) _ r ?_
   rw [← hv]
   refine Ev.up ?_
   simp only [spec_l3Divided.l1, e0, e1, Int.toNat_natCast, ← hy]
   clear e0 e1 hv hy hfold hp hd hdv
   exact Ev.ite_neg (by omega) (Ev.ite_pos (by omega) (Ev.ite_pos (by omega) (Ev.ite_pos (by omega) (Ev.bindc rfl hr))))
  have him : ∀ r, Ev (fun k => (if (rd y ((n - 1 : Nat) : Int)) < (-1000000000) then (some (([] : List Int), false)) else (if (rd y ((n - 1 : Nat) : Int)) > 1000000000 then (some (([] : List Int), false)) else (impl_DividedOf.l0 k f g y ((n + 1 : Nat) : Int))))) r → Ev (fun k => impl_DividedOf.l0 k f g x (n : Int)) r := by
   intro r hr
   refine Ev.up ?_
   simp only [impl_DividedOf.l0, e0, rdn]
   refine Ev.ite_pos (by omega) (Ev.ite_pos (by omega) (Ev.ite_pos (by omega) (Ev.bind hdv ?_)))
   refine im_l1 f g x hg hx n (by omega) (DN n) hmem hlen (DN n) 0 rfl _ r ?_
   rw [hfold, ← hv]
   refine Ev.up ?_
   simp only [impl_DividedOf.l1, e0, e1, Int.toNat_natCast, ← hy, nzs_len]
   clear e0 e1 hv hy hfold hp hd hdv
   exact Ev.ite_neg (by omega) (Ev.ite_pos (by omega) (Ev.ite_pos (by omega) (Ev.ite_pos (by omega) (Ev.bindc rfl hr))))
  by_cases hz : -1000000000 ≤ rd y ((n - 1 : Nat) : Int) ∧ rd y ((n - 1 : Nat) : Int) ≤ 1000000000
  ·obtain ⟨r, b, a1, a2, a3, a4⟩ := ih (n + 1) (by omega) (by omega) y (rowB_set hxr hy hz)
   refine ⟨r, b, a1, a2, hsp r ?_, him (r, b) ?_⟩
   ·simp only [l1In_eq]
    exact Ev.bindc rfl (Ev.ite_pos (decide_eq_true hz) a3)
   ·exact Ev.ite_neg (by omega) (Ev.ite_neg (by omega) a4)
  ·refine ⟨[], false, nofun, fun _ => rfl, hsp [] ?_, him ([], false) ?_⟩
   ·simp only [l1In_eq]
    exact Ev.bindc rfl (Ev.ite_neg (fun h => hz (of_decide_eq_true h)) (Ev.now _))
   ·by_cases h3 : rd y ((n - 1 : Nat) : Int) < -1000000000
    ·exact Ev.ite_pos h3 (Ev.now _)
    ·exact Ev.ite_neg h3 (Ev.ite_pos (by omega) (Ev.now _))
def unitB (g : List Int) : Bool := rowB g && (g.getD 0 0 == 1 || g.getD 0 0 == -1)
theorem unit_some {g : List Int} (h : rowB g = true) : (if 0 < (g.length : Int) then (if (rd g 0) = 1 then (some true) else (some ((rd g 0) == (-1)))) else (none)) = some (g.getD 0 0 == 1 || g.getD 0 0 == -1) := by
 have hl := rowB_len h
 have e : rd g 0 = g.getD 0 0 := rdn g 0
 rw [if_pos (by omega), e]
 by_cases c : g.getD 0 0 = 1
 ·rw [if_pos c, c]; rfl
 ·rw [if_neg c, show (g.getD 0 0 == 1) = false from beq_eq_false_iff_ne.2 c, Bool.false_or]
theorem sp_unitOk (g : List Int) (hg : g.length ≤ 1000000) : Ev (fun k => spec_UnitOk.f k g) (unitB g) := by
 have h := spec_rowOk g (by omega)
 unfold spec_UnitOk.f unitB
 cases hr : rowB g with
 | false => rw [hr] at h; exact Ev.bind h (Ev.ite_neg (by simp) (Ev.now _))
 | true => rw [hr] at h; exact Ev.bind h (Ev.ite_pos rfl (Ev.const (unit_some hr)))
theorem im_unitOk (g : List Int) (hg : g.length ≤ 1000000) : Ev (fun k => impl_UnitOk.f k g) (unitB g) := by
 have h := impl_rowOk g (by omega)
 unfold impl_UnitOk.f unitB
 cases hr : rowB g with
 | false => rw [hr] at h; exact Ev.bind h (Ev.ite_neg (by simp) (Ev.now _))
 | true => rw [hr] at h; exact Ev.bind h (Ev.ite_pos rfl (Ev.const (unit_some hr)))
/-- Division, both ways. -/
theorem divided_both (f g : List Int) (hf : f.length ≤ 1000000) (hg : g.length ≤ 1000000) : ∃ r b, (b = true → rowB r = true) ∧ Ev (fun k => spec_DividedOf.f k f g) (r, b) ∧ Ev (fun k => impl_DividedOf.f k f g) (r, b) := by
 have su := sp_unitOk g hg
 have iu := im_unitOk g hg
 have ig := impl_small g (by omega)
 have ifs := impl_small f (by omega)
 have jt : Ev (fun k => impl_DividedOf.j0 k f g true) ([], false) := by
  refine Ev.up ?_
  simp only [impl_DividedOf.j0]
  exact Ev.ite_pos trivial (Ev.now _)
 rcases times_both g f hg hf with ⟨sg, sf, h1, _⟩ | ⟨hs, h1, _⟩
 ·rw [sg] at ig
  rw [sf] at ifs
  cases u : unitB g with
  | false =>
   rw [u] at su iu
   refine ⟨[], false, nofun, ?_, ?_⟩
   ·unfold spec_DividedOf.f
    exact Ev.bind h1 (Ev.ite_pos rfl (Ev.bind su (Ev.ite_neg (by simp) (Ev.now _))))
   ·unfold impl_DividedOf.f
    exact Ev.bind iu (Ev.ite_neg (by simp) jt)
  | true =>
   rw [u] at su iu
   obtain ⟨q, b, a1, a2, a3, a4⟩ := inv_both f g (small_len sf) (small_len sg) 24 1 (by omega) (by omega) (List.replicate 24 0) rowB_zero
   refine ⟨q, b, a1, ?_, ?_⟩
   ·unfold spec_DividedOf.f
    have hd : Ev (fun k => spec_l3Divided.f k f g) q := by
     unfold spec_l3Divided.f
     exact Ev.ite_pos (by omega) a3
    have eb : ((q.length : Int) == 24) = b := by
     cases b with
     | true => rw [rowB_len (a1 rfl)]; rfl
     | false => rw [a2 rfl]; rfl
    have e2 := Ev.bind (f := fun _ t => some (t, ((t.length : Int) == 24))) hd (Ev.now _)
    rw [eb] at e2
    exact Ev.bind h1 (Ev.ite_pos rfl (Ev.bind su (Ev.ite_pos rfl e2)))
   ·unfold impl_DividedOf.f
    refine Ev.bind iu (Ev.ite_pos rfl (Ev.bind ig (Ev.ite_pos rfl (Ev.bind ifs (Ev.up ?_)))))
    simp only [impl_DividedOf.j0]
    exact Ev.ite_neg (by simp) (Ev.ite_pos (by omega) a4)
 ·refine ⟨[], false, nofun, ?_, ?_⟩
  ·unfold spec_DividedOf.f
   exact Ev.bind h1 (Ev.ite_neg (by simp) (Ev.now _))
  ·unfold impl_DividedOf.f
   refine Ev.bind iu ?_
   cases unitB g with
   | false => exact Ev.ite_neg (by simp) jt
   | true =>
    refine Ev.ite_pos rfl (Ev.bind ig ?_)
    cases sg : smallB g with
    | false => exact Ev.ite_neg (by simp) jt
    | true =>
     rw [sg, Bool.true_and] at hs
     rw [hs] at ifs
     exact Ev.ite_pos rfl (Ev.bind ifs jt)
theorem inverse_both (f : List Int) (hf : f.length ≤ 1000000) : ∃ r b, (b = true → rowB r = true) ∧ Ev (fun k => spec_InverseOf.f k f) (r, b) ∧ Ev (fun k => impl_InverseOf.f k f) (r, b) := by
 obtain ⟨e, _, h0, _, he1, he2⟩ := named_both 0
 have hl : e.length ≤ 1000000 := by rw [h0 rfl]; simp [row0]
 obtain ⟨r, b, hb, hd1, hd2⟩ := divided_both e f hl hf
 refine ⟨r, b, hb, ?_, ?_⟩
 ·unfold spec_InverseOf.f
  exact Ev.bind he1 (Ev.bind hd1 (Ev.now _))
 ·unfold impl_InverseOf.f
  exact Ev.bind he2 (Ev.bind hd2 (Ev.now _))

theorem rdL (l : List (List Int)) (i : Nat) : rd_L1 l (i : Int) = l.getD i [] := by unfold rd_L1; rw [Int.toNat_natCast]
theorem getD_len {l : List (List Int)} {m : Nat} (h : ∀ x ∈ l, x.length ≤ m) (i : Nat) : (l.getD i []).length ≤ m := by
 by_cases hi : i < l.length
 ·rw [List.getD_eq_getElem?_getD, List.getElem?_eq_getElem hi]
  exact h _ (List.getElem_mem _)
 ·rw [List.getD_eq_getElem?_getD, List.getElem?_eq_none (by omega)]
  exact Nat.zero_le _
theorem impl_deskL (now : List Int) (past : List (List Int)) (h1 : now.length ≤ 1000000000) (h2 : past.length ≤ 1000000000) (h3 : ∀ x ∈ past, x.length ≤ 1000000000) : ∀ f i, i + f = past.length → Ev (fun k => impl_DeskOk.l0 k past (past.length : Int) (i : Int) now past) (allF (fun i => rowB (past.getD i [])) f i && (rowB now && decide ((past.length : Int) ≤ 8))) := by
 intro f
 induction f with
 | zero =>
  intro i h
  simp only [allF, Bool.true_and]
  refine Ev.step (f := fun k => (impl_RowOk.f k now).bind fun t139 => (if t139 = true then (some (decide ((past.length : Int) ≤ 8))) else (some false))) (fun k => ?_) (Ev.bind (impl_rowOk now h1) ?_)
  ·simp only [impl_DeskOk.l0]
   rw [if_neg (by omega)]
  ·cases rowB now
   ·exact Ev.ite_neg (by simp) (Ev.now _)
   ·rw [Bool.true_and]
    exact Ev.ite_pos rfl (Ev.now _)
 | succ f ih =>
  intro i h
  refine Ev.step (f := fun k => (impl_RowOk.f k (past.getD i [])).bind fun t138 => (if t138 = true then (impl_DeskOk.l0 k past (past.length : Int) (wrap64 ((i : Int) + 1)) now past) else (some false))) (fun k => ?_) (Ev.bind (impl_rowOk _ (getD_len h3 i)) ?_)
  ·simp only [impl_DeskOk.l0, rdL]
   rw [if_pos (by omega), if_pos (by omega), if_pos (by omega)]
  ·simp only [allF]
   cases rowB (past.getD i [])
   ·simp only [Bool.false_and]
    exact Ev.ite_neg (by simp) (Ev.now _)
   ·rw [Bool.true_and, w64 (by omega) (by omega)]
    exact Ev.ite_pos rfl (ih (i + 1) (by omega))
theorem impl_desk (now : List Int) (past : List (List Int)) (h1 : now.length ≤ 1000000000) (h2 : past.length ≤ 1000000000) (h3 : ∀ x ∈ past, x.length ≤ 1000000000) : Ev (fun k => impl_DeskOk.f k now past) (deskB now past) :=
 impl_deskL now past h1 h2 h3 past.length 0 (by omega)
theorem spec_deskL (now : List Int) (past : List (List Int)) (h1 : now.length ≤ 1000000000) (h2 : past.length ≤ 1000000000) (h3 : ∀ x ∈ past, x.length ≤ 1000000000) : ∀ f i, i + f = past.length → Ev (fun k => spec_DeskOk.l0 k (i : Int) now past) (allF (fun i => rowB (past.getD i [])) f i && (rowB now && decide ((past.length : Int) ≤ 8))) := by
 intro f
 induction f with
 | zero =>
  intro i h
  simp only [allF, Bool.true_and]
  refine Ev.step (f := fun k => (spec_RowOk.f k now).bind fun t139 => (if t139 = true then (some (decide ((past.length : Int) ≤ 8))) else (some false))) (fun k => ?_) (Ev.bind (spec_rowOk now h1) ?_)
  ·simp only [spec_DeskOk.l0]
   rw [if_neg (by omega)]
  ·cases rowB now
   ·exact Ev.ite_neg (by simp) (Ev.now _)
   ·rw [Bool.true_and]
    exact Ev.ite_pos rfl (Ev.now _)
 | succ f ih =>
  intro i h
  refine Ev.step (f := fun k => (spec_RowOk.f k (past.getD i [])).bind fun t138 => (if t138 = true then (spec_DeskOk.l0 k (wrap64 ((i : Int) + 1)) now past) else (some false))) (fun k => ?_) (Ev.bind (spec_rowOk _ (getD_len h3 i)) ?_)
  ·simp only [spec_DeskOk.l0, rdL]
   rw [if_pos (by omega), if_pos (by omega)]
  ·simp only [allF]
   cases rowB (past.getD i [])
   ·simp only [Bool.false_and]
    exact Ev.ite_neg (by simp) (Ev.now _)
   ·rw [Bool.true_and, w64 (by omega) (by omega)]
    exact Ev.ite_pos rfl (ih (i + 1) (by omega))
theorem spec_desk (now : List Int) (past : List (List Int)) (h1 : now.length ≤ 1000000000) (h2 : past.length ≤ 1000000000) (h3 : ∀ x ∈ past, x.length ≤ 1000000000) : Ev (fun k => spec_DeskOk.f k now past) (deskB now past) :=
 spec_deskL now past h1 h2 h3 past.length 0 (by omega)

theorem sp_copyL (now : List Int) (past : List (List Int)) (h2 : past.length ≤ 1000000) (h3 : ∀ x ∈ past, x.length ≤ 1000000) : ∀ m i : Nat, i + m = past.length → ∀ acc : List (List Int), acc.length = i → Ev (fun k => spec_l12Copy.l0 k (i : Int) now past now acc) (now, acc ++ past.drop i) := by
 intro m
 induction m with
 | zero =>
  intro i h acc ha
  refine Ev.up ?_
  simp only [spec_l12Copy.l0]
  rw [List.drop_eq_nil_of_le (by omega), List.append_nil]
  exact Ev.ite_neg (by omega) (Ev.now _)
 | succ m ih =>
  intro i h acc ha
  have hi : i < past.length := by omega
  have e := ih (i + 1) (by omega) (acc ++ [past.getD i []]) (by simp; omega)
  have ed : acc ++ [past.getD i []] ++ past.drop (i + 1) = acc ++ past.drop i := by
   rw [List.append_assoc, List.drop_eq_getElem_cons hi, List.getD_eq_getElem?_getD, List.getElem?_eq_getElem hi]
   rfl
  rw [ed] at e
  have hl := getD_len h3 i
  refine Ev.up ?_
  have e1 : wrap64 ((i : Int) + 1) = ((i + 1 : Nat) : Int) := w64 (by omega) (by omega)
  simp only [spec_l12Copy.l0, rdL, e1]
  clear e1
  exact Ev.ite_pos (by omega) (Ev.bindc rfl (Ev.ite_pos (by omega) (Ev.ite_pos (by simp only [List.length_nil]; omega) (Ev.ite_pos (by omega) e))))
theorem sp_copy (now : List Int) (past : List (List Int)) (h1 : now.length ≤ 1000000) (h2 : past.length ≤ 1000000) (h3 : ∀ x ∈ past, x.length ≤ 1000000) : Ev (fun k => spec_l12Copy.f k now past) (now, past) := by
 unfold spec_l12Copy.f
 exact Ev.bindc rfl (Ev.ite_pos (by simp only [List.length_nil]; omega) (sp_copyL now past h2 h3 past.length 0 (by omega) [] rfl))
/-- A desk that is not too long. -/
def Sz (now : List Int) (past : List (List Int)) : Prop := now.length ≤ 24 ∧ past.length ≤ 9 ∧ ∀ x ∈ past, x.length ≤ 24

theorem drop_get {f : List Int} {i : Nat} (h : i < f.length) : f.drop i = f.getD i 0 :: f.drop (i + 1) := by
 rw [List.drop_eq_getElem_cons h, List.getD_eq_getElem?_getD, List.getElem?_eq_getElem h]
 rfl
theorem same_dec (f g : List Int) (hf : f.length = 24) (hg : g.length = 24) : ∀ m i : Nat, i + m = 24 → Ev (fun k => spec_l12Same.l0 k f g (i : Int)) (decide (f.drop i = g.drop i)) := by
 intro m
 induction m with
 | zero =>
  intro i h
  rw [List.drop_eq_nil_of_le (by omega), List.drop_eq_nil_of_le (by omega), decide_eq_true rfl]
  refine Ev.up ?_
  simp only [spec_l12Same.l0]
  exact Ev.ite_neg (by omega) (Ev.now _)
 | succ m ih =>
  intro i h
  rw [drop_get (f := f) (by omega), drop_get (f := g) (by omega)]
  refine Ev.up ?_
  have e1 : wrap64 ((i : Int) + 1) = ((i + 1 : Nat) : Int) := w64 (by omega) (by omega)
  have ih := ih (i + 1) (by omega)
  simp only [spec_l12Same.l0, e1, rdn, List.cons.injEq]
  clear e1
  refine Ev.ite_pos (by omega) (Ev.ite_pos (by omega) (Ev.ite_pos (by omega) (Ev.ite_pos (by omega) ?_)))
  by_cases c : f.getD i 0 = g.getD i 0
  ·refine Ev.ite_pos c ?_
   simp only [c, true_and]
   exact ih
  ·refine Ev.ite_neg c ?_
   simp only [c, false_and, decide_false]
   exact Ev.now _
theorem same_ev (f g : List Int) (hf : f.length = 24) (hg : g.length = 24) : Ev (fun k => spec_l12Same.f k f g) (decide (f = g)) := same_dec f g hf hg 24 0 (by omega)
theorem equal_dec (f g : List Int) (hl : f.length ≤ 1000000) (hg : f.length = g.length) : ∀ m i : Nat, i + m = f.length → Ev (fun k => slices_Equal_int_int.l0 k f g (f.length : Int) (i : Int)) (decide (f.drop i = g.drop i)) := by
 intro m
 induction m with
 | zero =>
  intro i h
  rw [List.drop_eq_nil_of_le (by omega), List.drop_eq_nil_of_le (by omega), decide_eq_true rfl]
  refine Ev.up ?_
  simp only [slices_Equal_int_int.l0]
  exact Ev.ite_neg (by omega) (Ev.now _)
 | succ m ih =>
  intro i h
  rw [drop_get (f := f) (by omega), drop_get (f := g) (by omega)]
  refine Ev.up ?_
  have e1 : wrap64 ((i : Int) + 1) = ((i + 1 : Nat) : Int) := w64 (by omega) (by omega)
  have ih := ih (i + 1) (by omega)
  simp only [slices_Equal_int_int.l0, e1, rdn, List.cons.injEq]
  clear e1
  refine Ev.ite_pos (by omega) (Ev.ite_pos (by omega) (Ev.ite_pos (by omega) (Ev.ite_pos (by omega) ?_)))
  by_cases c : f.getD i 0 = g.getD i 0
  ·refine Ev.ite_pos c ?_
   simp only [c, true_and]
   exact ih
  ·refine Ev.ite_neg c ?_
   simp only [c, false_and, decide_false]
   exact Ev.now _
theorem equal_ev (f g : List Int) (hl : f.length ≤ 1000000) : Ev (fun k => slices_Equal_int_int.f k f g) (decide (f = g)) := by
 unfold slices_Equal_int_int.f
 by_cases h : f.length = g.length
 ·exact Ev.ite_pos (by omega) (equal_dec f g hl h f.length 0 (by omega))
 ·rw [decide_eq_false (fun e => h (by rw [e]))]
  exact Ev.ite_neg (by omega) (Ev.now _)
theorem clone_ev {f : List Int} (h : 0 < f.length) (h2 : f.length ≤ 1000000) : Ev (fun k => slices_Clone_int_int.f k f) f := by
 unfold slices_Clone_int_int.f
 exact Ev.ite_pos h (Ev.ite_pos (by omega) (Ev.now _))
/-- Rows that have something. -/
def Full (past : List (List Int)) : Prop := past.length ≤ 1000000 ∧ ∀ x ∈ past, 0 < x.length ∧ x.length ≤ 1000000
theorem im_copyL (now : List Int) (past : List (List Int)) (h : Full past) : ∀ m i : Nat, i + m = past.length → ∀ acc : List (List Int), acc.length = i → Ev (fun k => impl_copyDesk.l0 k past (past.length : Int) (i : Int) now acc) (now, acc ++ past.drop i) := by
 obtain ⟨h2, h3⟩ := h
 intro m
 induction m with
 | zero =>
  intro i h acc ha
  refine Ev.up ?_
  simp only [impl_copyDesk.l0]
  rw [List.drop_eq_nil_of_le (by omega), List.append_nil]
  exact Ev.ite_neg (by omega) (Ev.now _)
 | succ m ih =>
  intro i h acc ha
  have hi : i < past.length := by omega
  have e := ih (i + 1) (by omega) (acc ++ [past.getD i []]) (by simp; omega)
  have ed : acc ++ [past.getD i []] ++ past.drop (i + 1) = acc ++ past.drop i := by
   rw [List.append_assoc, List.drop_eq_getElem_cons hi, List.getD_eq_getElem?_getD, List.getElem?_eq_getElem hi]
   rfl
  rw [ed] at e
  have hm : past.getD i [] ∈ past := by
   rw [List.getD_eq_getElem?_getD, List.getElem?_eq_getElem hi]
   exact List.getElem_mem _
  obtain ⟨g1, g2⟩ := h3 _ hm
  refine Ev.up ?_
  have e1 : wrap64 ((i : Int) + 1) = ((i + 1 : Nat) : Int) := w64 (by omega) (by omega)
  simp only [impl_copyDesk.l0, rdL, e1]
  clear e1
  exact Ev.ite_pos (by omega) (Ev.ite_pos (by omega) (Ev.ite_pos (by omega) (Ev.bind (clone_ev g1 g2) (Ev.ite_pos (by omega) e))))
theorem im_copy (now : List Int) (past : List (List Int)) (h1 : 0 < now.length) (h2 : now.length ≤ 1000000) (h : Full past) : Ev (fun k => impl_copyDesk.f k now past) (now, past) := by
 unfold impl_copyDesk.f
 exact Ev.bind (clone_ev h1 h2) (im_copyL now past h past.length 0 (by omega) [] rfl)
def trimP (past : List (List Int)) (now : List Int) : List (List Int) := if ((past ++ [now]).length : Int) > 8 then (past ++ [now]).drop 1 else past ++ [now]
/-- What a deed other than DkBack leaves, where it makes r of the row (o: it is told). -/
def fin (now : List Int) (past : List (List Int)) (r : List Int) (o : Bool) : List Int × List (List Int) × Bool := if o = true ∧ r ≠ now then (r, trimP past now, true) else (now, past, false)
theorem im_j2 (now : List Int) (past : List (List Int)) (r : List Int) (h1 : 0 < now.length) (h2 : now.length ≤ 1000000) (h : Full past) (hp : past.length ≤ 8) (hr : 0 < r.length) (hr2 : r.length ≤ 1000000) : Ev (fun k => impl_DeskDo.j2 k r false now past) (r, trimP past now, true) := by
 have hF : Full (past ++ [now]) := ⟨by simp; omega, fun x hx => by
  rcases List.mem_append.1 hx with h3 | h3
  ·exact h.2 x h3
  ·rw [List.mem_singleton.1 h3]; exact ⟨h1, h2⟩⟩
 refine Ev.up ?_
 simp only [impl_DeskDo.j2]
 refine Ev.ite_neg (by simp) (Ev.ite_pos (by omega) (Ev.bindc rfl ?_))
 unfold trimP
 by_cases c : ((past ++ [now]).length : Int) > 8
 ·have hF2 : Full ((past ++ [now]).drop 1) := ⟨by rw [List.length_drop]; have := hF.1; omega, fun x hx => hF.2 x (List.mem_of_mem_drop hx)⟩
  rw [if_pos c]
  exact Ev.ite_pos c (Ev.ite_pos (by omega) (Ev.bind (im_copy r _ hr hr2 hF2) (Ev.now _)))
 ·rw [if_neg c]
  exact Ev.ite_neg c (Ev.bind (im_copy r _ hr hr2 hF) (Ev.now _))
theorem im_j1 (now : List Int) (past : List (List Int)) (r : List Int) (o : Bool) (h1 : now.length = 24) (h : Full past) (hp : past.length ≤ 8) (hr : o = true → r.length = 24) : Ev (fun k => impl_DeskDo.j1 k r o now past now past) (fin now past r o) := by
 have jt : Ev (fun k => impl_DeskDo.j2 k r true now past) (now, past, false) := by
  refine Ev.up ?_
  simp only [impl_DeskDo.j2]
  exact Ev.ite_pos trivial (Ev.now _)
 refine Ev.up ?_
 simp only [impl_DeskDo.j1]
 unfold fin
 cases o with
 | false =>
  rw [if_neg (by simp)]
  exact Ev.ite_neg (by simp) jt
 | true =>
  have hl := hr rfl
  have he := equal_ev r now (by omega)
  refine Ev.ite_pos rfl (Ev.bind he ?_)
  by_cases c : r = now
  ·rw [if_neg (by simp [c])]
   rw [decide_eq_true c]
   exact jt
  ·rw [if_pos ⟨rfl, c⟩, decide_eq_false c]
   exact im_j2 now past r (by omega) (by omega) h hp (by omega) (by omega)
theorem sp_j1 (now : List Int) (past : List (List Int)) (r : List Int) (h : past.length ≤ 8) : Ev (fun k => spec_DeskDo.j1 k r false now past) (r, trimP past now, true) := by
 refine Ev.up ?_
 simp only [spec_DeskDo.j1]
 refine Ev.ite_neg (by simp) (Ev.ite_pos (by omega) (Ev.bindc rfl ?_))
 by_cases c : ((past ++ [now]).length : Int) > 8
 ·rw [show trimP past now = (past ++ [now]).drop 1 from if_pos c]
  exact Ev.ite_pos c (Ev.ite_pos (by omega) (Ev.now _))
 ·rw [show trimP past now = past ++ [now] from if_neg c]
  exact Ev.ite_neg c (Ev.now _)
theorem sp_j0 (now : List Int) (past : List (List Int)) (a b c : Int) (r : List Int) (o : Bool) (h1 : now.length = 24) (hp : past.length ≤ 8) (hr : o = true → r.length = 24) (hm : Ev (fun k => spec_l12Made.f k now a b c) (r, o)) : Ev (fun k => spec_DeskDo.j0 k false now past a b c now past) (fin now past r o) := by
 have jt : Ev (fun k => spec_DeskDo.j1 k r true now past) (now, past, false) := by
  refine Ev.up ?_
  simp only [spec_DeskDo.j1]
  exact Ev.ite_pos trivial (Ev.now _)
 refine Ev.up ?_
 simp only [spec_DeskDo.j0]
 refine Ev.ite_neg (by simp) (Ev.bind hm ?_)
 unfold fin
 cases o with
 | false =>
  rw [if_neg (by simp)]
  exact Ev.ite_neg (by simp) jt
 | true =>
  refine Ev.ite_pos rfl (Ev.bind (f := fun k t => spec_DeskDo.j1 k r t now past) (same_ev r now (hr rfl) h1) ?_)
  by_cases c : r = now
  ·rw [if_neg (by simp [c])]
   rw [decide_eq_true c]
   exact jt
  ·rw [if_pos ⟨rfl, c⟩, decide_eq_false c]
   exact sp_j1 now past r hp
/-- The deeds that the reference makes nothing of. -/
theorem sp_none (f : List Int) (a b c : Int) (h0 : ¬ (a = 0 ∧ c = 0)) (h1 : ¬ (a = 1 ∧ c = 0)) (h2 : ¬ (a = 2 ∧ b = 0 ∧ c = 0)) (h3 : a ≠ 3) : Ev (fun k => spec_l12Made.f k f a b c) ([], false) := by
 have j1 : Ev (fun k => spec_l12Made.j1 k f false a b c) ([], false) := by
  refine Ev.up ?_
  simp only [spec_l12Made.j1]
  exact Ev.ite_neg (by simp) (Ev.ite_neg (by simpa using h2) (Ev.ite_neg h3 (Ev.now _)))
 have j0 : Ev (fun k => spec_l12Made.j0 k f false a b c) ([], false) := by
  refine Ev.up ?_
  simp only [spec_l12Made.j0]
  refine Ev.ite_neg (by simp) ?_
  by_cases e : a = 1
  ·rw [show (c == 0) = false from beq_eq_false_iff_ne.2 (fun hc => h1 ⟨e, hc⟩)]
   exact Ev.ite_pos e j1
  ·exact Ev.ite_neg e j1
 unfold spec_l12Made.f
 by_cases e : a = 0
 ·rw [show (c == 0) = false from beq_eq_false_iff_ne.2 (fun hc => h0 ⟨e, hc⟩)]
  exact Ev.ite_pos e j0
 ·exact Ev.ite_neg e j0
def imTail (k : Nat) (now : List Int) (past : List (List Int)) (a b c : Int) : Option (List Int × (List (List Int)) × Bool) := (if a = 3 then (if a = 2 then (impl_DeskDo.j0 k (b != 0) now past a b c now past) else (if a = 4 then (impl_DeskDo.j0 k (b != 0) now past a b c now past) else (impl_DeskDo.j0 k false now past a b c now past))) else (if c = 0 then (if a = 2 then (impl_DeskDo.j0 k (b != 0) now past a b c now past) else (if a = 4 then (impl_DeskDo.j0 k (b != 0) now past a b c now past) else (impl_DeskDo.j0 k false now past a b c now past))) else (impl_DeskDo.j0 k true now past a b c now past)))
theorem allI_row {f g : List Int} {P : List (List (Nat × Nat))} (hf : smallB f = true) (hg : smallB g = true) (hP : ∀ l ∈ P, l.length ≤ 8) (hl : P.length = 24) : rowB (allI P f g) = true := by
 unfold rowB
 simp only [Bool.and_eq_true, beq_iff_eq]
 refine ⟨allF_of _ _ _ (fun j _ _ => ?_), by rw [allI_len]; omega⟩
 have := allI_at (small_at hf) (small_at hg) P hP j
 unfold r1
 refine decide_eq_true ?_
 omega
theorem getD_set_row {now : List Int} {b c : Int} (h : rowB now = true) (hc : 0 ≤ c ∧ c ≤ 9999) : rowB (now.set (b - 1).toNat c) = true := by
 have hl := rowB_len h
 unfold rowB at h ⊢
 simp only [Bool.and_eq_true, beq_iff_eq] at h ⊢
 rw [List.length_set]
 refine ⟨allF_of _ _ _ (fun j _ hj => ?_), h.2⟩
 have h1 := of_decide_eq_true (allF_at _ _ _ h.1 j (by omega) (by omega))
 unfold r1
 refine decide_eq_true ?_
 by_cases e : j = (b - 1).toNat
 ·rw [e, List.getD_eq_getElem?_getD, List.getElem?_set_self (by omega)]
  simp only [Option.getD_some]
  omega
 ·have : (now.set (b - 1).toNat c).getD j 0 = now.getD j 0 := by rw [List.getD_eq_getElem?_getD, List.getD_eq_getElem?_getD, List.getElem?_set_ne (by omega)]
  rw [this]; exact h1
/-- What a deed other than DkBack makes of a row, both ways. -/
theorem made_both (now : List Int) (a b c : Int) (hn : rowB now = true) : ∃ r o, (o = true → rowB r = true) ∧ (o = true → a = 0 → b = 1 → smallB now = true ∧ r = allI PT now ones) ∧ (a = 4 → o = false) ∧ Ev (fun k => spec_l12Made.f k now a b c) (r, o) ∧ ∀ past : List (List Int), Full past → past.length ≤ 8 → ¬ (a = 4 ∧ b = 0 ∧ c = 0) → Ev (fun k => imTail k now past a b c) (fin now past r o) := by
 have h24 := rowB_len hn
 obtain ⟨nm, hnm, _, hone, en1, en2⟩ := named_both b
 have hnl : nm.length ≤ 1000000 := by rcases hnm with h | h <;> simp [h]
 have jt : ∀ past, Ev (fun k => impl_DeskDo.j0 k true now past a b c now past) (now, past, false) := fun past => by
  refine Ev.up ?_
  simp only [impl_DeskDo.j0]
  exact Ev.ite_pos trivial (Ev.now _)
 have ft : ∀ past, fin now past [] false = (now, past, false) := fun past => if_neg (by simp)
 by_cases c3 : a = 3
 ·subst c3
  have hi : ∀ past r o, (∀ k, impl_DeskDo.j0 (k + 1) false now past 3 b c now past = (if b ≥ 1 then (if b ≤ 24 then (if c ≥ 0 then (if c ≤ 9999 then ((slices_Clone_int_int.f k now).bind fun t546 => (if 0 ≤ (wrap64 (b - 1)) then (if (wrap64 (b - 1)) < (t546.length : Int) then (impl_DeskDo.j1 k (t546.set ((wrap64 (b - 1)) : Int).toNat c) true now past now past) else (none)) else (none))) else (impl_DeskDo.j1 k ([] : List Int) false now past now past)) else (impl_DeskDo.j1 k ([] : List Int) false now past now past)) else (impl_DeskDo.j1 k ([] : List Int) false now past now past)) else (impl_DeskDo.j1 k ([] : List Int) false now past now past))) → Ev (fun k => impl_DeskDo.j0 k false now past 3 b c now past) (fin now past r o) → Ev (fun k => imTail k now past 3 b c) (fin now past r o) := fun past r o _ h => Ev.ite_pos rfl (Ev.ite_neg (by omega) (Ev.ite_neg (by omega) h))
  have hj : ∀ past k, impl_DeskDo.j0 (k + 1) false now past 3 b c now past = (if b ≥ 1 then (if b ≤ 24 then (if c ≥ 0 then (if c ≤ 9999 then ((slices_Clone_int_int.f k now).bind fun t546 => (if 0 ≤ (wrap64 (b - 1)) then (if (wrap64 (b - 1)) < (t546.length : Int) then (impl_DeskDo.j1 k (t546.set ((wrap64 (b - 1)) : Int).toNat c) true now past now past) else (none)) else (none))) else (impl_DeskDo.j1 k ([] : List Int) false now past now past)) else (impl_DeskDo.j1 k ([] : List Int) false now past now past)) else (impl_DeskDo.j1 k ([] : List Int) false now past now past)) else (impl_DeskDo.j1 k ([] : List Int) false now past now past)) := fun past k => by
   simp only [impl_DeskDo.j0]
   rw [if_neg (by simp), if_neg (by omega), if_neg (by omega), if_neg (by omega), if_pos trivial]
  have hs : ∀ r o, Ev (fun k => spec_l12Made.j1 k now false 3 b c) (r, o) → Ev (fun k => spec_l12Made.f k now 3 b c) (r, o) := fun r o h => by
   unfold spec_l12Made.f
   refine Ev.ite_neg (by omega) (Ev.up ?_)
   simp only [spec_l12Made.j0]
   exact Ev.ite_neg (by simp) (Ev.ite_neg (by omega) h)
  by_cases cb : 1 ≤ b ∧ b ≤ 24
  ·by_cases cc : 0 ≤ c ∧ c ≤ 9999
   ·have e1 : wrap64 (b - 1) = b - 1 := w64 (by omega) (by omega)
    refine ⟨now.set (b - 1).toNat c, true, fun _ => getD_set_row hn cc, fun _ h => by omega, fun h => by omega, hs _ _ (Ev.up ?_), fun past hF hp _ => hi past _ _ (hj past) (Ev.step (hj past) ?_)⟩
    ·simp only [spec_l12Made.j1, l1In_eq, e1]
     clear e1
     exact Ev.ite_neg (by simp) (Ev.ite_neg (by simp) (Ev.ite_pos trivial (Ev.bindc rfl (Ev.ite_pos (decide_eq_true cb) (Ev.bindc rfl (Ev.ite_pos (decide_eq_true cc) (Ev.bindc rfl (Ev.ite_pos (by simp; omega) (Ev.bindc rfl (Ev.ite_pos (by omega) (Ev.ite_pos (by simp; omega) (Ev.now _))))))))))))
    ·simp only [e1]
     clear e1
     exact Ev.ite_pos cb.1 (Ev.ite_pos cb.2 (Ev.ite_pos cc.1 (Ev.ite_pos cc.2 (Ev.bind (clone_ev (by omega) (by omega)) (Ev.ite_pos (by omega) (Ev.ite_pos (by omega) (im_j1 now past _ true h24 hF hp (fun _ => by rw [List.length_set]; exact h24))))))))
   ·refine ⟨[], false, nofun, nofun, fun _ => rfl, hs _ _ (Ev.up ?_), fun past hF hp _ => hi past _ _ (hj past) (Ev.step (hj past) ?_)⟩
    ·simp only [spec_l12Made.j1, l1In_eq]
     exact Ev.ite_neg (by simp) (Ev.ite_neg (by simp) (Ev.ite_pos trivial (Ev.bindc rfl (Ev.ite_pos (decide_eq_true cb) (Ev.bindc rfl (Ev.ite_neg (fun h => cc (of_decide_eq_true h)) (Ev.now _)))))))
    ·have hj1 := im_j1 now past [] false h24 hF hp nofun
     refine Ev.ite_pos cb.1 (Ev.ite_pos cb.2 ?_)
     by_cases c1 : c ≥ 0
     ·exact Ev.ite_pos c1 (Ev.ite_neg (by omega) hj1)
     ·exact Ev.ite_neg c1 hj1
  ·refine ⟨[], false, nofun, nofun, fun _ => rfl, hs _ _ (Ev.up ?_), fun past hF hp _ => hi past _ _ (hj past) (Ev.step (hj past) ?_)⟩
   ·simp only [spec_l12Made.j1, l1In_eq]
    exact Ev.ite_neg (by simp) (Ev.ite_neg (by simp) (Ev.ite_pos trivial (Ev.bindc rfl (Ev.ite_neg (fun h => cb (of_decide_eq_true h)) (Ev.now _)))))
   ·have hj1 := im_j1 now past [] false h24 hF hp nofun
    by_cases c1 : b ≥ 1
    ·exact Ev.ite_pos c1 (Ev.ite_neg (by omega) hj1)
    ·exact Ev.ite_neg c1 hj1
 by_cases c0 : c = 0
 ·have tl : ∀ past x, (a ≠ 2 ∧ a ≠ 4 ∨ b = 0) → Ev (fun k => impl_DeskDo.j0 k false now past a b c now past) x → Ev (fun k => imTail k now past a b c) x := fun past x hb h => by
   refine Ev.ite_neg c3 (Ev.ite_pos c0 ?_)
   by_cases c2 : a = 2
   ·rw [show (b != 0) = false from bne_eq_false_iff_eq.2 (by omega)]
    exact Ev.ite_pos c2 h
   ·refine Ev.ite_neg c2 ?_
    by_cases c4 : a = 4
    ·rw [show (b != 0) = false from bne_eq_false_iff_eq.2 (by omega)]
     exact Ev.ite_pos c4 h
    ·exact Ev.ite_neg c4 h
  by_cases a0 : a = 0
  ·rcases times_both now nm (by omega) hnl with ⟨s1, s2, t1, t2⟩ | ⟨_, t1, t2⟩
   ·refine ⟨allI PT now nm, true, fun _ => allI_row s1 s2 PT_8 (by decide +kernel), fun _ _ h => ⟨s1, by rw [hone h]⟩, fun h => by omega, ?_, fun past hF hp _ => tl past _ (by omega) (Ev.up ?_)⟩
    ·unfold spec_l12Made.f
     rw [show (c == 0) = true from beq_iff_eq.2 c0]
     refine Ev.ite_pos a0 (Ev.up ?_)
     simp only [spec_l12Made.j0]
     exact Ev.ite_pos trivial (Ev.bind en1 (Ev.bind t1 (Ev.now _)))
    ·simp only [impl_DeskDo.j0]
     exact Ev.ite_neg (by simp) (Ev.ite_pos a0 (Ev.bind en2 (Ev.bind t2 (im_j1 now past _ true h24 hF hp (fun _ => allI_len ..)))))
   ·refine ⟨[], false, nofun, nofun, fun _ => rfl, ?_, fun past hF hp _ => tl past _ (by omega) (Ev.up ?_)⟩
    ·unfold spec_l12Made.f
     rw [show (c == 0) = true from beq_iff_eq.2 c0]
     refine Ev.ite_pos a0 (Ev.up ?_)
     simp only [spec_l12Made.j0]
     exact Ev.ite_pos trivial (Ev.bind en1 (Ev.bind t1 (Ev.now _)))
    ·simp only [impl_DeskDo.j0]
     exact Ev.ite_neg (by simp) (Ev.ite_pos a0 (Ev.bind en2 (Ev.bind t2 (im_j1 now past _ false h24 hF hp nofun))))
  by_cases a1 : a = 1
  ·have sp1 : ∀ r o, Ev (fun k => spec_UnitaryTimes.f k now nm) (r, o) → Ev (fun k => spec_l12Made.f k now a b c) (r, o) := fun r o h => by
    unfold spec_l12Made.f
    refine Ev.ite_neg a0 (Ev.up ?_)
    simp only [spec_l12Made.j0]
    rw [show (c == 0) = true from beq_iff_eq.2 c0]
    refine Ev.ite_neg (by simp) (Ev.ite_pos a1 (Ev.up ?_))
    simp only [spec_l12Made.j1]
    exact Ev.ite_pos trivial (Ev.bind en1 (Ev.bind h (Ev.now _)))
   rcases unitary_both now nm (by omega) hnl with ⟨s1, s2, t1, t2⟩ | ⟨_, t1, t2⟩
   ·refine ⟨allI PU now nm, true, fun _ => allI_row s1 s2 PU_8 (by decide +kernel), fun _ h => by omega, fun h => by omega, sp1 _ _ t1, fun past hF hp _ => tl past _ (by omega) (Ev.up ?_)⟩
    simp only [impl_DeskDo.j0]
    exact Ev.ite_neg (by simp) (Ev.ite_neg a0 (Ev.ite_pos a1 (Ev.bind en2 (Ev.bind t2 (im_j1 now past _ true h24 hF hp (fun _ => allI_len ..))))))
   ·refine ⟨[], false, nofun, nofun, fun _ => rfl, sp1 _ _ t1, fun past hF hp _ => tl past _ (by omega) (Ev.up ?_)⟩
    simp only [impl_DeskDo.j0]
    exact Ev.ite_neg (by simp) (Ev.ite_neg a0 (Ev.ite_pos a1 (Ev.bind en2 (Ev.bind t2 (im_j1 now past _ false h24 hF hp nofun)))))
  by_cases a2 : a = 2
  ·by_cases b0 : b = 0
   ·obtain ⟨r, o, hr, t1, t2⟩ := inverse_both now (by omega)
    refine ⟨r, o, hr, fun _ h => by omega, fun h => by omega, ?_, fun past hF hp _ => tl past _ (by omega) (Ev.up ?_)⟩
    ·unfold spec_l12Made.f
     refine Ev.ite_neg a0 (Ev.up ?_)
     simp only [spec_l12Made.j0]
     refine Ev.ite_neg (by simp) (Ev.ite_neg a1 (Ev.up ?_))
     simp only [spec_l12Made.j1]
     exact Ev.ite_neg (by simp) (Ev.ite_pos (by simp [a2, b0, c0]) (Ev.bind t1 (Ev.now _)))
    ·simp only [impl_DeskDo.j0]
     exact Ev.ite_neg (by simp) (Ev.ite_neg a0 (Ev.ite_neg a1 (Ev.ite_pos a2 (Ev.bind t2 (im_j1 now past _ o h24 hF hp (fun h => rowB_len (hr h)))))))
   ·refine ⟨[], false, nofun, nofun, fun _ => rfl, sp_none now a b c (by omega) (by omega) (by omega) c3, fun past hF hp _ => ?_⟩
    rw [ft]
    refine Ev.ite_neg c3 (Ev.ite_pos c0 (Ev.ite_pos a2 ?_))
    rw [show (b != 0) = true from bne_iff_ne.2 b0]
    exact jt past
  ·refine ⟨[], false, nofun, nofun, fun _ => rfl, sp_none now a b c (by omega) (by omega) (by omega) c3, fun past hF hp h4 => ?_⟩
   by_cases a4 : a = 4
   ·rw [ft]
    refine Ev.ite_neg c3 (Ev.ite_pos c0 (Ev.ite_neg a2 (Ev.ite_pos a4 ?_)))
    rw [show (b != 0) = true from bne_iff_ne.2 (fun hb => h4 ⟨a4, hb, c0⟩)]
    exact jt past
   ·refine tl past _ (by omega) (Ev.up ?_)
    simp only [impl_DeskDo.j0]
    exact Ev.ite_neg (by simp) (Ev.ite_neg a0 (Ev.ite_neg a1 (Ev.ite_neg a2 (Ev.ite_neg c3 (Ev.ite_neg a4 (im_j1 now past _ false h24 hF hp nofun))))))
 ·refine ⟨[], false, nofun, nofun, fun _ => rfl, sp_none now a b c (by omega) (by omega) (by omega) c3, fun past hF hp _ => ?_⟩
  rw [ft]
  exact Ev.ite_neg c3 (Ev.ite_neg c0 (jt past))

theorem deskB_full {now : List Int} {past : List (List Int)} (h : deskB now past = true) : Full past ∧ ∀ x ∈ past, rowB x = true := by
 obtain ⟨d1, d2, d3⟩ := deskB_len h
 refine ⟨⟨by omega, fun x hx => by have := d3 x hx; omega⟩, fun x hx => ?_⟩
 unfold deskB at h
 simp only [Bool.and_eq_true] at h
 obtain ⟨i, hi, rfl⟩ := List.mem_iff_getElem.1 hx
 have := allF_at _ _ _ h.1 i (by omega) (by omega)
 rwa [List.getD_eq_getElem?_getD, List.getElem?_eq_getElem hi] at this
theorem deskB_row {now : List Int} {past : List (List Int)} (h : deskB now past = true) : rowB now = true := by
 unfold deskB at h
 simp only [Bool.and_eq_true] at h
 exact h.2.1
theorem deskB_of {now : List Int} {past : List (List Int)} (h1 : rowB now = true) (h2 : past.length ≤ 8) (h3 : ∀ x ∈ past, rowB x = true) : deskB now past = true := by
 unfold deskB
 simp only [Bool.and_eq_true, decide_eq_true_eq]
 refine ⟨allF_of _ _ _ (fun j _ hj => ?_), h1, by omega⟩
 rw [List.getD_eq_getElem?_getD, List.getElem?_eq_getElem (by omega)]
 exact h3 _ (List.getElem_mem _)
theorem trimP_row {now : List Int} {past : List (List Int)} (h1 : rowB now = true) (h2 : past.length ≤ 8) (h3 : ∀ x ∈ past, rowB x = true) : (trimP past now).length ≤ 8 ∧ ∀ x ∈ trimP past now, rowB x = true := by
 have hm : ∀ x ∈ past ++ [now], rowB x = true := fun x hx => by
  rcases List.mem_append.1 hx with h | h
  ·exact h3 x h
  ·rw [List.mem_singleton.1 h]; exact h1
 unfold trimP
 by_cases c : ((past ++ [now]).length : Int) > 8
 ·rw [if_pos c]
  refine ⟨?_, fun x hx => hm x (List.mem_of_mem_drop hx)⟩
  rw [List.length_drop]
  simp only [List.length_append, List.length_cons, List.length_nil]
  omega
 ·rw [if_neg c]
  exact ⟨by omega, hm⟩
/-- DkBack, both ways. -/
theorem back_both (now : List Int) (past : List (List Int)) (h : deskB now past = true) (hp : 0 < past.length) : Ev (fun k => spec_DeskDo.f k now past 4 0 0) (past.getD (past.length - 1) [], past.take (past.length - 1), true) ∧ Ev (fun k => impl_DeskDo.f k now past 4 0 0) (past.getD (past.length - 1) [], past.take (past.length - 1), true) := by
 obtain ⟨d1, d2, d3⟩ := deskB_len h
 obtain ⟨hF, hr⟩ := deskB_full h
 have hl : ∀ x ∈ past, x.length ≤ 1000000000 := fun x hx => by have := d3 x hx; omega
 have eo := spec_desk now past (by omega) (by omega) hl
 have ei := impl_desk now past (by omega) (by omega) hl
 rw [h] at eo ei
 have ec := sp_copy now past (by omega) (by omega) (fun x hx => by have := d3 x hx; omega)
 have ek := im_copy now past (by omega) (by omega) hF
 constructor
 ·unfold spec_DeskDo.f
  refine Ev.bind eo (Ev.ite_pos rfl (Ev.bind ec (Ev.ite_pos rfl ?_)))
  rw [show (decide ((past.length : Int) > 0)) = true from decide_eq_true (by omega)]
  refine Ev.up ?_
  simp only [spec_DeskDo.j0]
  exact Ev.ite_pos trivial (Ev.ite_pos ⟨hp, by omega⟩ (Ev.now _))
 ·unfold impl_DeskDo.f
  refine Ev.bind ei (Ev.ite_pos rfl (Ev.bind ek (Ev.ite_neg (by omega) (Ev.ite_pos rfl (Ev.ite_neg (by omega) (Ev.ite_pos rfl (Ev.up ?_)))))))
  simp only [impl_DeskDo.j0]
  exact Ev.ite_neg (by simp) (Ev.ite_neg (by omega) (Ev.ite_neg (by omega) (Ev.ite_neg (by omega) (Ev.ite_neg (by omega) (Ev.ite_pos trivial (Ev.ite_neg (by omega) (Ev.ite_pos (by omega) (Ev.now _))))))))
/-- A deed, both ways: what it leaves. -/
structure Done (now : List Int) (past : List (List Int)) (a b c : Int) (r1 : List Int) (r2 : List (List Int)) (r3 : Bool) : Prop where
 spec : Ev (fun k => spec_DeskDo.f k now past a b c) (r1, r2, r3)
 impl : Ev (fun k => impl_DeskDo.f k now past a b c) (r1, r2, r3)
 bad : deskB now past = false → r1 = [] ∧ r2 = [] ∧ r3 = false
 not : deskB now past = true → r3 = false → r1 = now ∧ r2 = past
 ok : r3 = true → deskB now past = true ∧ deskB r1 r2 = true
 pushed : r3 = true → a ≠ 4 → r2 = trimP past now
 times : r3 = true → a = 0 → b = 1 → smallB now = true ∧ r1 = allI PT now ones
theorem do_both (now : List Int) (past : List (List Int)) (a b c : Int) (h1 : now.length ≤ 1000000) (h2 : past.length ≤ 1000000) (h3 : ∀ x ∈ past, x.length ≤ 1000000) : ∃ r1 r2 r3, Done now past a b c r1 r2 r3 := by
 have hl : ∀ x ∈ past, x.length ≤ 1000000000 := fun x hx => by have := h3 x hx; omega
 have eo := spec_desk now past (by omega) (by omega) hl
 have ei := impl_desk now past (by omega) (by omega) hl
 cases h : deskB now past with
 | false =>
  rw [h] at eo ei
  refine ⟨[], [], false, ?_, ?_, fun _ => ⟨rfl, rfl, rfl⟩, fun e => (by rw [h] at e; cases e), nofun, nofun, nofun⟩
  ·unfold spec_DeskDo.f
   exact Ev.bind eo (Ev.ite_neg (by simp) (Ev.now _))
  ·unfold impl_DeskDo.f
   exact Ev.bind ei (Ev.ite_neg (by simp) (Ev.now _))
 | true =>
  obtain ⟨d1, d2, d3⟩ := deskB_len h
  obtain ⟨hF, hr⟩ := deskB_full h
  have hrow := deskB_row h
  by_cases hb : (a = 4 ∧ b = 0 ∧ c = 0) ∧ 0 < past.length
  ·obtain ⟨⟨rfl, rfl, rfl⟩, hp⟩ := hb
   obtain ⟨e1, e2⟩ := back_both now past h hp
   refine ⟨_, _, _, e1, e2, fun e => (by rw [h] at e; cases e), nofun, fun _ => ⟨h, deskB_of (hr _ ?_) ?_ (fun x hx => hr x (List.mem_of_mem_take hx))⟩, fun _ h => absurd rfl h, fun _ h => by omega⟩
   ·rw [List.getD_eq_getElem?_getD, List.getElem?_eq_getElem (by omega)]
    exact List.getElem_mem _
   ·rw [List.length_take]; omega
  ·rw [h] at eo ei
   have ec := sp_copy now past (by omega) (by omega) h3
   have ek := im_copy now past (by omega) (by omega) hF
   obtain ⟨r, o, q1, q2, q3, q4, q5⟩ := made_both now a b c hrow
   have es : Ev (fun k => spec_DeskDo.f k now past a b c) (fin now past r o) := by
    have hj := sp_j0 now past a b c r o d1 d2 (fun e => rowB_len (q1 e)) q4
    unfold spec_DeskDo.f
    refine Ev.bind eo (Ev.ite_pos rfl (Ev.bind ec ?_))
    by_cases cb : (a == 4 && (b == 0 && (c == 0))) = true
    ·refine Ev.ite_pos cb ?_
     simp only [Bool.and_eq_true, beq_iff_eq] at cb
     rw [show (decide ((past.length : Int) > 0)) = false from decide_eq_false (fun hp => hb ⟨cb, by omega⟩)]
     exact hj
    ·exact Ev.ite_neg cb hj
   have em : Ev (fun k => impl_DeskDo.f k now past a b c) (fin now past r o) := by
    unfold impl_DeskDo.f
    refine Ev.bind ei (Ev.ite_pos rfl (Ev.bind ek ?_))
    by_cases c4 : a = 4 ∧ b = 0 ∧ c = 0
    ·have hp : past.length = 0 := by
      refine Nat.eq_zero_of_not_pos (fun hp => hb ⟨c4, hp⟩)
     obtain ⟨rfl, rfl, rfl⟩ := c4
     rw [show fin now past r o = (now, past, false) from if_neg (by rw [q3 rfl]; simp)]
     refine Ev.ite_neg (by omega) (Ev.ite_pos rfl (Ev.ite_neg (by omega) (Ev.ite_pos rfl (Ev.up ?_))))
     simp only [impl_DeskDo.j0]
     exact Ev.ite_neg (by simp) (Ev.ite_neg (by omega) (Ev.ite_neg (by omega) (Ev.ite_neg (by omega) (Ev.ite_neg (by omega) (Ev.ite_pos trivial (Ev.ite_pos hp (Ev.now _)))))))
    ·exact q5 past hF d2 c4
   by_cases cf : o = true ∧ r ≠ now
   ·rw [show fin now past r o = (r, trimP past now, true) from if_pos cf] at es em
    obtain ⟨t1, t2⟩ := trimP_row hrow d2 hr
    exact ⟨_, _, _, es, em, fun e => (by rw [h] at e; cases e), nofun, fun _ => ⟨h, deskB_of (q1 cf.1) t1 t2⟩, fun _ _ => rfl, fun _ => q2 cf.1⟩
   ·rw [show fin now past r o = (now, past, false) from if_neg cf] at es em
    exact ⟨_, _, _, es, em, fun e => (by rw [h] at e; cases e), fun _ _ => ⟨rfl, rfl⟩, nofun, nofun, nofun⟩
theorem sp_do (now : List Int) (past : List (List Int)) (a b c : Int) (hs : Sz now past) : ∃ r1 r2 r3, Sz r1 r2 ∧ (r3 = true → r1.length = 24) ∧ Ev (fun k => spec_DeskDo.f k now past a b c) (r1, r2, r3) := by
 obtain ⟨s1, s2, s3⟩ := hs
 obtain ⟨r1, r2, r3, d⟩ := do_both now past a b c (by omega) (by omega) (fun x hx => by have := s3 x hx; omega)
 refine ⟨r1, r2, r3, ?_, fun h => rowB_len (deskB_row (d.ok h).2), d.spec⟩
 cases r3 with
 | true =>
  obtain ⟨l1, l2, l3⟩ := deskB_len (d.ok rfl).2
  exact ⟨by omega, by omega, fun x hx => by have := l3 x hx; omega⟩
 | false =>
  cases h : deskB now past with
  | true =>
   obtain ⟨rfl, rfl⟩ := d.not h rfl
   exact ⟨s1, s2, s3⟩
  | false =>
   obtain ⟨rfl, rfl, _⟩ := d.bad h
   exact ⟨by simp, by simp, nofun⟩

theorem szIntSS_tot (l : List (List Int)) (hl : l.length ≤ 1048576) (hr : ∀ x ∈ l, x.length ≤ 9223372036854775807) : ∀ (r : List (List Int)) (i : Nat) (a : Int), l.drop i = r → i ≤ l.length → 0 ≤ a → a ≤ 1048576 → ∃ t, Ev (fun k => laws_szIntSS.l0 k l a (i : Int)) t ∧ (t < 0 ∨ ((totL r : Int) ≤ a ∧ t = a - totL r)) := by
 intro r
 induction r with
 | nil =>
  intro i a h hi h0 h1
  have : l.length ≤ i := List.drop_eq_nil_iff.1 h
  refine ⟨a, Ev.step (fun k => ?_) (Ev.now _), .inr ⟨by simp [totL]; omega, by simp [totL]⟩⟩
  simp only [laws_szIntSS.l0]
  rw [if_neg (by omega)]
 | cons x r ih =>
  intro i a h hi h0 h1
  obtain ⟨hlt, hx, hd⟩ := drop_at h
  have el : rd_L1 l (i : Int) = x := by
   unfold rd_L1
   rw [Int.toNat_natCast, List.getD_eq_getElem?_getD, hx]
   rfl
  have hxl := hr x (List.mem_of_getElem? hx)
  have hs := szIntS_eq x hxl h0 h1
  by_cases hc : a < (x.length : Int)
  ·rw [if_pos hc] at hs
   refine ⟨-1, Ev.step (fun k => ?_) (Ev.now _), .inl (by omega)⟩
   simp only [laws_szIntSS.l0, el, hs, Option.bind_some]
   rw [if_pos (by omega), if_pos (by omega), if_pos (by omega)]
  ·rw [if_neg hc] at hs
   obtain ⟨t, h2, h3⟩ := ih (i + 1) (a - (x.length : Int)) hd hlt (by omega) (by omega)
   refine ⟨t, Ev.step (fun k => ?_) h2, ?_⟩
   ·simp only [laws_szIntSS.l0, el, hs, Option.bind_some]
    rw [if_pos (by omega), if_pos (by omega), if_neg (by omega), w64 (by omega) (by omega)]
    rfl
   ·rcases h3 with h3 | h3
    ·exact .inl h3
    ·exact .inr ⟨by simp only [totL]; omega, by simp only [totL]; omega⟩
theorem szDesk_tot (a : List Int) (l : List (List Int)) (ha : a.length ≤ 9223372036854775807) (hl : l.length ≤ 9223372036854775807) (hr : ∀ x ∈ l, x.length ≤ 9223372036854775807) : ∃ t, Ev (fun k => laws_szDesk.f k a l 1048576) t ∧ (t < 0 ∨ (t ≤ 1048576 ∧ a.length + l.length + totL l ≤ 1048576)) := by
 have hs := szIntS_eq a ha (a := 1048576) (by omega) (by omega)
 unfold laws_szDesk.f
 by_cases hc : (1048576 : Int) < (a.length : Int)
 ·rw [if_pos hc] at hs
  exact ⟨-1, Ev.bindc hs (Ev.ite_pos (by omega) (Ev.now _)), .inl (by omega)⟩
 ·rw [if_neg hc] at hs
  by_cases hc2 : (1048576 : Int) - (a.length : Int) < (l.length : Int)
  ·have h2 : Ev (fun k => laws_szIntSS.f k l (1048576 - (a.length : Int))) (-1) := by
    unfold laws_szIntSS.f
    rw [w64 (by omega) (by omega)]
    exact Ev.ite_pos (by omega) (Ev.now _)
   exact ⟨-1, Ev.bindc hs (Ev.ite_neg (by omega) (Ev.bind h2 (Ev.ite_pos (by omega) (Ev.now _)))), .inl (by omega)⟩
  ·obtain ⟨t, h3, h4⟩ := szIntSS_tot l (by omega) hr l 0 (1048576 - (a.length : Int) - (l.length : Int)) rfl (by omega) (by omega) (by omega)
   have h2 : Ev (fun k => laws_szIntSS.f k l (1048576 - (a.length : Int))) t := by
    unfold laws_szIntSS.f
    rw [w64 (by omega) (by omega)]
    exact Ev.ite_neg (by omega) h3
   by_cases ht : t < 0
   ·exact ⟨-1, Ev.bindc hs (Ev.ite_neg (by omega) (Ev.bind h2 (Ev.ite_pos ht (Ev.now _)))), .inl (by omega)⟩
   ·refine ⟨t, Ev.bindc hs (Ev.ite_neg (by omega) (Ev.bind h2 (Ev.ite_neg ht (Ev.now _)))), ?_⟩
    rcases h4 with h4 | h4
    ·exact .inl h4
    ·exact .inr ⟨by omega, by omega⟩
theorem totL_row : ∀ (l : List (List Int)) (x : List Int), x ∈ l → x.length ≤ totL l
 | [], _, h => by cases h
 | y :: r, x, h => by
  simp only [totL]
  rcases List.mem_cons.1 h with rfl | h
  ·omega
  ·have := totL_row r x h; omega
theorem totL_le (b : Nat) : ∀ (l : List (List Int)), (∀ x ∈ l, x.length ≤ b) → totL l ≤ l.length * b
 | [], _ => by simp [totL]
 | y :: r, h => by
  have h1 := totL_le b r (fun x hx => h x (List.mem_cons_of_mem _ hx))
  have h2 := h y (List.mem_cons_self ..)
  simp only [totL, List.length_cons, Nat.add_mul, Nat.one_mul]
  omega
/-- A desk's size, and that it is small. -/
def szD (a : List Int) (l : List (List Int)) : Nat := a.length + l.length + totL l
theorem szD_row {a : List Int} {l : List (List Int)} {b : Nat} (h : szD a l ≤ b) : a.length ≤ b ∧ l.length ≤ b ∧ totL l ≤ b ∧ ∀ x ∈ l, x.length ≤ b := by
 unfold szD at h
 exact ⟨by omega, by omega, by omega, fun x hx => by have := totL_row l x hx; omega⟩
theorem eqDesk_f (a : List Int) (l : List (List Int)) (h : szD a l ≤ 1048576) : Ev (fun k => laws_eqDesk.f k a l a l) true := by
 obtain ⟨h1, h2, h3, h4⟩ := szD_row h
 unfold laws_eqDesk.f
 exact Ev.bind (eqIntS_f a (by omega)) (Ev.ite_pos rfl (Ev.bind (eqIntSS_f l (by omega) (fun x hx => by have := h4 x hx; omega)) (Ev.ite_pos rfl (Ev.now _))))
theorem toDesk_s (a : List Int) (l : List (List Int)) (h : szD a l ≤ 1048576) : Ev (fun k => laws_toDesk.f k a l) (a, l) := by
 obtain ⟨h1, h2, h3, h4⟩ := szD_row h
 exact toDesk_f a l (by omega) (by omega) (fun x hx => by have := h4 x hx; omega)
theorem markDesk_f (a : List Int) (l : List (List Int)) (h : szD a l ≤ 1048576) {n : Int} (h0 : 0 ≤ n) (hn : n ≤ 100000000) : Ev (fun k => laws_markDesk.f k a l n) (n + (a.length : Int) + (totL l : Int), mkI n a, mkII (n + (a.length : Int)) l) := by
 obtain ⟨h1, h2, h3, h4⟩ := szD_row h
 unfold laws_markDesk.f
 exact Ev.bind (markI a (by omega) h0 (by omega)) (Ev.bind (markII l (by omega) (n := n + (a.length : Int)) (by omega) (by omega)) (Ev.now _))
theorem heldDesk_f (a : List Int) (l : List (List Int)) (h : szD a l ≤ 1048576) {n : Int} (h0 : 0 ≤ n) (hn : n ≤ 100000000) : Ev (fun k => laws_heldDesk.f k (mkI n a) (mkII (n + (a.length : Int)) l) n) (n + (a.length : Int) + (totL l : Int)) := by
 obtain ⟨h1, h2, h3, h4⟩ := szD_row h
 unfold laws_heldDesk.f
 exact Ev.bind (heldI a (by omega) h0 (by omega)) (Ev.ite_neg (by omega) (Ev.bind (heldII l (by omega) (n := n + (a.length : Int)) (by omega) (by omega)) (Ev.ite_neg (by omega) (Ev.now _))))
theorem deskB_sz {a : List Int} {l : List (List Int)} (h : deskB a l = true) : szD a l ≤ 1000 := by
 obtain ⟨d1, d2, d3⟩ := deskB_len h
 have := totL_le 24 l (fun x hx => by have := d3 x hx; omega)
 unfold szD
 omega
/-- A deed, both ways, of any desk that is not too big. -/
theorem do_any (a : List Int) (l : List (List Int)) (x y z : Int) (h : szD a l ≤ 1048576) : ∃ r1 r2 r3, szD r1 r2 ≤ 1048576 ∧ Ev (fun k => spec_DeskDo.f k a l x y z) (r1, r2, r3) ∧ Ev (fun k => impl_DeskDo.f k a l x y z) (r1, r2, r3) := by
 obtain ⟨h1, h2, h3, h4⟩ := szD_row h
 cases hb : deskB a l with
 | false =>
  have hl : ∀ x ∈ l, x.length ≤ 1000000000 := fun x hx => by have := h4 x hx; omega
  have eo := spec_desk a l (by omega) (by omega) hl
  have ei := impl_desk a l (by omega) (by omega) hl
  rw [hb] at eo ei
  refine ⟨[], [], false, by simp [szD, totL], ?_, ?_⟩
  ·unfold spec_DeskDo.f
   exact Ev.bind eo (Ev.ite_neg (by simp) (Ev.now _))
  ·unfold impl_DeskDo.f
   exact Ev.bind ei (Ev.ite_neg (by simp) (Ev.now _))
 | true =>
  have hs := deskB_sz hb
  obtain ⟨g1, g2, g3, g4⟩ := szD_row hs
  obtain ⟨r1, r2, r3, dn⟩ := do_both a l x y z (by omega) (by omega) (fun x hx => by have := g4 x hx; omega)
  refine ⟨r1, r2, r3, ?_, dn.spec, dn.impl⟩
  cases r3 with
  | true => have := deskB_sz (dn.ok rfl).2; omega
  | false => obtain ⟨rfl, rfl⟩ := dn.not hb rfl; exact h

/-- Deeds done one after the other: from a desk and a count to a desk and a count. -/
def RunR : List S28 → List Int → List (List Int) → Nat → List Int → List (List Int) → Nat → Prop
 | [], n, p, m, n', p', m' => n' = n ∧ p' = p ∧ m' = m
 | x :: l, n, p, m, n', p', m' => ∃ r1 r2 r3, Done n p x.f0 x.f1 x.f2 r1 r2 r3 ∧ (if r3 = true then RunR l r1 r2 (m + 1) n' p' m' else RunR l n p m n' p' m')
theorem Done.small {now past a b c r1 r2 r3} (d : Done now past a b c r1 r2 r3) (h1 : now.length ≤ 1000000) (h2 : past.length ≤ 1000000) (h3 : ∀ x ∈ past, x.length ≤ 1000000) : r1.length ≤ 1000000 ∧ r2.length ≤ 1000000 ∧ ∀ x ∈ r2, x.length ≤ 1000000 := by
 cases r3 with
 | true =>
  obtain ⟨k1, k2, k3⟩ := deskB_len (d.ok rfl).2
  exact ⟨by omega, by omega, fun x hx => by have := k3 x hx; omega⟩
 | false =>
  cases hb : deskB now past with
  | true => obtain ⟨rfl, rfl⟩ := d.not hb rfl; exact ⟨h1, h2, h3⟩
  | false => obtain ⟨rfl, rfl, _⟩ := d.bad hb; exact ⟨by simp, by simp, nofun⟩
theorem run_ex : ∀ (l : List S28) (n : List Int) (p : List (List Int)) (m : Nat), deskB n p = true → ∃ n' p' m', RunR l n p m n' p' m' ∧ deskB n' p' = true ∧ m' ≤ m + l.length
 | [], n, p, m, h => ⟨n, p, m, ⟨rfl, rfl, rfl⟩, h, by simp⟩
 | x :: l, n, p, m, h => by
  obtain ⟨d1, d2, d3⟩ := deskB_len h
  obtain ⟨r1, r2, r3, d⟩ := do_both n p x.f0 x.f1 x.f2 (by omega) (by omega) (fun y hy => by have := d3 y hy; omega)
  cases r3 with
  | true =>
   obtain ⟨n', p', m', e1, e2, e3⟩ := run_ex l r1 r2 (m + 1) (d.ok rfl).2
   exact ⟨n', p', m', ⟨r1, r2, true, d, by rw [if_pos rfl]; exact e1⟩, e2, by rw [List.length_cons]; omega⟩
  | false =>
   obtain ⟨n', p', m', e1, e2, e3⟩ := run_ex l n p m h
   exact ⟨n', p', m', ⟨r1, r2, false, d, by rw [if_neg (by simp)]; exact e1⟩, e2, by rw [List.length_cons]; omega⟩
theorem run_same : ∀ (l : List S28) (n : List Int) (p : List (List Int)) (m : Nat) {a a' : List Int} {b b' : List (List Int)} {c c' : Nat}, RunR l n p m a b c → RunR l n p m a' b' c' → a' = a ∧ b' = b ∧ c' = c
 | [], n, p, m, a, a', b, b', c, c', h1, h2 => by
  obtain ⟨rfl, rfl, rfl⟩ := h1
  exact h2
 | x :: l, n, p, m, a, a', b, b', c, c', h1, h2 => by
  obtain ⟨r1, r2, r3, d, e⟩ := h1
  obtain ⟨q1, q2, q3, d', e'⟩ := h2
  have hs := Ev.same d.impl d'.impl
  simp only [Prod.mk.injEq] at hs
  obtain ⟨rfl, rfl, rfl⟩ := hs
  cases r3 with
  | true =>
   rw [if_pos rfl] at e e'
   exact run_same l r1 r2 (m + 1) e e'
  | false =>
   rw [if_neg (by simp)] at e e'
   exact run_same l n p m e e'
theorem run_append : ∀ (l1 l2 : List S28) (n : List Int) (p : List (List Int)) (m : Nat) {a a' : List Int} {b b' : List (List Int)} {c c' : Nat}, RunR l1 n p m a b c → RunR l2 a b c a' b' c' → RunR (l1 ++ l2) n p m a' b' c'
 | [], l2, n, p, m, a, a', b, b', c, c', h1, h2 => by
  obtain ⟨rfl, rfl, rfl⟩ := h1
  exact h2
 | x :: l, l2, n, p, m, a, a', b, b', c, c', h1, h2 => by
  obtain ⟨r1, r2, r3, d, e⟩ := h1
  refine ⟨r1, r2, r3, d, ?_⟩
  cases r3 with
  | true =>
   rw [if_pos rfl] at e ⊢
   exact run_append l l2 r1 r2 (m + 1) e h2
  | false =>
   rw [if_neg (by simp)] at e ⊢
   exact run_append l l2 n p m e h2
theorem run_shift : ∀ (l : List S28) (n : List Int) (p : List (List Int)) (m j : Nat) {a : List Int} {b : List (List Int)} {c : Nat}, RunR l n p m a b c → RunR l n p (m + j) a b (c + j)
 | [], n, p, m, j, a, b, c, h => by
  obtain ⟨rfl, rfl, rfl⟩ := h
  exact ⟨rfl, rfl, rfl⟩
 | x :: l, n, p, m, j, a, b, c, h => by
  obtain ⟨r1, r2, r3, d, e⟩ := h
  refine ⟨r1, r2, r3, d, ?_⟩
  cases r3 with
  | true =>
   rw [if_pos rfl] at e ⊢
   have := run_shift l r1 r2 (m + 1) j e
   rwa [show m + 1 + j = m + j + 1 by omega] at this
  | false =>
   rw [if_neg (by simp)] at e ⊢
   exact run_shift l n p m j e
theorem drop_deed {l : List S28} {i : Nat} (h : i < l.length) : l.drop i = rd_T28 l (i : Int) :: l.drop (i + 1) := by
 rw [List.drop_eq_getElem_cons h]
 unfold rd_T28
 rw [Int.toNat_natCast, List.getD_eq_getElem?_getD, List.getElem?_eq_getElem h]
 rfl
theorem run_sp (list : List S28) (hl : list.length ≤ 1000) : ∀ (f i : Nat), i + f = list.length → ∀ (n : List Int) (p : List (List Int)) (m : Nat) (n' : List Int) (p' : List (List Int)) (m' : Nat), m ≤ i → RunR (list.drop i) n p m n' p' m' → Ev (fun k => spec_DeskRun.l0 k list (m : Int) (i : Int) n p) (n', p', (m' : Int)) := by
 intro f
 induction f with
 | zero =>
  intro i hi n p m n' p' m' hm h
  rw [List.drop_eq_nil_of_le (by omega)] at h
  obtain ⟨rfl, rfl, rfl⟩ := h
  refine Ev.up ?_
  simp only [spec_DeskRun.l0]
  exact Ev.ite_neg (by omega) (Ev.now _)
 | succ f ih =>
  intro i hi n p m n' p' m' hm h
  rw [drop_deed (by omega)] at h
  obtain ⟨r1, r2, r3, d, e⟩ := h
  have e1 : wrap64 ((i : Int) + 1) = ((i + 1 : Nat) : Int) := w64 (by omega) (by omega)
  have e2 : wrap64 ((m : Int) + 1) = ((m + 1 : Nat) : Int) := w64 (by omega) (by omega)
  refine Ev.up ?_
  simp only [spec_DeskRun.l0, e1, e2]
  clear e1 e2
  refine Ev.ite_pos (by omega) (Ev.ite_pos (by omega) (Ev.bind d.spec ?_))
  cases r3 with
  | true =>
   rw [if_pos rfl] at e
   exact Ev.ite_pos rfl (ih (i + 1) (by omega) r1 r2 (m + 1) n' p' m' (by omega) e)
  | false =>
   rw [if_neg (by simp)] at e
   exact Ev.ite_neg (by simp) (ih (i + 1) (by omega) n p m n' p' m' (by omega) e)
theorem run_im (list : List S28) (hl : list.length ≤ 1000) : ∀ (f i : Nat), i + f = list.length → ∀ (n : List Int) (p : List (List Int)) (m : Nat) (n' : List Int) (p' : List (List Int)) (m' : Nat), m ≤ i → RunR (list.drop i) n p m n' p' m' → Ev (fun k => impl_DeskRun.l0 k (m : Int) list (list.length : Int) (i : Int) n p) (n', p', (m' : Int)) := by
 intro f
 induction f with
 | zero =>
  intro i hi n p m n' p' m' hm h
  rw [List.drop_eq_nil_of_le (by omega)] at h
  obtain ⟨rfl, rfl, rfl⟩ := h
  refine Ev.up ?_
  simp only [impl_DeskRun.l0]
  exact Ev.ite_neg (by omega) (Ev.now _)
 | succ f ih =>
  intro i hi n p m n' p' m' hm h
  rw [drop_deed (by omega)] at h
  obtain ⟨r1, r2, r3, d, e⟩ := h
  have e1 : wrap64 ((i : Int) + 1) = ((i + 1 : Nat) : Int) := w64 (by omega) (by omega)
  have e2 : wrap64 ((m : Int) + 1) = ((m + 1 : Nat) : Int) := w64 (by omega) (by omega)
  refine Ev.up ?_
  simp only [impl_DeskRun.l0, e1, e2]
  clear e1 e2
  refine Ev.ite_pos (by omega) (Ev.ite_pos (by omega) (Ev.ite_pos (by omega) (Ev.bind d.impl ?_)))
  cases r3 with
  | true =>
   rw [if_pos rfl] at e
   exact Ev.ite_pos rfl (ih (i + 1) (by omega) r1 r2 (m + 1) n' p' m' (by omega) e)
  | false =>
   rw [if_neg (by simp)] at e
   exact Ev.ite_neg (by simp) (ih (i + 1) (by omega) n p m n' p' m' (by omega) e)
/-- Runs of deeds, both ways, where they are told. -/
theorem run_both (now : List Int) (past : List (List Int)) (list : List S28) (h : deskB now past = true) (hl : list.length ≤ 40) {n' : List Int} {p' : List (List Int)} {m' : Nat} (hr : RunR list now past 0 n' p' m') : Ev (fun k => spec_DeskRun.f k now past list) (n', p', (m' : Int)) ∧ Ev (fun k => impl_DeskRun.f k now past list) (n', p', (m' : Int)) := by
 obtain ⟨d1, d2, d3⟩ := deskB_len h
 obtain ⟨hF, _⟩ := deskB_full h
 have g : ∀ x ∈ past, x.length ≤ 1000000000 := fun x hx => by have := d3 x hx; omega
 have eo := spec_desk now past (by omega) (by omega) g
 have ei := impl_desk now past (by omega) (by omega) g
 rw [h] at eo ei
 have ec := sp_copy now past (by omega) (by omega) (fun x hx => by have := d3 x hx; omega)
 have ek := im_copy now past (by omega) (by omega) hF
 have e1 := run_sp list (by omega) list.length 0 (by omega) now past 0 n' p' m' (by omega) hr
 have e2 := run_im list (by omega) list.length 0 (by omega) now past 0 n' p' m' (by omega) hr
 have c40 : decide ((list.length : Int) > 40) = false := decide_eq_false (by omega)
 constructor
 ·unfold spec_DeskRun.f
  refine Ev.bind eo (Ev.ite_pos rfl ?_)
  rw [c40]
  refine Ev.up ?_
  simp only [spec_DeskRun.j0]
  exact Ev.ite_neg (by simp) (Ev.bind ec e1)
 ·unfold impl_DeskRun.f
  refine Ev.bind ei (Ev.ite_pos rfl ?_)
  rw [c40]
  refine Ev.up ?_
  simp only [impl_DeskRun.j0]
  exact Ev.ite_neg (by simp) (Ev.bind ek e2)
theorem run_none (now : List Int) (past : List (List Int)) (list : List S28) (h1 : now.length ≤ 1000000) (h2 : past.length ≤ 1000000) (h3 : ∀ x ∈ past, x.length ≤ 1000000) (h : ¬ (deskB now past = true ∧ list.length ≤ 40)) : Ev (fun k => spec_DeskRun.f k now past list) ([], [], 0) ∧ Ev (fun k => impl_DeskRun.f k now past list) ([], [], 0) := by
 have g : ∀ x ∈ past, x.length ≤ 1000000000 := fun x hx => by have := h3 x hx; omega
 have eo := spec_desk now past (by omega) (by omega) g
 have ei := impl_desk now past (by omega) (by omega) g
 have s0 : Ev (fun k => spec_DeskRun.j0 k list true now past) ([], [], 0) := by
  refine Ev.up ?_
  simp only [spec_DeskRun.j0]
  exact Ev.ite_pos trivial (Ev.now _)
 have i0 : Ev (fun k => impl_DeskRun.j0 k list true now past) ([], [], 0) := by
  refine Ev.up ?_
  simp only [impl_DeskRun.j0]
  exact Ev.ite_pos trivial (Ev.now _)
 unfold spec_DeskRun.f impl_DeskRun.f
 cases hb : deskB now past with
 | false =>
  rw [hb] at eo ei
  exact ⟨Ev.bind eo (Ev.ite_neg (by simp) s0), Ev.bind ei (Ev.ite_neg (by simp) i0)⟩
 | true =>
  rw [hb] at eo ei
  have c40 : decide ((list.length : Int) > 40) = true := decide_eq_true (by
   have : ¬ list.length ≤ 40 := fun e => h ⟨hb, e⟩
   omega)
  refine ⟨Ev.bind eo (Ev.ite_pos rfl ?_), Ev.bind ei (Ev.ite_pos rfl ?_)⟩
  ·rw [c40]; exact s0
  ·rw [c40]; exact i0

def cvD (x : S42) : S28 := ⟨x.f0, x.f1, x.f2⟩
theorem rd_atL {l : List S42} {i : Nat} {d : S42} (h : l[i]? = some d) : rd_T42 l (i : Int) = d := by
 unfold rd_T42
 simp [List.getD, h]
theorem toDeedsL (l : List S42) (hl : l.length ≤ 1048576) : ∀ (d i : Nat), i + d = l.length → Ev (fun k => laws_toDeedS.l0 k l ((l.take i).map cvD ++ List.replicate d z28) (i : Int)) (l.map cvD) := by
 intro d
 induction d with
 | zero =>
  intro i h
  refine Ev.step (f := fun _ => some (l.map cvD)) (fun k => ?_) (Ev.now _)
  simp only [laws_toDeedS.l0]
  rw [if_neg (by omega), List.take_of_length_le (by omega)]
  simp
 | succ d ih =>
  intro i h
  obtain ⟨x, hx⟩ : ∃ x, l[i]? = some x := ⟨l[i]'(by omega), List.getElem?_eq_getElem (by omega)⟩
  refine Ev.step (fun k => ?_) (ih (i + 1) (by omega))
  simp only [laws_toDeedS.l0, laws_toDeed.f, Option.bind_some]
  have hlen : ((l.take i).map cvD ++ List.replicate (d + 1) z28).length = l.length := by simp; omega
  rw [if_pos (by omega), if_pos (by omega), if_pos (by rw [hlen]; omega), rd_atL hx, w64 (by omega) (by omega)]
  have e : ((l.take i).map cvD ++ List.replicate (d + 1) z28).set ((i : Int)).toNat ⟨x.f0, x.f1, x.f2⟩ = (l.take (i + 1)).map cvD ++ List.replicate d z28 := by
   have hi : (i : Int).toNat = i := by omega
   rw [hi, List.take_add_one, hx, List.set_append_right _ _ (by simp; omega)]
   have : i - ((l.take i).map cvD).length = 0 := by simp; omega
   rw [this, List.replicate_succ]
   simp [cvD]
  rw [e]
  rfl
theorem toDeeds (l : List S42) (hl : l.length ≤ 1048576) : Ev (fun k => laws_toDeedS.f k l) (l.map cvD) := by
 unfold laws_toDeedS.f
 have h := toDeedsL l hl l.length 0 (by omega)
 simp only [List.take_zero, List.map_nil, List.nil_append] at h
 refine Ev.ite_pos (by omega) (Ev.ite_pos (by omega) ?_)
 have e : ((l.length : Int)).toNat = l.length := by omega
 rw [e]
 exact h

theorem eqDeedsL (l : List S28) (hl : l.length ≤ 9223372036854775806) : ∀ (d i : Nat), i + d = l.length → Ev (fun k => laws_eqDeedS.l0 k l l (i : Int)) true := by
 intro d
 induction d with
 | zero =>
  intro i h
  refine Ev.step (f := fun _ => some true) (fun k => ?_) (Ev.now _)
  simp only [laws_eqDeedS.l0]
  rw [if_neg (by omega)]
 | succ d ih =>
  intro i h
  refine Ev.step (fun k => ?_) (ih (i + 1) (by omega))
  simp only [laws_eqDeedS.l0, laws_eqDeed.f]
  rw [if_pos (by omega), if_pos (by omega), if_pos (by omega), w64 (by omega) (by omega)]
  simp only [if_true, Option.bind_some]
  rfl
theorem eqDeeds (l : List S28) (hl : l.length ≤ 9223372036854775806) : Ev (fun k => laws_eqDeedS.f k l l) true := by
 unfold laws_eqDeedS.f
 exact Ev.ite_pos rfl (eqDeedsL l hl l.length 0 (by omega))

def mkL (n : Int) : List S28 → List S28
 | [] => []
 | _ :: r => ⟨n, n + 1, n + 2⟩ :: mkL (n + 3) r
theorem markL (L : Nat) (hl : L ≤ 100000000) : ∀ (r : List S28) (i : Nat) (n : Int) (pre : List S28), pre.length = i → pre.length + r.length = L → 0 ≤ n → n + 3 * r.length ≤ 1000000000000 →
  Ev (fun k => laws_markDeedS.l0 k (pre ++ r) n (i : Int)) (n + 3 * r.length, pre ++ mkL n r) := by
 intro r
 induction r with
 | nil =>
  intro i n pre hp hl2 h0 h1
  refine Ev.step (f := fun _ => some (n + 3 * (([] : List S28).length : Int), pre ++ mkL n [])) (fun k => ?_) (Ev.now _)
  simp only [laws_markDeedS.l0]
  rw [if_neg (by simp; omega)]
  simp [mkL]
 | cons d r ih =>
  intro i n pre hp hl2 h0 h1
  simp only [List.length_cons] at hl2 h1
  have h := ih (i + 1) (n + 3) (pre ++ [⟨n, n + 1, n + 2⟩]) (by simp; omega) (by simp; omega) (by omega) (by omega)
  have e1 : (pre ++ [(⟨n, n + 1, n + 2⟩ : S28)]) ++ mkL (n + 3) r = pre ++ mkL n (d :: r) := by rw [mkL]; simp
  have e2 : n + 3 + 3 * (r.length : Int) = n + 3 * ((d :: r).length : Int) := by simp; omega
  rw [e1, e2] at h
  refine Ev.step (fun k => ?_) h
  simp only [laws_markDeedS.l0, Option.bind_some]
  have hi : (i : Int).toNat = pre.length := by omega
  have hset : ∀ x y : S28, (pre ++ x :: r).set pre.length y = pre ++ y :: r := fun x y => by rw [List.set_append_right _ _ (Nat.le_refl _)]; simp
  have hrd : ∀ x : S28, rd_T28 (pre ++ x :: r) (i : Int) = x := fun x => by unfold rd_T28; rw [hi]; simp [List.getD]
  rw [if_pos (by simp; omega), if_pos (by omega), hi]
  simp only [hset, hrd]
  rw [w64 (n := n + 1) (by omega) (by omega), w64 (n := n + 1 + 1) (by omega) (by omega), w64 (n := n + 1 + 1 + 1) (by omega) (by omega), w64 (by omega) (by omega)]
  rw [show n + 1 + 1 + 1 = n + 3 by omega, show n + 1 + 1 = n + 2 by omega]
  simp
theorem markDeeds (l : List S28) (hl : l.length ≤ 1048576) {n : Int} (h0 : 0 ≤ n) (h1 : n ≤ 10000000) : Ev (fun k => laws_markDeedS.f k l n) (n + 3 * (l.length : Int), mkL n l) := by
 unfold laws_markDeedS.f
 have h := markL l.length (by omega) l 0 n [] rfl (by simp) h0 (by omega)
 simpa using h
theorem run_any (a : List Int) (l : List (List Int)) (ds : List S28) (h : szD a l ≤ 1048576) : ∃ r1 r2 r3, szD r1 r2 ≤ 1048576 ∧ Ev (fun k => spec_DeskRun.f k a l ds) (r1, r2, r3) ∧ Ev (fun k => impl_DeskRun.f k a l ds) (r1, r2, r3) := by
 obtain ⟨h1, h2, h3, h4⟩ := szD_row h
 cases hb : deskB a l with
 | false =>
  have hl : ∀ x ∈ l, x.length ≤ 1000000000 := fun x hx => by have := h4 x hx; omega
  have eo := spec_desk a l (by omega) (by omega) hl
  have ei := impl_desk a l (by omega) (by omega) hl
  rw [hb] at eo ei
  have s0 : Ev (fun k => spec_DeskRun.j0 k ds true a l) ([], [], 0) := by
   refine Ev.up ?_
   simp only [spec_DeskRun.j0]
   exact Ev.ite_pos trivial (Ev.now _)
  have i0 : Ev (fun k => impl_DeskRun.j0 k ds true a l) ([], [], 0) := by
   refine Ev.up ?_
   simp only [impl_DeskRun.j0]
   exact Ev.ite_pos trivial (Ev.now _)
  refine ⟨[], [], 0, by simp [szD, totL], ?_, ?_⟩
  ·unfold spec_DeskRun.f
   exact Ev.bind eo (Ev.ite_neg (by simp) s0)
  ·unfold impl_DeskRun.f
   exact Ev.bind ei (Ev.ite_neg (by simp) i0)
 | true =>
  have hs := deskB_sz hb
  obtain ⟨g1, g2, g3, g4⟩ := szD_row hs
  have g5 : ∀ x ∈ l, x.length ≤ 1000000 := fun x hx => by have := g4 x hx; omega
  by_cases hd : ds.length ≤ 40
  ·obtain ⟨n', p', m', e1, e2, e3⟩ := run_ex ds a l 0 hb
   obtain ⟨q1, q2⟩ := run_both a l ds hb hd e1
   exact ⟨n', p', m', by have := deskB_sz e2; omega, q1, q2⟩
  ·obtain ⟨q1, q2⟩ := run_none a l ds (by omega) (by omega) g5 (fun e => hd e.2)
   exact ⟨[], [], 0, by simp [szD, totL], q1, q2⟩
theorem FnExactDeskRun : ∀ (a : List Int) (l : List (List Int)) (ds : List S42), a.length ≤ 9223372036854775807 → l.length ≤ 9223372036854775807 → (∀ x ∈ l, x.length ≤ 9223372036854775807) → ds.length ≤ 9223372036854775807 → ∃ k, laws_FnExactDeskRun.f k a l ds = some true := by
 intro a l ds ha hl hr hds
 refine Ev.rounds ?_
 unfold laws_FnExactDeskRun.f
 obtain ⟨t, h1, h2⟩ := szDesk_tot a l ha hl hr
 refine Ev.bind h1 ?_
 by_cases ht : t < 0
 ·exact Ev.ite_pos ht (Ev.now _)
 refine Ev.ite_neg ht ?_
 have hs : szD a l ≤ 1048576 := (h2.resolve_left ht).2
 have htl : t ≤ 1048576 := (h2.resolve_left ht).1
 have sd : laws_szDeedS.f ds t = some (if t < (ds.length : Int) then -1 else t - ds.length) := by
  unfold laws_szDeedS.f
  rw [w64 (by omega) (by omega)]
  by_cases hc : t < (ds.length : Int)
  ·rw [if_pos (by omega), if_pos hc]
  ·rw [if_neg (by omega), if_neg hc]
 refine Ev.bindc sd ?_
 by_cases hc : t < (ds.length : Int)
 ·rw [if_pos hc]
  exact Ev.ite_pos (by omega) (Ev.now _)
 rw [if_neg hc]
 refine Ev.ite_neg (by omega) ?_
 have hdl : ds.length ≤ 1048576 := by omega
 have td := toDesk_s a l hs
 have tl := toDeeds ds hdl
 have eql := eqDeeds (ds.map cvD) (by rw [List.length_map]; omega)
 obtain ⟨r1, r2, r3, hz, es, ei⟩ := run_any a l (ds.map cvD) hs
 have er := eqDesk_f r1 r2 hz
 have ea := eqDesk_f a l hs
 obtain ⟨g1, g2, g3, g4⟩ := szD_row hs
 have mk := markDesk_f a l hs (n := 1) (by omega) (by omega)
 have mk2 := markDesk_f r1 r2 hz (n := 1) (by omega) (by omega)
 have hd := heldDesk_f r1 r2 hz (n := 1) (by omega) (by omega)
 have md := markDeeds (ds.map cvD) (by rw [List.length_map]; omega) (n := 1 + (a.length : Int) + (totL l : Int)) (by omega) (by omega)
 refine Ev.bind td (Ev.bind tl (Ev.bind es (Ev.bind td (Ev.bind tl (Ev.bind ei (Ev.bind er (Ev.ite_pos rfl ?_)))))))
 rw [show (r3 != r3) = false from bne_self_eq_false ..]
 refine Ev.up ?_
 simp only [laws_FnExactDeskRun.j0]
 refine Ev.ite_neg (by simp) (Ev.bind td (Ev.bind ea (Ev.ite_pos rfl (Ev.bind tl (Ev.bind eql (Ev.ite_pos rfl (Ev.bind mk (Ev.bind md (Ev.ite_neg (by omega) (Ev.bind er (Ev.ite_pos rfl ?_)))))))))))
 rw [show (r3 != r3) = false from bne_self_eq_false ..]
 refine Ev.up ?_
 simp only [laws_FnExactDeskRun.j1]
 refine Ev.ite_neg (by simp) (Ev.bind mk2 (Ev.bind hd (Ev.ite_neg (by omega) (Ev.ite_pos rfl (Ev.bind td (Ev.bind tl (Ev.bind ei (Ev.bind er (Ev.ite_pos rfl ?_)))))))))
 rw [show (r3 != r3) = false from bne_self_eq_false ..]
 refine Ev.up ?_
 simp only [laws_FnExactDeskRun.j2]
 exact Ev.ite_neg (by simp) (Ev.bind hd (Ev.ite_neg (by omega) (Ev.ite_pos rfl (Ev.now _))))

end Go.Proofs.Ytmgjidgfhlclmaa.Pure
