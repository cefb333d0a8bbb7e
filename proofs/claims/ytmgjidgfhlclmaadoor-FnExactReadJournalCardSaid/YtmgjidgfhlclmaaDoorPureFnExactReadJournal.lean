/-
  For every text the program's ReadJournal and the reference's answer the same, and the rows handed back are their own.
-/
import Derived.Test.YtmgjidgfhlclmaaDoorPFnExactReadJournalx9
import Derived.Test.YtmgjidgfhlclmaaDoorLib
import Derived.Test.YtmgjidgfhlclmaaDoorLibTxt
import Derived.Test.YtmgjidgfhlclmaaDoorLibRd
namespace Go.Proofs.YtmgjidgfhlclmaaDoor.Pure
open Go.RowKit Go.Proofs.YtmgjidgfhlclmaaDoor.PFnExactReadJournal Go.Proofs.YtmgjidgfhlclmaaDoorW.PrintWords Go.Proofs.YtmgjidgfhlclmaaDoorW.PrintLast Go.Proofs.YtmgjidgfhlclmaaDoorW.PrintMore Go.Proofs.YtmgjidgfhlclmaaDoor.Lib
set_option linter.unusedVariables false
set_option linter.unusedSimpArgs false

theorem itoa_eq (n : Int) (h0 : 0 ≤ n) (h1 : n ≤ 100000) : strconv_Itoa.f n = some (digB n) := by
  unfold strconv_Itoa.f; rw [if_pos (by omega), if_pos (by omega)]; rfl
theorem impl_j1 (b : Bool) (a x y : Int) (hb : b = decide (¬ (y = 0 ∧ 0 ≤ x ∧ x ≤ 9))) (h3 : ¬ (a = 3 ∧ 0 ≤ x ∧ x ≤ 99 ∧ 0 ≤ y ∧ y ≤ 9999)) : Ev (fun k => impl_DeedText.j1 k b a x y) (dText a x y) := by
  cases b with
  | true =>
    have hb := of_decide_eq_true hb.symm
    refine Ev.step (f := fun _ => some (dText a x y)) (fun k => ?_) (Ev.now _)
    simp only [impl_DeedText.j1]
    unfold dText
    rw [if_pos trivial, if_neg h3, if_pos hb]; rfl
  | false =>
    have hb : y = 0 ∧ 0 ≤ x ∧ x ≤ 9 := Decidable.not_not.1 (of_decide_eq_false hb.symm)
    obtain ⟨rfl, h1, h2⟩ := hb
    obtain ⟨n, rfl⟩ : ∃ n : Nat, x = n := ⟨x.toNat, by omega⟩
    have s1 := digB_size n (by omega)
    have e : dText a (n : Int) 0 = (if a = 0 then tTimes ++ digB (n : Int) else if a = 1 then tUnit ++ digB (n : Int) else if (n : Int) = 0 ∧ a = 2 then tInv else if (n : Int) = 0 ∧ a = 4 then tBack else tNone) := by
      unfold dText; rw [if_neg h3, if_neg (by omega)]
    rw [e]
    refine Ev.step (f := fun _ => some (if a = 0 then tTimes ++ digB (n : Int) else if a = 1 then tUnit ++ digB (n : Int) else if (n : Int) = 0 ∧ a = 2 then tInv else if (n : Int) = 0 ∧ a = 4 then tBack else tNone)) (fun k => ?_) (Ev.now _)
    simp only [impl_DeedText.j1]
    rw [if_neg (by simp), itoa_eq _ (by omega) (by omega)]
    simp only [Option.bind_some]
    by_cases c0 : a = 0
    · rw [if_pos c0, if_pos c0, if_pos (by omega)]; rfl
    · rw [if_neg c0, if_neg c0]
      by_cases c1 : a = 1
      · rw [if_pos c1, if_pos c1, if_pos (by omega)]; rfl
      · rw [if_neg c1, if_neg c1]
        by_cases cx : (n : Int) = 0
        · simp only [cx, if_true, true_and]
          by_cases c2 : a = 2
          · simp only [if_pos c2]; rfl
          · simp only [if_neg c2]
            by_cases c4 : a = 4
            · simp only [if_pos c4]; rfl
            · simp only [if_neg c4]; rfl
        · simp only [cx, if_false, false_and]; rfl
theorem impl_j0f (a x y : Int) (h3 : ¬ (a = 3 ∧ 0 ≤ x ∧ x ≤ 99 ∧ 0 ≤ y ∧ y ≤ 9999)) : Ev (fun k => impl_DeedText.j0 k false a x y) (dText a x y) := by
  refine Ev.step (f := fun k => impl_DeedText.j1 k (decide (¬ (y = 0 ∧ 0 ≤ x ∧ x ≤ 9))) a x y) (fun k => ?_) (impl_j1 _ a x y rfl h3)
  simp only [impl_DeedText.j0]
  rw [if_neg (by simp)]
  by_cases hy : y = 0
  · rw [if_pos hy]
    by_cases hx : x < 0
    · rw [if_pos hx]; congr 1
      exact (decide_eq_true (show ¬ (y = 0 ∧ 0 ≤ x ∧ x ≤ 9) from fun z => by omega)).symm
    · rw [if_neg hx]; congr 1
      by_cases h9 : x > 9
      · rw [decide_eq_true h9]; exact (decide_eq_true (show ¬ (y = 0 ∧ 0 ≤ x ∧ x ≤ 9) from fun z => by omega)).symm
      · rw [decide_eq_false h9]; exact (decide_eq_false (show ¬ ¬ (y = 0 ∧ 0 ≤ x ∧ x ≤ 9) from fun z => z ⟨hy, by omega, by omega⟩)).symm
  · rw [if_neg hy]; congr 1
    exact (decide_eq_true (show ¬ (y = 0 ∧ 0 ≤ x ∧ x ≤ 9) from fun z => hy z.1)).symm
theorem impl_deedText (a x y : Int) : Ev (fun k => impl_DeedText.f k a x y) (dText a x y) := by
  unfold impl_DeedText.f
  by_cases h3 : a = 3
  · simp only [if_pos h3]
    by_cases hx : x ≥ 0
    · simp only [if_pos hx]
      by_cases hx2 : x ≤ 99
      · simp only [if_pos hx2]
        by_cases hy : y ≥ 0
        · simp only [if_pos hy]
          by_cases hy2 : y ≤ 9999
          · simp only [decide_eq_true hy2]
            obtain ⟨n, rfl⟩ : ∃ n : Nat, x = n := ⟨x.toNat, by omega⟩
            obtain ⟨m, rfl⟩ : ∃ m : Nat, y = m := ⟨y.toNat, by omega⟩
            have s1 := digB_size n (by omega)
            have s2 := digB_size m (by omega)
            have e : dText a (n : Int) (m : Int) = ((tSet ++ digB (n : Int)) ++ tSp) ++ digB (m : Int) := by unfold dText; rw [if_pos ⟨h3, hx, hx2, hy, hy2⟩]
            rw [e]
            refine Ev.step (f := fun _ => some _) (fun k => ?_) (Ev.now _)
            simp only [impl_DeedText.j0]
            rw [if_pos trivial, itoa_eq _ (by omega) (by omega), Option.bind_some, if_pos (by omega), if_pos, itoa_eq _ (by omega) (by omega), Option.bind_some, if_pos]
            · rfl
            · show ((tSet ++ digB (n : Int)) ++ tSp).size + _ ≤ _
              rw [ByteArray.size_append, ByteArray.size_append, show tSet.size = 4 from rfl, show tSp.size = 1 from rfl]; omega
            · show (tSet ++ digB (n : Int)).size + _ ≤ _
              rw [ByteArray.size_append, show tSet.size = 4 from rfl]; omega
          · simp only [decide_eq_false hy2]
            exact impl_j0f a x y (fun z => hy2 z.2.2.2.2)
        · simp only [if_neg hy]; exact impl_j0f a x y (fun z => hy z.2.2.2.1)
      · simp only [if_neg hx2]; exact impl_j0f a x y (fun z => hx2 z.2.2.1)
    · simp only [if_neg hx]; exact impl_j0f a x y (fun z => hx z.2.1)
  · simp only [if_neg h3]; exact impl_j0f a x y (fun z => h3 z.1)

def kfrom (w : ByteArray) : List ByteArray → Int → Int
  | [], _ => -1
  | x :: r, i => if w.toList = x.toList then i else kfrom w r (i + 1)
theorem idxL (l : List ByteArray) (w : ByteArray) (hl : l.length ≤ 1000) : ∀ (r : List ByteArray) (i : Nat), l.drop i = r → Ev (fun k => slices_Index_string_string.l0 k l w (l.length : Int) (i : Int)) (kfrom w r (i : Int)) := by
  intro r
  induction r with
  | nil =>
    intro i h
    have : l.length ≤ i := List.drop_eq_nil_iff.1 h
    refine Ev.step (f := fun _ => some (-1)) (fun k => ?_) (Ev.now _)
    simp only [slices_Index_string_string.l0]
    rw [if_neg (by omega)]
  | cons x r ih =>
    intro i h
    obtain ⟨h1, h2, h3⟩ := drop_at h
    have hx : rdOf ByteArray.empty l (i : Int) = x := by unfold rdOf; simp [List.getD, h2]
    by_cases he : w.toList = x.toList
    · rw [kfrom, if_pos he]
      refine Ev.step (f := fun _ => some (i : Int)) (fun k => ?_) (Ev.now _)
      simp only [slices_Index_string_string.l0]
      rw [if_pos (by omega), if_pos (by omega), if_pos (by omega), hx, if_pos he]
    · rw [kfrom, if_neg he]
      refine Ev.step (fun k => ?_) (ih (i + 1) h3)
      simp only [slices_Index_string_string.l0]
      rw [if_pos (by omega), if_pos (by omega), if_pos (by omega), hx, if_neg he, w64 (by omega) (by omega)]
      rfl
theorem idx_ev (w : ByteArray) : Ev (fun k => slices_Index_string_string.f k n5 w) (kidx w) := by
  unfold slices_Index_string_string.f
  have h := idxL n5 w (by decide) n5 0 rfl
  have e : kfrom w n5 ((0 : Nat) : Int) = kidx w := by unfold kidx n5; simp [kfrom]
  rw [e] at h
  exact h
theorem wordsB_pos (s : ByteArray) : 0 < (wordsB s).length := by
  obtain ⟨w, ws, e⟩ := wordsL_ne 32 s.data.toList
  unfold wordsB; rw [e]; simp
theorem wordsB_size {s w : ByteArray} (h : w ∈ wordsB s) : w.size ≤ s.size := by
  unfold wordsB at h
  obtain ⟨l, hl, rfl⟩ := List.mem_map.1 h
  rw [bw_size, size_data]
  exact wordsL_len 32 _ l hl
theorem rdOf_size {s : ByteArray} (i : Nat) : (rdOf ByteArray.empty (wordsB s) (i : Int)).size ≤ s.size := by
  unfold rdOf
  have e : ((i : Int)).toNat = i := by omega
  rw [e]
  by_cases h : i < (wordsB s).length
  · rw [List.getD_eq_getElem?_getD, List.getElem?_eq_getElem h]
    exact wordsB_size (List.getElem_mem h)
  · rw [List.getD_eq_getElem?_getD, List.getElem?_eq_none (by omega)]
    exact Nat.zero_le _
theorem atoi_eq (s : ByteArray) (h : s.size ≤ 281474976710656) : strconv_Atoi.f s = some (aval s, false) := by
  unfold strconv_Atoi.f; rw [if_pos h]; rfl
theorem rdT_ev {g : Nat → Option ByteArray} {s : ByteArray} {a b c : Int} (h : Ev g (dText a b c)) : Ev (fun k => (g k).bind fun t => if t.toList = s.toList then some (a, b, c, true) else some (0, 0, 0, false)) (rdT s a b c) := by
  unfold rdT
  by_cases hq : (dText a b c).toList = s.toList
  · rw [if_pos hq]; exact Ev.bind h (Ev.ite_pos hq (Ev.now _))
  · rw [if_neg hq]; exact Ev.bind h (Ev.ite_neg hq (Ev.now _))
theorem impl_rj1 (s : ByteArray) (hs : s.size < 4294967281) (a b : Int) : Ev (fun k => impl_ReadDeed.j1 k s (wordsB s) a b 0) (rdT s a b (rdC (wordsB s))) := by
  unfold rdC
  by_cases h : ((wordsB s).length : Int) > 2
  · rw [if_pos h]
    refine Ev.step (f := fun k => (impl_DeedText.f k a b (aval (rdOf ByteArray.empty (wordsB s) 2))).bind fun t => if t.toList = s.toList then some (a, b, aval (rdOf ByteArray.empty (wordsB s) 2), true) else some (0, 0, 0, false)) (fun k => ?_) (rdT_ev (impl_deedText _ _ _))
    have : (rdOf ByteArray.empty (wordsB s) 2).size ≤ s.size := rdOf_size (s := s) 2
    simp only [impl_ReadDeed.j1]
    rw [if_pos h, if_pos (by omega), atoi_eq _ (Nat.le_trans this (by omega)), Option.bind_some]
  · rw [if_neg h]
    refine Ev.step (f := fun k => (impl_DeedText.f k a b 0).bind fun t => if t.toList = s.toList then some (a, b, 0, true) else some (0, 0, 0, false)) (fun k => ?_) (rdT_ev (impl_deedText _ _ _))
    simp only [impl_ReadDeed.j1]
    rw [if_neg h]
theorem rd5 {i : Int} (h0 : 0 ≤ i) (h4 : i ≤ 4) : rd ([0, 1, 2, 3, 4] : List Int) i = i := by
  have : i = 0 ∨ i = 1 ∨ i = 2 ∨ i = 3 ∨ i = 4 := by omega
  rcases this with rfl | rfl | rfl | rfl | rfl <;> rfl
theorem impl_readDeed (s : ByteArray) (hs : s.size < 4294967281) : Ev (fun k => impl_ReadDeed.f k s) (rdVal s) := by
  unfold impl_ReadDeed.f
  have hp := wordsB_pos s
  have hsplit : strings_Split.f s (⟨#[32]⟩ : ByteArray) = some (wordsB s) := by
    unfold strings_Split.f
    rw [if_pos hs, if_pos (by decide)]
    exact congrArg some (splitB_words 32 s)
  refine Ev.bindc hsplit (Ev.ite_pos (by omega) (Ev.bind (idx_ev _) ?_))
  obtain ⟨k0, k4⟩ := kidx_range (rdOf ByteArray.empty (wordsB s) 0)
  have hno : ∀ x5, Ev (fun k => impl_ReadDeed.j0 k s (wordsB s) x5 true) no4 := fun x5 => by
    refine Ev.step (f := fun _ => some no4) (fun k => ?_) (Ev.now _)
    simp only [impl_ReadDeed.j0]
    rw [if_pos trivial]; rfl
  unfold rdVal rdW
  by_cases h1 : kidx (rdOf ByteArray.empty (wordsB s) 0) < 0
  · rw [if_pos h1]
    exact Ev.ite_pos h1 (hno _)
  · rw [if_neg h1]
    refine Ev.ite_neg h1 ?_
    by_cases h2 : ((wordsB s).length : Int) > 3
    · rw [if_pos h2]
      simp only [decide_eq_true h2]
      exact hno _
    · rw [if_neg h2]
      simp only [decide_eq_false h2]
      have hj := impl_rj1 s hs (kidx (rdOf ByteArray.empty (wordsB s) 0)) (rdB (wordsB s))
      refine Ev.step (fun k => ?_) hj
      simp only [impl_ReadDeed.j0, Option.bind_some]
      rw [if_neg (by simp), if_pos (by omega), if_pos (by simp; omega), rd5 (by omega) k4]
      unfold rdB
      by_cases h3 : ((wordsB s).length : Int) > 1
      · have : (rdOf ByteArray.empty (wordsB s) 1).size ≤ s.size := rdOf_size (s := s) 1
        rw [if_pos h3, if_pos (by omega), atoi_eq _ (Nat.le_trans this (by omega)), if_pos h3]
        rfl
      · rw [if_neg h3, if_neg h3]

/-- The deeds that a text begins with, from a place on: at most d bytes are left. -/
def rjV (L : List UInt8) : Nat → List S24 → Nat → List S24 × Int
  | 0, out, p => (out, (p : Int))
  | d + 1, out, p => if (10 : UInt8) ∈ L.drop p then
      (if (rdVal (bw ((L.drop p).take (Go.Lib.index (L.drop p) [10]).toNat))).2.2.2 = true
        then rjV L d (out ++ [⟨(rdVal (bw ((L.drop p).take (Go.Lib.index (L.drop p) [10]).toNat))).1, (rdVal (bw ((L.drop p).take (Go.Lib.index (L.drop p) [10]).toNat))).2.1, (rdVal (bw ((L.drop p).take (Go.Lib.index (L.drop p) [10]).toNat))).2.2.1⟩]) (p + (Go.Lib.index (L.drop p) [10]).toNat + 1)
        else (out, (p : Int)))
    else (out, (p : Int))
theorem drop_nil10 {L : List UInt8} {p : Nat} (h : L.length ≤ p) : (10 : UInt8) ∉ L.drop p := by rw [List.drop_eq_nil_of_le h]; simp
/-- The program's loop. -/
theorem impl_jrL (s : ByteArray) (hs : s.size ≤ 1099511627776) (hs2 : s.size < 4294967281) : ∀ (d p : Nat) (out : List S24), p ≤ s.size → s.size - p ≤ d → out.length ≤ p → Ev (fun k => impl_ReadJournal.l0 k s out (p : Int)) (rjV s.data.toList (d + 1) out p) := by
  intro d
  have hl : s.data.toList.length = s.size := (size_data s).symm
  induction d with
  | zero =>
    intro p out hp hd ho
    have he : s.size = p := by omega
    rw [rjV, if_neg (drop_nil10 (by omega))]
    have hc : strings_Cut.f (s.extract ((p : Int).toNat) s.size) (⟨#[10]⟩ : ByteArray) = some (bw [], bw [], false) := by
      unfold strings_Cut.f
      have e : (s.extract ((p : Int).toNat) s.size).data.toList = [] := by
        rw [show ((p : Int)).toNat = p by omega, ext_bw, data_bw, List.take_of_length_le (by rw [List.length_drop]; omega), List.drop_eq_nil_of_le (by omega)]
      rw [if_pos (by rw [size_data, e]; decide), e]
      rfl
    refine Ev.step (f := fun k => (impl_ReadDeed.f k (bw [])).bind fun bt => some (out, (p : Int))) (fun k => ?_) (Ev.bind (impl_readDeed (bw []) (by decide)) (Ev.now _))
    simp only [impl_ReadJournal.l0]
    rw [if_pos (by omega), if_pos (by omega), hc]
    simp
  | succ d ih =>
    intro p out hp hd ho
    have hE : (s.extract ((p : Int).toNat) s.size).data.toList = s.data.toList.drop p := by
      rw [show ((p : Int)).toNat = p by omega, ext_bw, data_bw, List.take_of_length_le (by rw [List.length_drop]; omega)]
    have hz : (s.extract ((p : Int).toNat) s.size).size < 4294967281 := by rw [size_data, hE, List.length_drop]; omega
    by_cases hm : (10 : UInt8) ∈ s.data.toList.drop p
    · obtain ⟨i, h1, h2, h3, h4⟩ := index_some hm
      have hi : (Go.Lib.index (s.data.toList.drop p) [10]).toNat = i := by rw [h1]; omega
      rw [List.length_drop] at h2
      have hc : strings_Cut.f (s.extract ((p : Int).toNat) s.size) (⟨#[10]⟩ : ByteArray) = some (bw ((s.data.toList.drop p).take i), bw ((s.data.toList.drop p).drop (i + 1)), true) := by
        unfold strings_Cut.f
        rw [if_pos hz, hE]
        have ec : Go.Lib.cut (s.data.toList.drop p) [10] = ((s.data.toList.drop p).take i, (s.data.toList.drop p).drop (i + 1), true) := by
          unfold Go.Lib.cut
          rw [h1, if_pos (by omega)]
          rfl
        have e10 : (⟨#[10]⟩ : ByteArray).data.toList = [10] := rfl
        rw [e10, ec]; rfl
      have hsz : (bw ((s.data.toList.drop p).take i)).size = i := by rw [bw_size, List.length_take, List.length_drop]; omega
      rw [rjV, if_pos hm, hi]
      have hr := impl_readDeed (bw ((s.data.toList.drop p).take i)) (by rw [hsz]; omega)
      by_cases hf : (rdVal (bw ((s.data.toList.drop p).take i))).2.2.2 = true
      · rw [if_pos hf]
        have hih := ih (p + i + 1) (out ++ [⟨(rdVal (bw ((s.data.toList.drop p).take i))).1, (rdVal (bw ((s.data.toList.drop p).take i))).2.1, (rdVal (bw ((s.data.toList.drop p).take i))).2.2.1⟩]) (by omega) (by omega) (by simp; omega)
        refine Ev.step (f := fun k => (impl_ReadDeed.f k (bw ((s.data.toList.drop p).take i))).bind fun bt135 => (if bt135.2.2.2 = true then (if out.length < 5864062014805 then (impl_ReadJournal.l0 k s (out ++ [(⟨bt135.1, bt135.2.1, bt135.2.2.1⟩ : S24)]) ((p + i + 1 : Nat) : Int)) else (none)) else (some (out, (p : Int))))) (fun k => ?_) (Ev.bind hr (Ev.ite_pos hf (Ev.ite_pos (by omega) hih)))
        simp only [impl_ReadJournal.l0]
        rw [if_pos (by omega), if_pos (by omega), hc]
        simp only [Option.bind_some, if_true]
        rw [hsz, w64 (n := (i : Int) + 1) (by omega) (by omega), w64 (by omega) (by omega)]
        rfl
      · rw [if_neg hf]
        refine Ev.step (f := fun k => (impl_ReadDeed.f k (bw ((s.data.toList.drop p).take i))).bind fun bt135 => (if bt135.2.2.2 = true then (if out.length < 5864062014805 then (impl_ReadJournal.l0 k s (out ++ [(⟨bt135.1, bt135.2.1, bt135.2.2.1⟩ : S24)]) (wrap64 ((p : Int) + (wrap64 (((bw ((s.data.toList.drop p).take i)).size : Int) + 1))))) else (none)) else (some (out, (p : Int))))) (fun k => ?_) (Ev.bind hr (Ev.ite_neg hf (Ev.now _)))
        simp only [impl_ReadJournal.l0]
        rw [if_pos (by omega), if_pos (by omega), hc]
        simp only [Option.bind_some, if_true]
    · rw [rjV, if_neg hm]
      have hc : strings_Cut.f (s.extract ((p : Int).toNat) s.size) (⟨#[10]⟩ : ByteArray) = some (bw (s.data.toList.drop p), bw [], false) := by
        unfold strings_Cut.f
        rw [if_pos hz, hE]
        have ec : Go.Lib.cut (s.data.toList.drop p) [10] = (s.data.toList.drop p, [], false) := by
          unfold Go.Lib.cut
          rw [index_none_iff.2 hm, if_neg (by omega)]
        have e10 : (⟨#[10]⟩ : ByteArray).data.toList = [10] := rfl
        rw [e10, ec]; rfl
      have hr := impl_readDeed (bw (s.data.toList.drop p)) (by rw [bw_size, List.length_drop]; omega)
      refine Ev.step (f := fun k => (impl_ReadDeed.f k (bw (s.data.toList.drop p))).bind fun bt => some (out, (p : Int))) (fun k => ?_) (Ev.bind hr (Ev.now _))
      simp only [impl_ReadJournal.l0]
      rw [if_pos (by omega), if_pos (by omega), hc]
      simp
theorem impl_readJournal (s : ByteArray) (hs2 : s.size < 4294967281) : Ev (fun k => impl_ReadJournal.f k s) (rjV s.data.toList (s.size + 1) [] 0) := by
  unfold impl_ReadJournal.f
  exact impl_jrL s (by omega) hs2 s.size 0 [] (by omega) (by omega) (by simp)

theorem l1In_eq (a b c : Int) : spec_l1In.f a b c = some (decide (b ≤ a ∧ a ≤ c)) := by
  unfold spec_l1In.f
  by_cases h : a ≥ b
  · rw [if_pos h]; simp [h]
  · rw [if_neg h]; congr 1; symm; simp; intro h2; omega

theorem spec_number : ∀ (m n : Nat), n ≤ m → n ≤ 100000 → Ev (fun k => spec_l1Number.f k (n : Int)) (digB (n : Int)) := by
  intro m
  induction m with
  | zero =>
    intro n hn hb
    obtain rfl : n = 0 := by omega
    rw [digB_nat, Go.Lib.decDigits_one (by omega)]
    refine Ev.step (f := fun k => spec_l1Number.j0 k 0 false) (fun k => ?_) (Ev.step (f := fun _ => some (strOfNums [((48 + 0 : Nat) : Int) % 256])) (fun k => ?_) ?_)
    · simp only [spec_l1Number.f]; rfl
    · simp only [spec_l1Number.j0]; rw [if_neg (by simp), if_neg (by omega), if_pos (by omega), w64 (by omega) (by omega)]; rfl
    · rw [strOf_one]; exact Ev.now _
  | succ m ih =>
    intro n hn hb
    rw [digB_nat]
    refine Ev.step (f := fun k => spec_l1Number.j0 k (n : Int) false) (fun k => ?_) ?_
    · simp only [spec_l1Number.f]; rw [if_neg (by omega)]
    by_cases h : n < 10
    · rw [Go.Lib.decDigits_one h, ← strOf_one]
      refine Ev.step (f := fun k => some _) (fun k => ?_) (Ev.now _)
      simp only [spec_l1Number.j0]
      rw [if_neg (by simp), if_neg (by omega), if_pos (by omega), w64 (by omega) (by omega)]
      rfl
    · have h1 := ih (n / 10) (by omega) (by omega)
      have hsz := digB_size (n / 10) (by omega)
      refine Ev.step (f := fun k => (spec_l1Number.f k ((n / 10 : Nat) : Int)).bind fun t => if t.size + (strOfNums [((48 + n % 10 : Nat) : Int) % 256]).size ≤ 9223372036854775807 then some (t ++ strOfNums [((48 + n % 10 : Nat) : Int) % 256]) else none) (fun k => ?_) (Ev.bind h1 ?_)
      · simp only [spec_l1Number.j0]
        rw [if_neg (by simp), if_neg (by omega), if_neg (by omega), show (10 : Int) = ((10 : Nat) : Int) from rfl, tdiv_nat, tmod_nat, w64 (by omega) (by omega), w64 (by omega) (by omega)]
        rfl
      · rw [strOf_one]
        refine Ev.ite_pos ?_ ?_
        · have : (⟨[UInt8.ofNat (48 + n % 10)].toArray⟩ : ByteArray).size = 1 := rfl
          omega
        · rw [digB_nat, bytes_append]
          have e : Go.Lib.decDigits n = Go.Lib.decDigits (n / 10) ++ [UInt8.ofNat (48 + n % 10)] := by rw [Go.Lib.decDigits, dif_neg h]
          rw [e]
          exact Ev.now _

theorem spec_j2f (a x y : Int) : Ev (fun k => spec_DeedText.j2 k false a x y) (if a = 4 ∧ x = 0 ∧ y = 0 then tBack else tNone) := by
  refine Ev.step (f := fun _ => some (if a = 4 ∧ x = 0 ∧ y = 0 then tBack else tNone)) (fun k => ?_) (Ev.now _)
  simp only [spec_DeedText.j2]
  rw [if_neg (by simp)]
  by_cases h : a = 4 ∧ x = 0 ∧ y = 0
  · rw [if_pos (by simp [h]), if_pos h]; rfl
  · rw [if_neg (by simpa using h), if_neg h]; rfl
theorem spec_j2t (a x y : Int) (h : 0 ≤ x ∧ x ≤ 99 ∧ 0 ≤ y ∧ y ≤ 9999) : Ev (fun k => spec_DeedText.j2 k true a x y) (((tSet ++ digB x) ++ tSp) ++ digB y) := by
  obtain ⟨h1, h2, h4, h5⟩ := h
  obtain ⟨n, rfl⟩ : ∃ n : Nat, x = n := ⟨x.toNat, by omega⟩
  obtain ⟨m, rfl⟩ : ∃ m : Nat, y = m := ⟨y.toNat, by omega⟩
  have s1 := digB_size n (by omega)
  have s2 := digB_size m (by omega)
  refine Ev.step (f := fun k => (spec_l1Number.f k (n : Int)).bind fun t116 => (if 4 + t116.size ≤ 9223372036854775807 then (if (tSet ++ t116).size + 1 ≤ 9223372036854775807 then ((spec_l1Number.f k (m : Int)).bind fun t117 => (if ((tSet ++ t116) ++ tSp).size + t117.size ≤ 9223372036854775807 then (some (((tSet ++ t116) ++ tSp) ++ t117)) else (none))) else (none)) else (none))) (fun k => ?_) ?_
  · simp only [spec_DeedText.j2, if_true]; rfl
  · refine Ev.bind (spec_number n n (Nat.le_refl _) (by omega)) (Ev.ite_pos (by omega) (Ev.ite_pos ?_ (Ev.bind (spec_number m m (Nat.le_refl _) (by omega)) (Ev.ite_pos ?_ (Ev.now _)))))
    · rw [ByteArray.size_append, show tSet.size = 4 from rfl]; omega
    · rw [ByteArray.size_append, ByteArray.size_append, show tSet.size = 4 from rfl, show tSp.size = 1 from rfl]; omega
/-- What comes behind times and unitary. -/
theorem spec_rest (a x y : Int) (h0 : ¬ (a = 0 ∧ 0 ≤ x ∧ x ≤ 9 ∧ y = 0)) (h1 : ¬ (a = 1 ∧ 0 ≤ x ∧ x ≤ 9 ∧ y = 0)) : Ev (fun k => spec_DeedText.j1 k false a x y) (dText a x y) := by
  by_cases hi : a = 2 ∧ x = 0 ∧ y = 0
  · obtain ⟨rfl, rfl, rfl⟩ := hi
    refine Ev.step (f := fun _ => some tInv) (fun k => ?_) (Ev.now _)
    simp only [spec_DeedText.j1]; rfl
  · have hi2 : ¬ (a == 2 && (x == 0 && y == 0)) = true := by simpa using hi
    by_cases h3 : a = 3
    · subst h3
      by_cases c : 0 ≤ x ∧ x ≤ 99 ∧ 0 ≤ y ∧ y ≤ 9999
      · have e : dText 3 x y = ((tSet ++ digB x) ++ tSp) ++ digB y := by unfold dText; rw [if_pos ⟨rfl, c⟩]
        rw [e]
        refine Ev.step (f := fun k => spec_DeedText.j2 k true 3 x y) (fun k => ?_) (spec_j2t 3 x y c)
        simp only [spec_DeedText.j1]
        rw [if_neg (by simp), if_neg hi2, if_pos trivial, l1In_eq, Option.bind_some, l1In_eq, if_pos (by simp [c]), Option.bind_some]
        congr 1
        simp [c]
      · have e : dText 3 x y = (if (3 : Int) = 4 ∧ x = 0 ∧ y = 0 then tBack else tNone) := by
          unfold dText
          rw [if_neg (fun z => c z.2)]
          by_cases hh : y = 0 ∧ 0 ≤ x ∧ x ≤ 9
          · rw [if_neg (by simpa using hh), if_neg (by omega), if_neg (by omega), if_neg (by omega), if_neg (by omega), if_neg (by omega)]
          · rw [if_pos hh, if_neg (by omega)]
        rw [e]
        refine Ev.step (f := fun k => spec_DeedText.j2 k false 3 x y) (fun k => ?_) (spec_j2f 3 x y)
        simp only [spec_DeedText.j1]
        rw [if_neg (by simp), if_neg hi2, if_pos trivial, l1In_eq, Option.bind_some, l1In_eq]
        by_cases c1 : 0 ≤ x ∧ x ≤ 99
        · rw [if_pos (by simpa using c1), Option.bind_some]
          congr 1
          exact decide_eq_false (fun z => c ⟨c1.1, c1.2, z.1, z.2⟩)
        · rw [if_neg (by simpa using c1)]
    · have e : dText a x y = (if a = 4 ∧ x = 0 ∧ y = 0 then tBack else tNone) := by
        unfold dText
        rw [if_neg (fun z => h3 z.1)]
        by_cases hh : y = 0 ∧ 0 ≤ x ∧ x ≤ 9
        · rw [if_neg (by simpa using hh), if_neg (fun z => h0 ⟨z, hh.2.1, hh.2.2, hh.1⟩), if_neg (fun z => h1 ⟨z, hh.2.1, hh.2.2, hh.1⟩), if_neg (fun z => hi ⟨z.2, z.1, hh.1⟩)]
          by_cases h4 : a = 4 ∧ x = 0 ∧ y = 0
          · rw [if_pos h4, if_pos ⟨h4.2.1, h4.1⟩]
          · rw [if_neg h4, if_neg (fun z => h4 ⟨z.2, z.1, hh.1⟩)]
        · rw [if_pos hh, if_neg (fun z => hh ⟨z.2.2, by omega, by omega⟩)]
      rw [e]
      refine Ev.step (f := fun k => spec_DeedText.j2 k false a x y) (fun k => ?_) (spec_j2f a x y)
      simp only [spec_DeedText.j1]
      rw [if_neg (by simp), if_neg hi2, if_neg h3]
theorem spec_j1 (b : Bool) (a x y : Int) (hb : b = decide (a = 1 ∧ 0 ≤ x ∧ x ≤ 9 ∧ y = 0)) (h0 : ¬ (a = 0 ∧ 0 ≤ x ∧ x ≤ 9 ∧ y = 0)) : Ev (fun k => spec_DeedText.j1 k b a x y) (dText a x y) := by
  cases b with
  | true =>
    obtain ⟨rfl, h1, h2, rfl⟩ := of_decide_eq_true hb.symm
    obtain ⟨n, rfl⟩ : ∃ n : Nat, x = n := ⟨x.toNat, by omega⟩
    have s1 := digB_size n (by omega)
    have e : dText 1 (n : Int) 0 = tUnit ++ digB (n : Int) := by
      unfold dText; rw [if_neg (by omega), if_neg (by omega), if_neg (by omega), if_pos rfl]
    rw [e]
    refine Ev.step (f := fun k => (spec_l1Number.f k (n : Int)).bind fun t => if 8 + t.size ≤ 9223372036854775807 then some (tUnit ++ t) else none) (fun k => ?_) (Ev.bind (spec_number n n (Nat.le_refl _) (by omega)) (Ev.ite_pos (by omega) (Ev.now _)))
    simp only [spec_DeedText.j1, if_true]; rfl
  | false => exact spec_rest a x y h0 (of_decide_eq_false hb.symm)
theorem spec_j0 (b : Bool) (a x y : Int) (hb : b = decide (a = 0 ∧ 0 ≤ x ∧ x ≤ 9 ∧ y = 0)) : Ev (fun k => spec_DeedText.j0 k b a x y) (dText a x y) := by
  cases b with
  | true =>
    obtain ⟨rfl, h1, h2, rfl⟩ := of_decide_eq_true hb.symm
    obtain ⟨n, rfl⟩ : ∃ n : Nat, x = n := ⟨x.toNat, by omega⟩
    have s1 := digB_size n (by omega)
    have e : dText 0 (n : Int) 0 = tTimes ++ digB (n : Int) := by
      unfold dText; rw [if_neg (by omega), if_neg (by omega), if_pos rfl]
    rw [e]
    refine Ev.step (f := fun k => (spec_l1Number.f k (n : Int)).bind fun t => if 6 + t.size ≤ 9223372036854775807 then some (tTimes ++ t) else none) (fun k => ?_) (Ev.bind (spec_number n n (Nat.le_refl _) (by omega)) (Ev.ite_pos (by omega) (Ev.now _)))
    simp only [spec_DeedText.j0, if_true]; rfl
  | false =>
    refine Ev.step (f := fun k => spec_DeedText.j1 k (decide (a = 1 ∧ 0 ≤ x ∧ x ≤ 9 ∧ y = 0)) a x y) (fun k => ?_) (spec_j1 _ a x y rfl (of_decide_eq_false hb.symm))
    simp only [spec_DeedText.j0]
    rw [if_neg (by simp)]
    by_cases h1 : a = 1
    · rw [if_pos h1, l1In_eq, Option.bind_some]
      by_cases h2 : 0 ≤ x ∧ x ≤ 9
      · rw [if_pos (by simpa using h2)]; congr 1
        by_cases h3 : y = 0 <;> simp [h1, h2, h3]
      · rw [if_neg (by simpa using h2)]; congr 1
        exact (decide_eq_false (fun z => h2 ⟨z.2.1, z.2.2.1⟩)).symm
    · rw [if_neg h1]; congr 1
      exact (decide_eq_false (fun z => h1 z.1)).symm
theorem spec_deedText (a x y : Int) : Ev (fun k => spec_DeedText.f k a x y) (dText a x y) := by
  refine Ev.congr (f := fun k => spec_DeedText.j0 k (decide (a = 0 ∧ 0 ≤ x ∧ x ≤ 9 ∧ y = 0)) a x y) (fun k => ?_) (spec_j0 _ a x y rfl)
  unfold spec_DeedText.f
  by_cases h1 : a = 0
  · rw [if_pos h1, l1In_eq, Option.bind_some]
    by_cases h2 : 0 ≤ x ∧ x ≤ 9
    · rw [if_pos (by simpa using h2)]; congr 1
      by_cases h3 : y = 0 <;> simp [h1, h2, h3]
    · rw [if_neg (by simpa using h2)]; congr 1
      exact (decide_eq_false (fun z => h2 ⟨z.2.1, z.2.2.1⟩)).symm
  · rw [if_neg h1]; congr 1
    exact (decide_eq_false (fun z => h1 z.1)).symm

theorem cutL (s : ByteArray) (hs : s.size ≤ 1099511627776) : ∀ (d i f : Nat) (out : List ByteArray), i + d = s.size → f ≤ i → out.length ≤ f → (∀ j, f ≤ j → j < i → s.data.toList[j]? ≠ some 32) →
    Ev (fun k => spec_l1Cut.l0 k s 32 out (f : Int) (i : Int)) (out ++ (wordsL 32 (s.data.toList.drop f)).map bw) := by
  intro d
  induction d with
  | zero =>
    intro i f out h hf ho hn
    have hl : s.data.toList.length = s.size := (size_data s).symm
    have e : s.data.toList.drop f = (s.data.toList.drop f).take (i - f) := by rw [List.take_of_length_le]; rw [List.length_drop]; omega
    rw [wordsL_plain (by rw [e]; exact seg_no hn)]
    refine Ev.step (f := fun _ => some (out ++ [bw (s.data.toList.drop f)])) (fun k => ?_) (Ev.now _)
    simp only [spec_l1Cut.l0]
    rw [if_neg (by omega), if_pos (by omega), if_pos (by omega), if_pos (by omega)]
    have e2 : s.extract ((f : Int).toNat) s.size = bw (s.data.toList.drop f) := by
      rw [show ((f : Int)).toNat = f by omega, ext_bw, List.take_of_length_le]
      rw [List.length_drop]; omega
    rw [e2]
  | succ d ih =>
    intro i f out h hf ho hn
    have hl : s.data.toList.length = s.size := (size_data s).symm
    obtain ⟨b, hb⟩ : ∃ b, s.data.toList[i]? = some b := ⟨_, List.getElem?_eq_getElem (by omega)⟩
    by_cases hc : b = 32
    · subst hc
      have hsp := seg_split hf hb
      have e : (wordsL 32 (s.data.toList.drop f)).map bw = bw ((s.data.toList.drop f).take (i - f)) :: (wordsL 32 (s.data.toList.drop (i + 1))).map bw := by
        conv => lhs; rw [hsp, wordsL_cut _ (seg_no hn)]
        rfl
      rw [e, show out ++ bw ((s.data.toList.drop f).take (i - f)) :: (wordsL 32 (s.data.toList.drop (i + 1))).map bw = (out ++ [bw ((s.data.toList.drop f).take (i - f))]) ++ (wordsL 32 (s.data.toList.drop (i + 1))).map bw by simp]
      refine Ev.step (fun k => ?_) (ih (i + 1) (i + 1) (out ++ [bw ((s.data.toList.drop f).take (i - f))]) (by omega) (Nat.le_refl _) (by simp; omega) (fun j h1 h2 => by omega))
      simp only [spec_l1Cut.l0]
      rw [if_pos (by omega), if_pos (by omega), bt_get hb, if_pos (by decide), if_pos (by omega), if_pos (by omega), if_pos (by omega), if_pos (by omega), w64 (by omega) (by omega), ← ext_bw]
      rw [show ((f : Int)).toNat = f by omega, show ((i : Int)).toNat = i by omega]
      rfl
    · refine Ev.step (fun k => ?_) (ih (i + 1) f out (by omega) (by omega) ho (fun j h1 h2 => ?_))
      · simp only [spec_l1Cut.l0]
        rw [if_pos (by omega), if_pos (by omega), bt_get hb, if_neg (fun hz => hc (UInt8.toNat.inj (by have : (32 : UInt8).toNat = 32 := rfl; omega))), w64 (by omega) (by omega)]
        rfl
      · by_cases hj : j = i
        · subst hj; rw [hb]; exact fun hz => hc (Option.some.inj hz)
        · exact hn j h1 (by omega)
theorem spec_cut (s : ByteArray) (hs : s.size ≤ 1099511627776) : Ev (fun k => spec_l1Cut.f k s 32) (wordsB s) := by
  unfold spec_l1Cut.f
  have h := cutL s hs s.size 0 0 [] (by omega) (Nat.le_refl _) (by simp) (fun j h1 h2 => by omega)
  exact h

def dv (n : Int) : List UInt8 → Int
  | [] => n
  | b :: r => if (b.toNat : Int) < 48 then -1 else if (b.toNat : Int) > 57 then -1 else dv (wrap64 (wrap64 (10 * n) + ((b.toNat : Int) - 48) % 256)) r
theorem digitsL (s : ByteArray) (hs : s.size ≤ 1099511627776) : ∀ (r : List UInt8) (i : Nat) (n : Int), s.data.toList.drop i = r → Ev (fun k => spec_l1Digits.l0 k s n (i : Int)) (dv n r) := by
  intro r
  have hl : s.data.toList.length = s.size := (size_data s).symm
  induction r with
  | nil =>
    intro i n h
    have : s.data.toList.length ≤ i := List.drop_eq_nil_iff.1 h
    refine Ev.step (f := fun _ => some n) (fun k => ?_) (Ev.now _)
    simp only [spec_l1Digits.l0]
    rw [if_neg (by omega)]
  | cons b r ih =>
    intro i n h
    obtain ⟨h1, h2, h3⟩ := drop_at h
    by_cases c1 : (b.toNat : Int) < 48
    · rw [dv, if_pos c1]
      refine Ev.step (f := fun _ => some (-1)) (fun k => ?_) (Ev.now _)
      simp only [spec_l1Digits.l0]
      rw [if_pos (by omega), if_pos (by omega), bt_get h2, if_pos c1]
    · by_cases c2 : (b.toNat : Int) > 57
      · rw [dv, if_neg c1, if_pos c2]
        refine Ev.step (f := fun _ => some (-1)) (fun k => ?_) (Ev.now _)
        simp only [spec_l1Digits.l0]
        rw [if_pos (by omega), if_pos (by omega), bt_get h2, if_neg c1, if_pos c2]
      · rw [dv, if_neg c1, if_neg c2]
        refine Ev.step (fun k => ?_) (ih (i + 1) _ h3)
        simp only [spec_l1Digits.l0]
        rw [if_pos (by omega), if_pos (by omega), bt_get h2, if_neg c1, if_neg c2]
        have e : wrap64 ((i : Int) + 1) = ((i + 1 : Nat) : Int) := by rw [w64 (by omega) (by omega)]; rfl
        rw [e]
theorem dv_app : ∀ (xs ys : List UInt8) (n : Int) (m : Int), (∀ b ∈ xs, 48 ≤ b.toNat ∧ b.toNat ≤ 57) → dv n xs = m → dv n (xs ++ ys) = dv m ys
  | [], ys, n, m, _, h => by simp only [dv] at h; subst h; rfl
  | b :: r, ys, n, m, hd, h => by
    have hb := hd b List.mem_cons_self
    rw [dv, if_neg (by omega), if_neg (by omega)] at h
    rw [List.cons_append, dv, if_neg (by omega), if_neg (by omega)]
    exact dv_app r ys _ m (fun x hx => hd x (List.mem_cons_of_mem _ hx)) h
theorem dv_dec (u : Nat) (h : u ≤ 1000000) : dv 0 (Go.Lib.decDigits u) = (u : Int) := by
  induction u using Nat.strongRecOn with
  | _ u ih =>
    by_cases h1 : u < 10
    · rw [Go.Lib.decDigits_one h1]
      simp only [dv]
      rw [ofNat_toNat (by omega), if_neg (by omega), if_neg (by omega), w64 (n := 10 * 0) (by omega) (by omega), w64 (by omega) (by omega)]
      omega
    · rw [dec_big h1, dv_app _ _ 0 ((u / 10 : Nat) : Int) (dec_digits _) (ih (u / 10) (by omega) (by omega))]
      simp only [dv]
      rw [ofNat_toNat (by omega), if_neg (by omega), if_neg (by omega), w64 (n := 10 * ((u / 10 : Nat) : Int)) (by omega) (by omega), w64 (by omega) (by omega)]
      omega
/-- What l1Digits answers. -/
def dgv (s : ByteArray) : Int := if ¬ (1 ≤ (s.size : Int) ∧ (s.size : Int) ≤ 5) then -1 else if (s.size : Int) > 1 ∧ bt s 0 = 48 then -1 else dv 0 s.data.toList
theorem spec_digits (s : ByteArray) (hs : s.size ≤ 1099511627776) : Ev (fun k => spec_l1Digits.f k s) (dgv s) := by
  unfold spec_l1Digits.f dgv
  rw [l1In_eq]
  have hno : Ev (fun k => spec_l1Digits.j0 k s true) (-1) := by
    refine Ev.step (f := fun _ => some (-1)) (fun k => ?_) (Ev.now _)
    simp only [spec_l1Digits.j0]; rw [if_pos trivial]
  have hgo : Ev (fun k => spec_l1Digits.j0 k s false) (dv 0 s.data.toList) := by
    refine Ev.step (fun k => ?_) (digitsL s hs s.data.toList 0 0 rfl)
    simp only [spec_l1Digits.j0]; rw [if_neg (by simp)]; rfl
  by_cases h1 : 1 ≤ (s.size : Int) ∧ (s.size : Int) ≤ 5
  · rw [if_neg (by simpa using h1)]
    refine Ev.bindc rfl (Ev.ite_pos (by simpa using h1) ?_)
    by_cases h2 : (s.size : Int) > 1
    · refine Ev.ite_pos h2 (Ev.ite_pos (by omega) ?_)
      by_cases h3 : bt s 0 = 48
      · rw [if_pos ⟨h2, h3⟩]
        simp only [h3, beq_self_eq_true]
        exact hno
      · rw [if_neg (fun z => h3 z.2)]
        have : (bt s 0 == 48) = false := by simpa using h3
        simp only [this]
        exact hgo
    · rw [if_neg (fun z => h2 z.1)]
      exact Ev.ite_neg h2 hgo
  · rw [if_pos h1]
    exact Ev.bindc rfl (Ev.ite_neg (by simpa using h1) hno)
theorem dgv_dec (u : Nat) (h : u ≤ 9999) : dgv (bw (Go.Lib.decDigits u)) = (u : Int) := by
  unfold dgv
  have hsz : (bw (Go.Lib.decDigits u)).size = Go.Lib.nDigits u := by rw [bw_size, Go.Lib.decDigits_length]
  have h4 := nDigits_pow 3 u (by omega)
  have h1 := Go.Lib.nDigits_pos u
  rw [hsz, if_neg (by omega), if_neg, data_bw, dv_dec u (by omega)]
  rintro ⟨h2, h3⟩
  obtain ⟨b, r, e, hb⟩ := dec_head u
  have hg : (bw (Go.Lib.decDigits u)).data.toList[0]? = some b := by rw [data_bw, e]; rfl
  have h5 := bt_get hg
  have hu : ¬ u < 10 := fun hz => by rw [Go.Lib.nDigits_small hz] at h2; omega
  have := hb (by omega)
  rw [show ((0 : Nat) : Int) = 0 from rfl] at h5
  omega

def findD (s : ByteArray) : List S24 → Int × Int × Int × Bool
  | [] => no4
  | d :: r => if s.toList = ([] : List UInt8) then findD s r else if (dText d.f0 d.f1 d.f2).toList = s.toList then (d.f0, d.f1, d.f2, true) else findD s r
theorem spec_rL (s : ByteArray) (l : List S24) (hl : l.length ≤ 1000) : ∀ (r : List S24) (i : Nat), l.drop i = r → Ev (fun k => spec_ReadDeed.l0 k s l (i : Int)) (findD s r) := by
  intro r
  induction r with
  | nil =>
    intro i h
    have : l.length ≤ i := List.drop_eq_nil_iff.1 h
    refine Ev.step (f := fun _ => some no4) (fun k => ?_) (Ev.now _)
    simp only [spec_ReadDeed.l0]
    rw [if_neg (by omega)]; rfl
  | cons d r ih =>
    intro i h
    obtain ⟨h1, h2, h3⟩ := drop_at h
    have hd : rd_T24 l (i : Int) = d := by unfold rd_T24; simp [List.getD, h2]
    have hi := ih (i + 1) h3
    have ew : wrap64 ((i : Int) + 1) = ((i + 1 : Nat) : Int) := by rw [w64 (by omega) (by omega)]; rfl
    by_cases h0 : s.toList = ([] : List UInt8)
    · rw [findD, if_pos h0]
      refine Ev.step (fun k => ?_) hi
      simp only [spec_ReadDeed.l0]
      rw [if_pos (by omega), if_pos h0, ew]
    · rw [findD, if_neg h0]
      refine Ev.step (f := fun k => (spec_DeedText.f k d.f0 d.f1 d.f2).bind fun t => if t.toList = s.toList then some (d.f0, d.f1, d.f2, true) else spec_ReadDeed.l0 k s l ((i + 1 : Nat) : Int)) (fun k => ?_) ?_
      · simp only [spec_ReadDeed.l0]
        rw [if_pos (by omega), if_neg h0, if_pos (by omega), hd, ew]
      · by_cases hq : (dText d.f0 d.f1 d.f2).toList = s.toList
        · rw [if_pos hq]; exact Ev.bind (spec_deedText _ _ _) (Ev.ite_pos hq (Ev.now _))
        · rw [if_neg hq]; exact Ev.bind (spec_deedText _ _ _) (Ev.ite_neg hq hi)
theorem findD_rd (s : ByteArray) : ∀ (l : List S24), (∀ a b c, dText a b c = s → s.size ≠ 0 → (⟨a, b, c⟩ : S24) ∈ l ∨ False) → findD s l = rdVal s ∨ (findD s l = no4 ∧ ∀ d ∈ l, s.size = 0 ∨ dText d.f0 d.f1 d.f2 ≠ s)
  | [], _ => .inr ⟨rfl, by simp⟩
  | d :: r, hc => by
    by_cases h0 : s.toList = ([] : List UInt8)
    · have hz := toList_nil.1 h0
      rcases findD_rd s r (fun a b c h1 h2 => absurd hz h2) with h | ⟨h, h'⟩
      · exact .inl (by rw [findD, if_pos h0]; exact h)
      · exact .inr ⟨by rw [findD, if_pos h0]; exact h, fun x hx => .inl hz⟩
    · have hs : s.size ≠ 0 := fun hz => h0 (toList_nil.2 hz)
      by_cases hq : (dText d.f0 d.f1 d.f2).toList = s.toList
      · refine .inl ?_
        rw [findD, if_neg h0, if_pos hq, rd_complete (toList_inj.1 hq) hs]
      · have hne : dText d.f0 d.f1 d.f2 ≠ s := fun e => hq (by rw [e])
        rcases findD_rd s r (fun a b c h1 h2 => by
          rcases hc a b c h1 h2 with hm | hm
          · rcases List.mem_cons.1 hm with e | hm
            · exact absurd (by rw [← e]; exact h1) hne
            · exact .inl hm
          · exact hm.elim) with h | ⟨h, h'⟩
        · exact .inl (by rw [findD, if_neg h0, if_neg hq]; exact h)
        · refine .inr ⟨by rw [findD, if_neg h0, if_neg hq]; exact h, fun x hx => ?_⟩
          rcases List.mem_cons.1 hx with rfl | hx
          · exact .inr hne
          · exact h' x hx
theorem findD_eq (s : ByteArray) (l : List S24) (hc : ∀ a b c, dText a b c = s → s.size ≠ 0 → (⟨a, b, c⟩ : S24) ∈ l) : findD s l = rdVal s := by
  rcases findD_rd s l (fun a b c h1 h2 => .inl (hc a b c h1 h2)) with h | ⟨h, h'⟩
  · exact h
  · rw [h]
    by_cases ht : (rdVal s).2.2.2 = true
    · obtain ⟨a, b, c, e⟩ : ∃ a b c, rdVal s = (a, b, c, true) := ⟨(rdVal s).1, (rdVal s).2.1, (rdVal s).2.2.1, by rw [← ht]⟩
      obtain ⟨h1, h2⟩ := rd_sound e
      rcases h' _ (hc a b c h1 h2) with hz | hz
      · exact absurd hz h2
      · exact absurd h1 hz
    · exact (rd_false ht).symm
theorem spec_readDeed (s : ByteArray) (hs : s.size < 4294967281) : Ev (fun k => spec_ReadDeed.f k s) (rdVal s) := by
  unfold spec_ReadDeed.f
  have hp := wordsB_pos s
  have s1 : (rdOf ByteArray.empty (wordsB s) 1).size ≤ s.size := rdOf_size (s := s) 1
  have s2 : (rdOf ByteArray.empty (wordsB s) 2).size ≤ s.size := rdOf_size (s := s) 2
  refine Ev.bind (spec_cut s (by omega)) ?_
  simp only [Option.bind_some]
  have hj1 : ∀ l : List S24, l.length ≤ 1000 → Ev (fun k => spec_ReadDeed.j1 k s l) (findD s l) := fun l hl => by
    refine Ev.step (fun k => ?_) (spec_rL s l hl l 0 rfl)
    simp only [spec_ReadDeed.j1]; rfl
  have hmem : ∀ a b c, dText a b c = s → s.size ≠ 0 → ((a = 2 ∨ a = 4) ∧ b = 0 ∧ c = 0) ∨ ((a = 0 ∨ a = 1) ∧ c = 0 ∧ (wordsB s).length = 2 ∧ b = dgv (rdOf ByteArray.empty (wordsB s) 1)) ∨ (a = 3 ∧ (wordsB s).length = 3 ∧ b = dgv (rdOf ByteArray.empty (wordsB s) 1) ∧ c = dgv (rdOf ByteArray.empty (wordsB s) 2)) := by
    intro a b c h hz
    subst h
    rcases dText_cases a b c hz with ⟨rfl, n, m, rfl, rfl, hn, hm, e⟩ | ⟨rfl, rfl, n, rfl, hn, e⟩ | ⟨rfl, rfl, n, rfl, hn, e⟩ | ⟨rfl, rfl, rfl, e⟩ | ⟨rfl, rfl, rfl, e⟩
    · have hw : wordsB (dText 3 (n : Int) (m : Int)) = [bw [115, 101, 116], bw (Go.Lib.decDigits n), bw (Go.Lib.decDigits m)] := by unfold wordsB; rw [e, words3]; rfl
      refine .inr (.inr ⟨rfl, by rw [hw]; rfl, ?_, ?_⟩)
      · rw [hw]; exact (dgv_dec n (by omega)).symm
      · rw [hw]; exact (dgv_dec m (by omega)).symm
    · have hw : wordsB (dText 0 (n : Int) 0) = [bw [116, 105, 109, 101, 115], bw (Go.Lib.decDigits n)] := by unfold wordsB; rw [e, words2 (by decide)]; rfl
      refine .inr (.inl ⟨.inl rfl, rfl, by rw [hw]; rfl, ?_⟩)
      rw [hw]; exact (dgv_dec n (by omega)).symm
    · have hw : wordsB (dText 1 (n : Int) 0) = [bw [117, 110, 105, 116, 97, 114, 121], bw (Go.Lib.decDigits n)] := by unfold wordsB; rw [e, words2 (by decide)]; rfl
      refine .inr (.inl ⟨.inr rfl, rfl, by rw [hw]; rfl, ?_⟩)
      rw [hw]; exact (dgv_dec n (by omega)).symm
    · exact .inl ⟨.inl rfl, rfl, rfl⟩
    · exact .inl ⟨.inr rfl, rfl, rfl⟩
  by_cases h2 : ((wordsB s).length : Int) = 2
  · refine Ev.ite_pos h2 (Ev.ite_pos (by omega) (Ev.bind (spec_digits _ (Nat.le_trans s1 (by omega))) (Ev.bind (spec_digits _ (Nat.le_trans s1 (by omega))) ?_)))
    refine Ev.ite_pos (by simp) ?_
    have e := findD_eq s ([⟨2, 0, 0⟩, ⟨4, 0, 0⟩] ++ [⟨0, dgv (rdOf ByteArray.empty (wordsB s) 1), 0⟩, ⟨1, dgv (rdOf ByteArray.empty (wordsB s) 1), 0⟩]) (fun a b c h hz => by
      rcases hmem a b c h hz with ⟨ha, rfl, rfl⟩ | ⟨ha, rfl, _, rfl⟩ | ⟨_, h3, _⟩
      · rcases ha with rfl | rfl <;> simp
      · rcases ha with rfl | rfl <;> simp
      · omega)
    rw [← e]
    refine Ev.step (fun k => ?_) (hj1 _ (by simp))
    simp only [spec_ReadDeed.j0]
    rw [if_neg (by omega)]
  · refine Ev.ite_neg h2 ?_
    by_cases h3 : ((wordsB s).length : Int) = 3
    · have e := findD_eq s ([⟨2, 0, 0⟩, ⟨4, 0, 0⟩] ++ [⟨3, dgv (rdOf ByteArray.empty (wordsB s) 1), dgv (rdOf ByteArray.empty (wordsB s) 2)⟩]) (fun a b c h hz => by
        rcases hmem a b c h hz with ⟨ha, rfl, rfl⟩ | ⟨ha, _, h4, _⟩ | ⟨rfl, _, rfl, rfl⟩
        · rcases ha with rfl | rfl <;> simp
        · omega
        · simp)
      rw [← e]
      refine Ev.step (f := fun k => (spec_l1Digits.f k (rdOf ByteArray.empty (wordsB s) 1)).bind fun t188 => (if 2 < ((wordsB s).length : Int) then ((spec_l1Digits.f k (rdOf ByteArray.empty (wordsB s) 2)).bind fun t190 => (if [(⟨2, 0, 0⟩ : S24), ⟨4, 0, 0⟩].length < 5864062014805 then (spec_ReadDeed.j1 k s ([⟨2, 0, 0⟩, ⟨4, 0, 0⟩] ++ [(⟨3, t188, t190⟩ : S24)])) else none)) else none)) (fun k => ?_) (Ev.bind (spec_digits _ (Nat.le_trans s1 (by omega))) (Ev.ite_pos (by omega) (Ev.bind (spec_digits _ (Nat.le_trans s2 (by omega))) (Ev.ite_pos (by simp) (hj1 _ (by simp))))))
      simp only [spec_ReadDeed.j0]
      rw [if_pos h3, if_pos (by omega)]
    · have e := findD_eq s [⟨2, 0, 0⟩, ⟨4, 0, 0⟩] (fun a b c h hz => by
        rcases hmem a b c h hz with ⟨ha, rfl, rfl⟩ | ⟨ha, _, h4, _⟩ | ⟨_, h4, _⟩
        · rcases ha with rfl | rfl <;> simp
        · omega
        · omega)
      rw [← e]
      refine Ev.step (fun k => ?_) (hj1 _ (by simp))
      simp only [spec_ReadDeed.j0]
      rw [if_neg h3]

theorem rjV_end {L : List UInt8} {p : Nat} (h : (10 : UInt8) ∉ L.drop p) (d : Nat) (out : List S24) : rjV L d out p = (out, (p : Int)) := by
  cases d with
  | zero => rfl
  | succ d => rw [rjV, if_neg h]
/-- More bytes told change nothing. -/
theorem rjV_more (L : List UInt8) : ∀ (d e p : Nat) (out : List S24), L.length ≤ p + d → d ≤ e → rjV L d out p = rjV L e out p := by
  intro d
  induction d with
  | zero => intro e p out h1 h2; rw [rjV_end (drop_nil10 (by omega)), rjV_end (drop_nil10 (by omega))]
  | succ d ih =>
    intro e p out h1 h2
    obtain ⟨e, rfl⟩ : ∃ m, e = m + 1 := ⟨e - 1, by omega⟩
    rw [rjV, rjV]
    by_cases hm : (10 : UInt8) ∈ L.drop p
    · rw [if_pos hm, if_pos hm]
      by_cases hf : (rdVal (bw ((L.drop p).take (Go.Lib.index (L.drop p) [10]).toNat))).2.2.2 = true
      · rw [if_pos hf, if_pos hf]
        exact ih e _ _ (by omega) (by omega)
      · rw [if_neg hf, if_neg hf]
    · rw [if_neg hm, if_neg hm]
/-- The reference's loop: from is where the line begins, no newline stands between it and the place. -/
theorem spec_jrL (s : ByteArray) (hs2 : s.size < 4294967281) : ∀ (d i f : Nat) (out : List S24), i + d = s.size → f ≤ i → out.length ≤ f → (∀ j, f ≤ j → j < i → s.data.toList[j]? ≠ some 10) →
    Ev (fun k => spec_ReadJournal.l0 k s out (f : Int) (i : Int)) (rjV s.data.toList (s.size + 1 - f) out f) := by
  intro d
  have hl : s.data.toList.length = s.size := (size_data s).symm
  induction d with
  | zero =>
    intro i f out h hf ho hn
    have hno : (10 : UInt8) ∉ s.data.toList.drop f := by
      have := seg_no hn
      rwa [List.take_of_length_le (by rw [List.length_drop]; omega)] at this
    rw [rjV_end hno]
    refine Ev.step (f := fun _ => some (out, (f : Int))) (fun k => ?_) (Ev.now _)
    simp only [spec_ReadJournal.l0]
    rw [if_neg (by omega)]
  | succ d ih =>
    intro i f out h hf ho hn
    obtain ⟨b, hb⟩ : ∃ b, s.data.toList[i]? = some b := ⟨_, List.getElem?_eq_getElem (by omega)⟩
    by_cases hc : b = 10
    · subst hc
      have hsp := seg_split hf hb
      have hno := seg_no hn
      have hix : (Go.Lib.index (s.data.toList.drop f) [10]).toNat = i - f := by
        have hm : (10 : UInt8) ∈ s.data.toList.drop f := by rw [hsp]; simp
        obtain ⟨q, h1, h2, h3, h4⟩ := index_some hm
        rw [h1]
        have : q = i - f := by
          rcases Nat.lt_trichotomy q (i - f) with hq | hq | hq
          · exfalso
            have g : (s.data.toList.drop f)[q]? = some 10 := by
              rw [h3]
              rw [List.getElem?_append_right (by rw [List.length_take]; omega), List.length_take, Nat.min_eq_left (by omega)]
              simp
            rw [List.getElem?_drop] at g
            exact hn (f + q) (by omega) (by omega) g
          · exact hq
          · exfalso
            apply h4
            rw [List.mem_iff_getElem?]
            refine ⟨i - f, ?_⟩
            rw [List.getElem?_take, if_pos hq, List.getElem?_drop, show f + (i - f) = i by omega]
            exact hb
        omega
      have hm : (10 : UInt8) ∈ s.data.toList.drop f := by rw [hsp]; simp
      have hx : s.extract ((f : Int).toNat) ((i : Int).toNat) = bw ((s.data.toList.drop f).take (i - f)) := by
        rw [show ((f : Int)).toNat = f by omega, show ((i : Int)).toNat = i by omega, ext_bw]
      have hsz : (bw ((s.data.toList.drop f).take (i - f))).size = i - f := by rw [bw_size, List.length_take, List.length_drop]; omega
      have hr := spec_readDeed (bw ((s.data.toList.drop f).take (i - f))) (by rw [hsz]; omega)
      obtain ⟨m, hmm⟩ : ∃ m, s.size + 1 - f = m + 1 := ⟨s.size - f, by omega⟩
      rw [hmm, rjV, if_pos hm, hix]
      by_cases hq : (rdVal (bw ((s.data.toList.drop f).take (i - f)))).2.2.2 = true
      · rw [if_pos hq]
        have hih := ih (i + 1) (i + 1) (out ++ [⟨(rdVal (bw ((s.data.toList.drop f).take (i - f)))).1, (rdVal (bw ((s.data.toList.drop f).take (i - f)))).2.1, (rdVal (bw ((s.data.toList.drop f).take (i - f)))).2.2.1⟩]) (by omega) (Nat.le_refl _) (by simp; omega) (fun j h1 h2 => by omega)
        rw [show f + (i - f) + 1 = i + 1 by omega]
        rw [rjV_more s.data.toList (s.size + 1 - (i + 1)) m (i + 1) _ (by omega) (by omega)] at hih
        refine Ev.step (f := fun k => (spec_ReadDeed.f k (bw ((s.data.toList.drop f).take (i - f)))).bind fun bt200 => (if bt200.2.2.2 = true then (if out.length < 5864062014805 then (spec_ReadJournal.l0 k s (out ++ [(⟨bt200.1, bt200.2.1, bt200.2.2.1⟩ : S24)]) ((i + 1 : Nat) : Int) ((i + 1 : Nat) : Int)) else (none)) else (some (out, (f : Int))))) (fun k => ?_) (Ev.bind hr (Ev.ite_pos hq (Ev.ite_pos (by omega) hih)))
        simp only [spec_ReadJournal.l0]
        rw [if_pos (by omega), if_pos (by omega), bt_get hb, if_pos (by decide), if_pos (by omega), if_pos (by omega), if_pos (by omega), hx, w64 (by omega) (by omega)]
        rfl
      · rw [if_neg hq]
        refine Ev.step (f := fun k => (spec_ReadDeed.f k (bw ((s.data.toList.drop f).take (i - f)))).bind fun bt200 => (if bt200.2.2.2 = true then (if out.length < 5864062014805 then (spec_ReadJournal.l0 k s (out ++ [(⟨bt200.1, bt200.2.1, bt200.2.2.1⟩ : S24)]) (wrap64 ((i : Int) + 1)) (wrap64 ((i : Int) + 1))) else (none)) else (some (out, (f : Int))))) (fun k => ?_) (Ev.bind hr (Ev.ite_neg hq (Ev.now _)))
        simp only [spec_ReadJournal.l0]
        rw [if_pos (by omega), if_pos (by omega), bt_get hb, if_pos (by decide), if_pos (by omega), if_pos (by omega), if_pos (by omega), hx]
    · refine Ev.step (fun k => ?_) (ih (i + 1) f out (by omega) (by omega) ho (fun j h1 h2 => ?_))
      · simp only [spec_ReadJournal.l0]
        rw [if_pos (by omega), if_pos (by omega), bt_get hb, if_neg (fun hz => hc (UInt8.toNat.inj (by have : (10 : UInt8).toNat = 10 := rfl; omega))), w64 (by omega) (by omega)]
        rfl
      · by_cases hj : j = i
        · subst hj; rw [hb]; exact fun hz => hc (Option.some.inj hz)
        · exact hn j h1 (by omega)
theorem spec_readJournal (s : ByteArray) (hs2 : s.size < 4294967281) : Ev (fun k => spec_ReadJournal.f k s) (rjV s.data.toList (s.size + 1) [] 0) := by
  unfold spec_ReadJournal.f
  exact spec_jrL s hs2 s.size 0 0 [] (by omega) (Nat.le_refl _) (by simp) (fun j h1 h2 => by omega)
theorem rjV_len (L : List UInt8) : ∀ (d p : Nat) (out : List S24), (rjV L d out p).1.length ≤ out.length + d
  | 0, p, out => by simp [rjV]
  | d + 1, p, out => by
    rw [rjV]
    split
    · split
      · have := rjV_len L d (p + (Go.Lib.index (L.drop p) [10]).toNat + 1) (out ++ [⟨(rdVal (bw ((L.drop p).take (Go.Lib.index (L.drop p) [10]).toNat))).1, (rdVal (bw ((L.drop p).take (Go.Lib.index (L.drop p) [10]).toNat))).2.1, (rdVal (bw ((L.drop p).take (Go.Lib.index (L.drop p) [10]).toNat))).2.2.1⟩])
        simp only [List.length_append, List.length_singleton] at this
        omega
      · simp
    · simp

theorem eqDeedsL (l : List S24) (hl : l.length ≤ 9223372036854775806) : ∀ (d i : Nat), i + d = l.length → Ev (fun k => laws_eqDeedS.l0 k l l (i : Int)) true := by
  intro d
  induction d with
  | zero =>
    intro i h
    refine Ev.step (f := fun _ => some true) (fun k => ?_) (Ev.now _)
    simp only [laws_eqDeedS.l0]
    rw [if_neg (by omega)]
  | succ d ih =>
    intro i h
    refine Ev.step (fun k => ?_) (ih (i + 1) (by omega))
    simp only [laws_eqDeedS.l0, laws_eqDeed.f]
    rw [if_pos (by omega), if_pos (by omega), if_pos (by omega), w64 (by omega) (by omega)]
    simp only [if_true, Option.bind_some]
    rfl
theorem eqDeeds (l : List S24) (hl : l.length ≤ 9223372036854775806) : Ev (fun k => laws_eqDeedS.f k l l) true := by
  unfold laws_eqDeedS.f
  exact Ev.ite_pos rfl (eqDeedsL l hl l.length 0 (by omega))

/-- A list of deeds marked from a number on. -/
def mkL (n : Int) : List S24 → List S24
  | [] => []
  | _ :: r => ⟨n, n + 1, n + 2⟩ :: mkL (n + 3) r
theorem mkL_len (n : Int) : ∀ l : List S24, (mkL n l).length = l.length
  | [] => rfl
  | _ :: r => by rw [mkL, List.length_cons, mkL_len (n + 3) r, List.length_cons]
theorem markL (l0 : List S24) (hl : l0.length ≤ 1000000000000) : ∀ (r : List S24) (i : Nat) (n : Int) (pre : List S24), pre.length = i → pre.length + r.length = l0.length → 0 ≤ n → n ≤ 3 * i + 1 →
    Ev (fun k => laws_markDeedS.l0 k (pre ++ r) n (i : Int)) (n + 3 * r.length, pre ++ mkL n r) := by
  intro r
  induction r with
  | nil =>
    intro i n pre hp hl2 h0 h1
    refine Ev.step (f := fun _ => some (n + 3 * (([] : List S24).length : Int), pre ++ mkL n [])) (fun k => ?_) (Ev.now _)
    simp only [laws_markDeedS.l0]
    rw [if_neg (by simp; omega)]
    simp [mkL]
  | cons d r ih =>
    intro i n pre hp hl2 h0 h1
    simp only [List.length_cons] at hl2
    have h := ih (i + 1) (n + 3) (pre ++ [⟨n, n + 1, n + 2⟩]) (by simp; omega) (by simp; omega) (by omega) (by omega)
    have e1 : (pre ++ [(⟨n, n + 1, n + 2⟩ : S24)]) ++ mkL (n + 3) r = pre ++ mkL n (d :: r) := by rw [mkL]; simp
    have e2 : n + 3 + 3 * (r.length : Int) = n + 3 * ((d :: r).length : Int) := by simp; omega
    rw [e1, e2] at h
    refine Ev.step (fun k => ?_) h
    simp only [laws_markDeedS.l0, Option.bind_some]
    have hi : (i : Int).toNat = pre.length := by omega
    have hset : ∀ x y : S24, (pre ++ x :: r).set pre.length y = pre ++ y :: r := fun x y => by rw [List.set_append_right _ _ (Nat.le_refl _)]; simp
    have hrd : ∀ x : S24, rd_T24 (pre ++ x :: r) (i : Int) = x := fun x => by unfold rd_T24; rw [hi]; simp [List.getD]
    rw [if_pos (by simp; omega), if_pos (by omega), hi]
    simp only [hset, hrd]
    rw [w64 (n := n + 1) (by omega) (by omega), w64 (n := n + 1 + 1) (by omega) (by omega), w64 (n := n + 1 + 1 + 1) (by omega) (by omega), w64 (by omega) (by omega)]
    rw [show n + 1 + 1 + 1 = n + 3 by omega, show n + 1 + 1 = n + 2 by omega]
    simp
theorem markDeeds (l : List S24) (hl : l.length ≤ 1000000000000) : Ev (fun k => laws_markDeedS.f k l 1) (1 + 3 * (l.length : Int), mkL 1 l) := by
  unfold laws_markDeedS.f
  have h := markL l hl l 0 1 [] rfl (by simp) (by omega) (by omega)
  simpa using h
theorem heldL (l0 : List S24) (hl : l0.length ≤ 1000000000000) : ∀ (r : List S24) (i : Nat) (n : Int), l0.drop i = mkL n r → i + r.length = l0.length → 0 ≤ n → n ≤ 3 * i + 1 → Ev (fun k => laws_heldDeedS.l0 k l0 n (i : Int)) (n + 3 * r.length) := by
  intro r
  induction r with
  | nil =>
    intro i n h hl2 h0 h1
    refine Ev.step (f := fun _ => some (n + 3 * (([] : List S24).length : Int))) (fun k => ?_) (Ev.now _)
    simp only [laws_heldDeedS.l0]
    simp only [List.length_nil] at hl2
    rw [if_neg (by omega)]
    simp
  | cons d r ih =>
    intro i n h hl2 h0 h1
    rw [mkL] at h
    obtain ⟨g1, g2, g3⟩ := drop_at h
    simp only [List.length_cons] at hl2
    have hh := ih (i + 1) (n + 3) g3 (by omega) (by omega) (by omega)
    have e2 : n + 3 + 3 * (r.length : Int) = n + 3 * ((d :: r).length : Int) := by simp; omega
    rw [e2] at hh
    refine Ev.step (fun k => ?_) hh
    have hrd : rd_T24 l0 (i : Int) = ⟨n, n + 1, n + 2⟩ := by unfold rd_T24; simp [List.getD, g2]
    simp only [laws_heldDeedS.l0, hrd]
    rw [if_pos (by omega), if_pos (by omega), w64 (n := n + 1) (by omega) (by omega), w64 (n := n + 1 + 1) (by omega) (by omega), w64 (n := n + 1 + 1 + 1) (by omega) (by omega), w64 (by omega) (by omega)]
    rw [if_pos rfl, if_pos (show n + 2 = n + 1 + 1 by omega), show n + 1 + 1 + 1 = n + 3 by omega]
    rfl
theorem heldDeeds (l : List S24) (hl : l.length ≤ 1000000000000) : Ev (fun k => laws_heldDeedS.f k (mkL 1 l) 1) (1 + 3 * (l.length : Int)) := by
  unfold laws_heldDeedS.f
  exact heldL (mkL 1 l) (by rw [mkL_len]; exact hl) l 0 1 rfl (by rw [mkL_len]; omega) (by omega) (by omega)

theorem FnExactReadJournal : laws_FnExactReadJournal.Pure := by
  intro s hs
  refine Ev.rounds ?_
  unfold laws_FnExactReadJournal.f
  by_cases h : (s.size : Int) > 1048576
  · exact Ev.ite_pos h (Ev.now _)
  · have hi := impl_readJournal s (by omega)
    have hsp := spec_readJournal s (by omega)
    have hlen := rjV_len s.data.toList (s.size + 1) 0 []
    simp only [List.length_nil] at hlen
    generalize rjV s.data.toList (s.size + 1) [] 0 = V at hi hsp hlen
    refine Ev.ite_neg h (Ev.bind hsp (Ev.bind hi (Ev.bind (eqDeeds V.1 (by omega)) (Ev.ite_pos rfl ?_))))
    have hne : (V.2 != V.2) = false := by simp
    rw [hne]
    refine Ev.step (f := fun k => (laws_markDeedS.f k V.1 1).bind fun bt228 => ((laws_heldDeedS.f k bt228.2 1).bind fun t230 => (if t230 < 0 then (some false) else (if t230 = bt228.1 then ((impl_ReadJournal.f k s).bind fun bt231 => ((laws_eqDeedS.f k bt231.1 V.1).bind fun t235 => (if t235 = true then (laws_FnExactReadJournal.j1 k bt228.2 bt228.1 (bt231.2 != V.2)) else (laws_FnExactReadJournal.j1 k bt228.2 bt228.1 true)))) else (some false))))) (fun k => ?_) ?_
    · simp only [laws_FnExactReadJournal.j0]
      rw [if_neg (by simp)]
    · refine Ev.bind (markDeeds V.1 (by omega)) (Ev.bind (heldDeeds V.1 (by omega)) (Ev.ite_neg (by omega) (Ev.ite_pos rfl (Ev.bind hi (Ev.bind (eqDeeds V.1 (by omega)) (Ev.ite_pos rfl ?_))))))
      rw [hne]
      refine Ev.step (f := fun k => (laws_heldDeedS.f k (mkL 1 V.1) 1).bind fun t236 => (if t236 < 0 then (some false) else (if t236 = 1 + 3 * (V.1.length : Int) then (some true) else (some false)))) (fun k => ?_) (Ev.bind (heldDeeds V.1 (by omega)) (Ev.ite_neg (by omega) (Ev.ite_pos rfl (Ev.now _))))
      simp only [laws_FnExactReadJournal.j1]
      rw [if_neg (by simp)]

end Go.Proofs.YtmgjidgfhlclmaaDoor.Pure
