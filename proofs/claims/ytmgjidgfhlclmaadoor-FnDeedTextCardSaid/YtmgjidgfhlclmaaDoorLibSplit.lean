/-
  Plain lemmas on words between single bytes, on numerals read back, and on which texts are the text of a deed. No program in sight.
-/
import Derived.RowKit
import Derived.Lib.SplitLaws
import Derived.Lib.AtoiAllCases
import Derived.Laws.Strings
import Derived.Test.YtmgjidgfhlclmaaDoorWWords
import Derived.Test.YtmgjidgfhlclmaaDoorLib
import Derived.Test.YtmgjidgfhlclmaaDoorLibTxt
namespace Go.Proofs.YtmgjidgfhlclmaaDoor.Lib
open Go.RowKit Go.Proofs.YtmgjidgfhlclmaaDoorW.PrintWords
set_option linter.unusedVariables false
set_option linter.unusedSimpArgs false

/-- Bytes as a text. -/
def bw (l : List UInt8) : ByteArray := ⟨l.toArray⟩
theorem bw_data (s : ByteArray) : bw s.data.toList = s := rfl
theorem data_bw (l : List UInt8) : (bw l).data.toList = l := rfl
theorem bw_size (l : List UInt8) : (bw l).size = l.length := by show l.toArray.size = _; simp
theorem size_data (s : ByteArray) : s.size = s.data.toList.length := by show s.data.size = _; simp
theorem data_app (x y : ByteArray) : (x ++ y).data.toList = x.data.toList ++ y.data.toList := by simp
theorem bw_inj {s t : ByteArray} (h : s.data.toList = t.data.toList) : s = t := by rw [← bw_data s, h, bw_data]
theorem toList_inj {s t : ByteArray} : s.toList = t.toList ↔ s = t := by
  rw [ByteArray.toList_eq, ByteArray.toList_eq]
  exact ⟨bw_inj, fun h => by rw [h]⟩
theorem toList_nil {s : ByteArray} : s.toList = ([] : List UInt8) ↔ s.size = 0 := by
  rw [ByteArray.toList_eq, size_data]
  exact ⟨fun h => by rw [h]; rfl, fun h => List.eq_nil_of_length_eq_zero h⟩

/-- What stands between the bytes c. -/
def wordsL (c : UInt8) : List UInt8 → List (List UInt8)
  | [] => [[]]
  | b :: r => if b = c then [] :: wordsL c r else match wordsL c r with
    | [] => [[b]]
    | w :: ws => (b :: w) :: ws
theorem wordsL_ne (c : UInt8) (l : List UInt8) : ∃ w ws, wordsL c l = w :: ws := by
  cases l with
  | nil => exact ⟨_, _, rfl⟩
  | cons b r =>
    unfold wordsL
    split
    · exact ⟨_, _, rfl⟩
    · split
      · exact ⟨_, _, rfl⟩
      · exact ⟨_, _, rfl⟩
theorem wordsL_plain {c : UInt8} : ∀ {l : List UInt8}, c ∉ l → wordsL c l = [l]
  | [], _ => rfl
  | b :: r, h => by
    have hb : b ≠ c := fun e => h (by rw [e]; exact List.mem_cons_self)
    rw [wordsL, if_neg hb, wordsL_plain (fun hm => h (List.mem_cons_of_mem _ hm))]
theorem wordsL_cut {c : UInt8} (r : List UInt8) : ∀ {w : List UInt8}, c ∉ w → wordsL c (w ++ c :: r) = w :: wordsL c r
  | [], _ => by rw [List.nil_append, wordsL, if_pos rfl]
  | b :: w, h => by
    have hb : b ≠ c := fun e => h (by rw [e]; exact List.mem_cons_self)
    rw [List.cons_append, wordsL, if_neg hb, wordsL_cut r (fun hm => h (List.mem_cons_of_mem _ hm))]
theorem wordsL_len (c : UInt8) : ∀ (l : List UInt8) (w : List UInt8), w ∈ wordsL c l → w.length ≤ l.length
  | [], w, h => by simp [wordsL] at h; subst h; simp
  | b :: r, w, h => by
    rw [wordsL] at h
    split at h
    · rcases List.mem_cons.1 h with rfl | h
      · simp
      · have := wordsL_len c r w h; simp; omega
    · obtain ⟨u, us, e⟩ := wordsL_ne c r
      rw [e] at h
      simp only at h
      rcases List.mem_cons.1 h with rfl | h
      · have := wordsL_len c r u (by rw [e]; exact List.mem_cons_self); simp; omega
      · have := wordsL_len c r w (by rw [e]; exact List.mem_cons_of_mem _ h); simp; omega
theorem index_eq0 (c : UInt8) (r : List UInt8) : Go.Lib.index (c :: r) [c] = 0 := by
  unfold Go.Lib.index; rw [if_pos (by simp)]
theorem index_ne0 {b c : UInt8} (h : b ≠ c) (r : List UInt8) : Go.Lib.index (b :: r) [c] = if Go.Lib.index r [c] == -1 then -1 else Go.Lib.index r [c] + 1 := by
  rw [Go.Lib.index, if_neg (by simp [List.isPrefixOf]; exact fun e => h e.symm)]
theorem index_none_iff {c : UInt8} : ∀ {l : List UInt8}, Go.Lib.index l [c] = -1 ↔ c ∉ l
  | [] => by simp [Go.Lib.index]
  | b :: r => by
    by_cases h : b = c
    · subst h; rw [index_eq0]; simp
    · rw [index_ne0 h]
      have ih := index_none_iff (c := c) (l := r)
      have hg := Go.Lib.index_ge r [c]
      by_cases hi : Go.Lib.index r [c] = -1
      · rw [if_pos (by rw [hi]; first | trivial | rfl)]
        simp only [List.mem_cons, not_or]
        exact ⟨fun _ => ⟨fun e => h e.symm, ih.1 hi⟩, fun _ => by first | trivial | rfl⟩
      · rw [if_neg (by simpa using hi)]
        simp only [List.mem_cons, not_or]
        exact ⟨fun e => by omega, fun z => absurd (ih.2 z.2) hi⟩
theorem index_some {c : UInt8} : ∀ {l : List UInt8}, c ∈ l → ∃ i : Nat, Go.Lib.index l [c] = i ∧ i < l.length ∧ l = l.take i ++ c :: l.drop (i + 1) ∧ c ∉ l.take i
  | [], h => by simp at h
  | b :: r, h => by
    by_cases hb : b = c
    · subst hb; exact ⟨0, index_eq0 b r, by simp, by simp, by simp⟩
    · have hr : c ∈ r := by
        rcases List.mem_cons.1 h with e | e
        · exact absurd e.symm hb
        · exact e
      obtain ⟨i, h1, h2, h3, h4⟩ := index_some hr
      refine ⟨i + 1, ?_, by simp; omega, ?_, ?_⟩
      · rw [index_ne0 hb, h1, if_neg (by simp <;> omega)]; omega
      · simp only [List.take_succ_cons, List.drop_succ_cons, List.cons_append]
        rw [← h3]
      · simp only [List.take_succ_cons, List.mem_cons, not_or]
        exact ⟨fun e => hb e.symm, h4⟩
theorem splitK_words (c : UInt8) : ∀ s : List UInt8, Go.Lib.splitK [c] 0 (Go.Lib.count s [c]) s = wordsL c s
  | [] => by rw [Go.Lib.count_one]; rfl
  | b :: r => by
    have ih := splitK_words c r
    by_cases hb : b = c
    · subst hb
      rw [Go.Lib.count_cons_eq, Nat.add_comm, Go.Lib.splitK, index_eq0, wordsL, if_pos rfl, ← ih]
      rfl
    · rw [Go.Lib.count_cons_ne b c r hb, wordsL, if_neg hb, ← ih]
      cases hk : Go.Lib.count r [c] with
      | zero => rfl
      | succ k =>
        have hm : c ∈ r := by
          rw [Go.Lib.count_one] at hk
          exact List.count_pos_iff.1 (by omega)
        obtain ⟨i, h1, h2, h3, h4⟩ := index_some hm
        have h5 : Go.Lib.index (b :: r) [c] = ((i + 1 : Nat) : Int) := by rw [index_ne0 hb, h1, if_neg (by simp <;> omega)]; omega
        rw [Go.Lib.splitK, h5, if_neg (by simp <;> omega), Go.Lib.splitK, h1, if_neg (by simp <;> omega)]
        simp
theorem splitB_words (c : UInt8) (s : ByteArray) : Go.Lib.splitB (bw [c]) 0 (Go.Lib.countB s (bw [c])) s = (wordsL c s.data.toList).map bw := by
  have h := Go.Lib.splitB_data (bw [c]) 0 (Go.Lib.countB s (bw [c])) s
  have e : Go.Lib.splitK (bw [c]).data.toList 0 (Go.Lib.countB s (bw [c])) s.data.toList = wordsL c s.data.toList := splitK_words c s.data.toList
  rw [e] at h
  rw [← h, List.map_map]
  exact (List.map_id _).symm

theorem ext_bw (s : ByteArray) (f i : Nat) : s.extract f i = bw ((s.data.toList.drop f).take (i - f)) := by
  apply bw_inj
  rw [data_bw, ByteArray.data_extract, Array.toList_extract]
theorem bt_get {s : ByteArray} {i : Nat} {b : UInt8} (h : s.data.toList[i]? = some b) : bt s (i : Int) = (b.toNat : Int) := by
  have hl : i < s.size := by rw [size_data]; exact (List.getElem?_eq_some_iff.1 h).1
  unfold bt
  rw [dif_pos (by omega)]
  have e : (i : Int).toNat = i := by omega
  simp only [e]
  have : s[i] = b := by
    have := (List.getElem?_eq_some_iff.1 h).2
    rw [← this]; rfl
  rw [this]
theorem seg_no {L : List UInt8} {c : UInt8} {f i : Nat} (h : ∀ j, f ≤ j → j < i → L[j]? ≠ some c) : c ∉ (L.drop f).take (i - f) := by
  intro hm
  obtain ⟨j, hj⟩ := List.mem_iff_getElem?.1 hm
  rw [List.getElem?_take] at hj
  split at hj
  · rw [List.getElem?_drop] at hj
    exact h (f + j) (by omega) (by omega) hj
  · cases hj
theorem seg_split {L : List UInt8} {c : UInt8} {f i : Nat} (hf : f ≤ i) (h : L[i]? = some c) : L.drop f = (L.drop f).take (i - f) ++ c :: L.drop (i + 1) := by
  have h1 : L.drop i = c :: L.drop (i + 1) := by
    obtain ⟨hl, he⟩ := List.getElem?_eq_some_iff.1 h
    rw [List.drop_eq_getElem_cons hl, he]
  have h2 := List.take_append_drop (i - f) (L.drop f)
  rw [List.drop_drop, show f + (i - f) = i by omega, h1] at h2
  exact h2.symm

/-! ### numerals read back -/
theorem dec_big {u : Nat} (h : ¬ u < 10) : Go.Lib.decDigits u = Go.Lib.decDigits (u / 10) ++ [UInt8.ofNat (48 + u % 10)] := by rw [Go.Lib.decDigits, dif_neg h]
theorem ofNat_toNat {n : Nat} (h : n < 256) : (UInt8.ofNat n).toNat = n := by simp; omega
theorem dec_digits (u : Nat) : ∀ b ∈ Go.Lib.decDigits u, 48 ≤ b.toNat ∧ b.toNat ≤ 57 := by
  induction u using Nat.strongRecOn with
  | _ u ih =>
    by_cases h : u < 10
    · rw [Go.Lib.decDigits_one h]
      intro b hb
      obtain rfl := List.mem_singleton.1 hb
      rw [ofNat_toNat (by omega)]; omega
    · rw [dec_big h]
      intro b hb
      rcases List.mem_append.1 hb with hb | hb
      · exact ih (u / 10) (by omega) b hb
      · obtain rfl := List.mem_singleton.1 hb
        rw [ofNat_toNat (by omega)]; omega
theorem dec_no {u : Nat} {c : UInt8} (h : c.toNat < 48) : c ∉ Go.Lib.decDigits u := fun hm => by have := dec_digits u c hm; omega
theorem dec_head (u : Nat) : ∃ b r, Go.Lib.decDigits u = b :: r ∧ (1 ≤ u → b.toNat ≠ 48) := by
  induction u using Nat.strongRecOn with
  | _ u ih =>
    by_cases h : u < 10
    · exact ⟨_, [], Go.Lib.decDigits_one h, fun h1 => by rw [ofNat_toNat (by omega)]; omega⟩
    · obtain ⟨b, r, h1, h2⟩ := ih (u / 10) (by omega)
      exact ⟨b, r ++ [UInt8.ofNat (48 + u % 10)], by rw [dec_big h, h1, List.cons_append], fun _ => h2 (by omega)⟩
theorem dec_last (u : Nat) : ∃ r b, Go.Lib.decDigits u = r ++ [b] ∧ 48 ≤ b.toNat := by
  by_cases h : u < 10
  · exact ⟨[], _, by rw [Go.Lib.decDigits_one h]; rfl, by rw [ofNat_toNat (by omega)]; omega⟩
  · exact ⟨_, _, dec_big h, by rw [ofNat_toNat (by omega)]; omega⟩
theorem nDigits_pow : ∀ (k u : Nat), u < 10 ^ (k + 1) → Go.Lib.nDigits u ≤ k + 1
  | 0, u, h => by rw [Go.Lib.nDigits_small (by simpa using h)]; omega
  | k + 1, u, h => by
    by_cases h1 : u < 10
    · rw [Go.Lib.nDigits_small h1]; omega
    · rw [Go.Lib.nDigits_big h1]
      have := nDigits_pow k (u / 10) (by rw [Nat.pow_succ] at h; omega)
      omega
theorem parse_app : ∀ (xs ys : List UInt8) (a m : Nat), Go.Lib.parseUint10 a xs = .ok m → Go.Lib.parseUint10 a (xs ++ ys) = Go.Lib.parseUint10 m ys
  | [], ys, a, m, h => by simp only [Go.Lib.parseUint10] at h; injection h with h; subst h; rfl
  | c :: r, ys, a, m, h => by
    rw [List.cons_append, Go.Lib.parseUint10]
    rw [Go.Lib.parseUint10] at h
    split at h
    · rename_i h1
      rw [if_pos h1]
      split at h
      · cases h
      · rename_i h2
        rw [if_neg h2]
        split at h
        · cases h
        · rename_i h3
          rw [if_neg h3]
          exact parse_app r ys _ m h
    · cases h
theorem parse_dec (u : Nat) (h : u ≤ 1000000) : Go.Lib.parseUint10 0 (Go.Lib.decDigits u) = .ok u := by
  induction u using Nat.strongRecOn with
  | _ u ih =>
    by_cases h1 : u < 10
    · rw [Go.Lib.decDigits_one h1]
      simp only [Go.Lib.parseUint10]
      rw [ofNat_toNat (by omega), if_pos (by omega), if_neg (by omega), if_neg (by omega)]
      congr 1; omega
    · rw [dec_big h1, parse_app _ _ 0 (u / 10) (ih (u / 10) (by omega) (by omega))]
      simp only [Go.Lib.parseUint10]
      rw [ofNat_toNat (by omega), if_pos (by omega), if_neg (by omega), if_neg (by omega)]
      congr 1; omega
theorem atoi_dec (u : Nat) (h : u ≤ 1000000) : Go.Lib.atoiAll (Go.Lib.decDigits u) = .ok (u : Int) := by
  obtain ⟨b, r, e, _⟩ := dec_head u
  have hb := dec_digits u b (by rw [e]; exact List.mem_cons_self)
  have hp := parse_dec u h
  rw [e] at hp ⊢
  rw [Go.Lib.atoiAll_plain b r (by omega) (by omega)]
  unfold Go.Lib.parseMag
  rw [if_neg (by simp), hp]
  unfold Go.Lib.signless
  simp only
  rw [if_neg (by omega)]
/-- What strconv.Atoi's number is. -/
def aval (s : ByteArray) : Int := match Go.Lib.atoiAll s.data.toList with
  | .ok v => v
  | .range => Go.Lib.atoiSat s.data.toList
  | _ => 0
theorem digB_bw (n : Nat) : digB (n : Int) = bw (Go.Lib.decDigits n) := digB_nat n
theorem aval_dig (u : Nat) (h : u ≤ 1000000) : aval (bw (Go.Lib.decDigits u)) = (u : Int) := by
  unfold aval
  rw [data_bw, atoi_dec u h]

/-! ### the bytes of a deed's text -/
theorem dText_cases (a b c : Int) (h : (dText a b c).size ≠ 0) :
    (a = 3 ∧ ∃ n m : Nat, b = n ∧ c = m ∧ n ≤ 99 ∧ m ≤ 9999 ∧ (dText a b c).data.toList = [115, 101, 116] ++ 32 :: (Go.Lib.decDigits n ++ 32 :: Go.Lib.decDigits m)) ∨
    (a = 0 ∧ c = 0 ∧ ∃ n : Nat, b = n ∧ n ≤ 9 ∧ (dText a b c).data.toList = [116, 105, 109, 101, 115] ++ 32 :: Go.Lib.decDigits n) ∨
    (a = 1 ∧ c = 0 ∧ ∃ n : Nat, b = n ∧ n ≤ 9 ∧ (dText a b c).data.toList = [117, 110, 105, 116, 97, 114, 121] ++ 32 :: Go.Lib.decDigits n) ∨
    (a = 2 ∧ b = 0 ∧ c = 0 ∧ (dText a b c).data.toList = [105, 110, 118, 101, 114, 115, 101]) ∨
    (a = 4 ∧ b = 0 ∧ c = 0 ∧ (dText a b c).data.toList = [98, 97, 99, 107]) := by
  by_cases h3 : a = 3 ∧ 0 ≤ b ∧ b ≤ 99 ∧ 0 ≤ c ∧ c ≤ 9999
  · obtain ⟨rfl, h1, h2, h4, h5⟩ := h3
    obtain ⟨n, rfl⟩ : ∃ n : Nat, b = n := ⟨b.toNat, by omega⟩
    obtain ⟨m, rfl⟩ : ∃ m : Nat, c = m := ⟨c.toNat, by omega⟩
    refine .inl ⟨rfl, n, m, rfl, rfl, by omega, by omega, ?_⟩
    unfold dText
    rw [if_pos ⟨rfl, h1, h2, h4, h5⟩, digB_bw, digB_bw, data_app, data_app, data_app]
    simp [tSet, tSp, bw]
  · have e : dText a b c = (if ¬ (c = 0 ∧ 0 ≤ b ∧ b ≤ 9) then tNone else if a = 0 then tTimes ++ digB b else if a = 1 then tUnit ++ digB b else if b = 0 ∧ a = 2 then tInv else if b = 0 ∧ a = 4 then tBack else tNone) := by
      unfold dText; rw [if_neg h3]
    rw [e] at h ⊢
    by_cases hc : c = 0 ∧ 0 ≤ b ∧ b ≤ 9
    · rw [if_neg (by simpa using hc)] at h ⊢
      obtain ⟨rfl, h1, h2⟩ := hc
      obtain ⟨n, rfl⟩ : ∃ n : Nat, b = n := ⟨b.toNat, by omega⟩
      by_cases c0 : a = 0
      · refine .inr (.inl ⟨c0, rfl, n, rfl, by omega, ?_⟩)
        rw [if_pos c0, digB_bw, data_app]; simp [tTimes, bw]
      · rw [if_neg c0] at h ⊢
        by_cases c1 : a = 1
        · refine .inr (.inr (.inl ⟨c1, rfl, n, rfl, by omega, ?_⟩))
          rw [if_pos c1, digB_bw, data_app]; simp [tUnit, bw]
        · rw [if_neg c1] at h ⊢
          by_cases c2 : (n : Int) = 0 ∧ a = 2
          · refine .inr (.inr (.inr (.inl ⟨c2.2, c2.1, rfl, ?_⟩)))
            rw [if_pos c2]; rfl
          · rw [if_neg c2] at h ⊢
            by_cases c4 : (n : Int) = 0 ∧ a = 4
            · refine .inr (.inr (.inr (.inr ⟨c4.2, c4.1, rfl, ?_⟩)))
              rw [if_pos c4]; rfl
            · rw [if_neg c4] at h; exact absurd rfl h
    · rw [if_pos hc] at h; exact absurd rfl h

end Go.Proofs.YtmgjidgfhlclmaaDoor.Lib
