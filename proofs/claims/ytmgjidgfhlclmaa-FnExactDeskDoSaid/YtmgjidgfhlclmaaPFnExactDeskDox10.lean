-- Written for this claim by a program of this session (wip/myprint.sh), after the kit's print; some functions by hand
import Derived.Test.YtmgjidgfhlclmaaPFnExactDeskDox0
import Derived.Test.YtmgjidgfhlclmaaPFnExactDeskDox8
import Derived.Test.YtmgjidgfhlclmaaWPress
namespace Go.Proofs.Ytmgjidgfhlclmaa.PFnExactDeskDo
open Go.RowKit Go.Proofs.YtmgjidgfhlclmaaW.PrintWords Go.Proofs.YtmgjidgfhlclmaaW.PrintLast Go.Proofs.YtmgjidgfhlclmaaW.PrintMore
attribute [local go_sem] max2_int min2_int max_two min_two max_three min_three max_four min_four   -- for this text's walks alone
set_option linter.unusedVariables false
set_option linter.unusedSimpArgs false

/-! ### spec_FactorsOf: function 88 -/
mutual
def spec_FactorsOf.l0 : Nat → Int → List (List Int) → Int → Int → Option ((List (List Int)))
 | 0, _, _, _, _ => none
 | k + 1, x0, x3, x4, x5 => if x5 ≤ x4 then ((spec_l1In.f x0 1 10000).bind fun t322 => (spec_FactorsOf.j1 k x0 x3 x4 x5 t322)) else (spec_FactorsOf.j1 k x0 x3 x4 x5 false)
def spec_FactorsOf.j1 : Nat → Int → List (List Int) → Int → Int → Bool → Option ((List (List Int)))
 | 0, _, _, _, _, _ => none
 | k + 1, x0, x3, x4, x5, x15 => if x15 = true then (spec_FactorsOf.l1 k x0 x3 x4 x5 0) else (some x3)
def spec_FactorsOf.l1 : Nat → Int → List (List Int) → Int → Int → Int → Option ((List (List Int)))
 | 0, _, _, _, _, _ => none
 | k + 1, x0, x3, x4, x5, x6 => if x5 = 0 then (none) else (if (Int.tmod x4 x5) = 0 then (spec_FactorsOf.l1 k x0 x3 (wrap64 (Int.tdiv x4 x5)) x5 (wrap64 (x6 + 1))) else (if x6 > 0 then (if x3.length < 5864062014805 then (spec_FactorsOf.l0 k x0 (x3 ++ [(([x5, x6] : List Int))]) x4 (wrap64 (x5 + 1))) else (none)) else (spec_FactorsOf.l0 k x0 x3 x4 (wrap64 (x5 + 1)))))
end
def spec_FactorsOf.f (k : Nat) (a0 : Int) : Option ((List (List Int))) := spec_FactorsOf.l0 k a0 (([] : List (List Int))) a0 2
theorem spec_FactorsOf.mono_l : ∀ k, (∀ y0 y1 y2 y3, LeO (spec_FactorsOf.l0 k y0 y1 y2 y3) (spec_FactorsOf.l0 (k + 1) y0 y1 y2 y3)) ∧ (∀ y0 y1 y2 y3 y4, LeO (spec_FactorsOf.j1 k y0 y1 y2 y3 y4) (spec_FactorsOf.j1 (k + 1) y0 y1 y2 y3 y4)) ∧ (∀ y0 y1 y2 y3 y4, LeO (spec_FactorsOf.l1 k y0 y1 y2 y3 y4) (spec_FactorsOf.l1 (k + 1) y0 y1 y2 y3 y4))
 | 0 => ⟨fun _ _ _ _ r h => by simp [spec_FactorsOf.l0] at h, fun _ _ _ _ _ r h => by simp [spec_FactorsOf.j1] at h, fun _ _ _ _ _ r h => by simp [spec_FactorsOf.l1] at h⟩
 | k + 1 => by
  obtain ⟨ih0, ih1, ih2⟩ := spec_FactorsOf.mono_l k; refine ⟨?_, ?_, ?_⟩
  ·intro y0 y1 y2 y3; unfold spec_FactorsOf.l0; exact mz
  ·intro y0 y1 y2 y3 y4; unfold spec_FactorsOf.j1; exact mz
  ·intro y0 y1 y2 y3 y4; unfold spec_FactorsOf.l1; exact mz
theorem spec_FactorsOf.mono : ∀ a0 k, LeO (spec_FactorsOf.f k a0) (spec_FactorsOf.f (k + 1) a0) := by
 intro a0 k; obtain ⟨ih0, ih1, ih2⟩ := spec_FactorsOf.mono_l k; unfold spec_FactorsOf.f; exact mz
set_option maxHeartbeats 8000000 in
set_option maxRecDepth 100000 in
theorem spec_FactorsOf.calls (k : Nat) (a0 : Int) (r : List (List Int)) (w : World) (h : spec_FactorsOf.f k a0 = some r) :
  Calls Try.prog 88 #[.int .i64 a0] w fun e w' => ∃ v0_ : Value, e = .returned (v0_) ∧ Kd.S (Kd.slice 3 (Kd.int .i64)) 23 w' w.heap.size (fun _ => True) v0_ r ∧ Below w.heap.size w w' := by
 have HB := qa (Below.refl w.heap.size w); have H : (spec_FactorsOf.l0 k a0 (([] : List (List Int))) a0 2) = some r := h; clear h; obtain ⟨y319, hy_⟩ : ∃ y_ : List (List Int), y_ = (([] : List (List Int))) := ⟨_, rfl⟩; replace H : (spec_FactorsOf.l0 k a0 y319 a0 2) = some r := yh; have Ny319 := qa hy_; clear hy_; have H' := qa H; clear H
 go_enter Try.func88, Try.ntmps88
 go_wp2_with (first | ((with_reducible refine gate_dst (N := 7) rfl ?_); refine Kd.S_lit (Kd.slice 3 (Kd.int .i64)) _ 23 ?hg (N := 7) ?hd (xs := ([] : List (List Int))) (inner := []) (ok := fun _ => True) (okp := fun _ => True) ?hr ?hp (fun _ hk => hk) trivial (Below.refl _ _) (Nat.le_refl _) (by simp) ?_; (case hd => rfl); (case hg => rfl); (case hr => exact gr); (case hp => exact (Reps.none _ _)); intro v320 w2 ho3 hb hg_ hnew_; clear hg_ hnew_; (first | rw [← Ny319.out] at ho3 | (simp only [Int.reduceToNat] at ho3; rw [← Ny319.out] at ho3)); have HO321 := qa (Kd.S_lower ho3 (below_size (bl))); replace HB := qa (below_step (bl) hb); clear hb ho3))
 go_loopg [3, 4, 5] k (fun kq v3 v4 v5 w' => ∃ (x3_1 : List (List Int)) (x4_1 : Int) (x5_1 : Int), v4 = .int .i64 x4_1 ∧ v5 = .int .i64 x5_1 ∧ Aside0 (spec_FactorsOf.l0 kq a0 x3_1 x4_1 x5_1 = some r) ∧ Aside0 (kq ≤ k) ∧ Aside0 (Kd.S (Kd.slice 3 (Kd.int .i64)) 23 w' w.heap.size (fun _ => True) v3 x3_1) ∧ Aside0 (Below w.heap.size w w'))
 case atStart => exact ⟨(y319), (a0), (2), (sd), (sd), H', ⟨Nat.le_refl _⟩, ⟨kS HO321⟩, ⟨bl⟩⟩
 case round =>
  clear H'; obtain ⟨x3_1, x4_1, x5_1, rfl, rfl, HA, HK1, HO_3, HB⟩ := hrel
  cases gk with
  | zero => exact absurd HA.out (by simp [spec_FactorsOf.l0])
  | succ k1 =>
   have H := HA.out; clear HA; simp only [spec_FactorsOf.l0] at H; have HC4 := qa H; clear H
   go_upto_region 4 with (fail)
   go_cut [15] (fun v15 wc => ∃ (kq : Nat) (x15_3 : Bool), v15 = .bool x15_3 ∧ Aside0 (spec_FactorsOf.j1 kq a0 x3_1 x4_1 x5_1 x15_3 = some r) ∧ Aside0 (kq ≤ k1) ∧ Aside0 (Kd.S (Kd.slice 3 (Kd.int .i64)) 23 wc w.heap.size (fun _ => True) u3 x3_1) ∧ Aside0 (Below w.heap.size w wc))
   case first =>
    have H := HC4.out; clear HC4; replace H := qe H; obtain ⟨c5b0, H⟩ | ⟨c5b0, H⟩ := H
    ·(first | rw [c5b0] | (simp only [i64_w, i32_w]; rw [c5b0]) | skip); replace H := qb H; obtain ⟨t322, A6, H⟩ := H; have H' := qa H; clear H
     go_wp2_with (first | (go_at_call 78; (with_reducible refine (spec_l1In.calls a0 1 10000 t322 _ A6.out).mono ?_); rintro e w' ⟨rfl, ⟨nd, rfl⟩⟩))
     go_meet
     case rel => exact ⟨_, (t322), (sd), H', ⟨z42_⟩, ⟨kS HO_3⟩, ⟨bl⟩⟩
    ·(first | rw [c5b0] | (simp only [i64_w, i32_w]; rw [c5b0]) | skip); have H' := qa H; clear H; go_wp2; go_meet
     case rel => exact ⟨_, (false), (sd), H', ⟨z42_⟩, ⟨kS HO_3⟩, ⟨bl⟩⟩
   case rest =>
    clear HC4; obtain ⟨kq, x15_3, rfl, HA, HJ3, HO_3, HB⟩ := hcut
    cases kq with
    | zero => exact absurd HA.out (by simp [spec_FactorsOf.j1])
    | succ kj3 =>
     have H := HA.out; clear HA; simp only [spec_FactorsOf.j1] at H
     by_cases c7 : x15_3 = true
     ·subst c7; replace H := qt H; have H' := qa H; clear H; go_wp2
      go_loopg [4, 6] kj3 (fun kq v4 v6 w' => ∃ (x4_3 : Int) (x6_3 : Int), v4 = .int .i64 x4_3 ∧ v6 = .int .i64 x6_3 ∧ Aside0 (spec_FactorsOf.l1 kq a0 x3_1 x4_3 x5_1 x6_3 = some r) ∧ Aside0 (kq ≤ kj3) ∧ Aside0 (Kd.S (Kd.slice 3 (Kd.int .i64)) 23 w' w.heap.size (fun _ => True) u3 x3_1) ∧ Aside0 (Below w.heap.size w w'))
      case atStart => exact ⟨(x4_1), (0), (sd), (sd), H', ⟨Nat.le_refl _⟩, ⟨kS HO_3⟩, ⟨bl⟩⟩
      case round =>
       clear H'; obtain ⟨x4_3, x6_3, rfl, rfl, HA, HK3, HO_3, HB⟩ := hrel
       cases gk with
       | zero => exact absurd HA.out (by simp [spec_FactorsOf.l1])
       | succ k3 =>
        have H := HA.out; clear HA; simp only [spec_FactorsOf.l1] at H
        by_cases c8 : x5_1 = 0
        ·rw [if_pos c8] at H; exact absurd H (by simp)
        ·rw [if_neg c8] at H; have c8b0 : (x5_1 == 0) = false := beq_eq_false_iff_ne.mpr c8; have c8b1 : (x5_1 != 0) = true := bne_iff_ne.mpr c8; replace H := qq H; obtain ⟨c9b0, c9b1, H⟩ | ⟨c9, c9b0, c9b1, H⟩ := H
         ·have H' := qa H; clear H; go_wp2
          go_roundg k3
          case measure => have := HK1.out; have := HJ3.out; have := HK3.out; omega
          case rel => exact ⟨(wrap64 (Int.tdiv x4_3 x5_1)), (wrap64 (x6_3 + 1)), (sd), (sd), H', ⟨by have := HK1.out; have := HJ3.out; have := HK3.out; omega⟩, ⟨kS HO_3⟩, ⟨bl⟩⟩
         ·by_cases c10 : x6_3 > 0
          ·rw [if_pos c10] at H; have c10b0 : decide (0 < x6_3) = true := decide_eq_true c10; clear c10; obtain ⟨y323, hy_⟩ : ∃ y_ : List Int, y_ = (([x5_1, x6_3] : List Int)) := ⟨_, rfl⟩; replace H : (if x3_1.length < 5864062014805 then (spec_FactorsOf.l0 k3 a0 (x3_1 ++ [y323]) x4_3 (wrap64 (x5_1 + 1))) else (none)) = some r := yh; have Ny323 := qa hy_; clear hy_; replace H := qn H; obtain ⟨c11, H⟩ := H; have LMc11 := qa c11; clear c11; obtain ⟨y326, hy_⟩ : ∃ y_ : List (List Int), y_ = (x3_1 ++ [y323]) := ⟨_, rfl⟩; replace H : (spec_FactorsOf.l0 k3 a0 y326 x4_3 (wrap64 (x5_1 + 1))) = some r := yh; have Ny326 := qa hy_; clear hy_; have H' := qa H; clear H
           go_wp2_with (first | ((with_reducible refine gate_dst (N := 32) rfl ?_); refine Kd.R_lit (Kd.int .i64) _ 3 ?hg (N := 32) ?hd (xs := ([x5_1, x6_3] : List Int)) (inner := [.int .i64 x5_1, .int .i64 x6_3]) (ok := fun _ => True) (okp := fun _ => True) ?hr ?hp (fun _ hk => hk) trivial (Below.refl _ _) (Nat.le_refl _) (by simp) ?_; (case hd => rfl); (case hg => rfl); (case hr => exact gr); (case hp => exact (Reps.one (show Kd.M (Kd.int .i64) _ _ _ x5_1 [.int .i64 x5_1] from rfl) (Reps.one (show Kd.M (Kd.int .i64) _ _ _ x6_3 [.int .i64 x6_3] from rfl) (Reps.none _ _)))); intro v324 w12 ho13 hb hg_ hnew_; clear hg_ hnew_; (first | rw [← Ny323.out] at ho13 | (simp only [Int.reduceToNat] at ho13; rw [← Ny323.out] at ho13)); replace HO_3 := qa (Kd.S_elder' (kS HO_3) (Kd.R_base ho13) hb); have HO325 := qa (Kd.R_lower ho13 (below_size (bl))); replace HB := qa (below_step (bl) hb); clear hb ho13; obtain ⟨Ao15, co15, eo15⟩ := Kd.R_slice HO325.out; subst eo15) | ((with_reducible refine gate_builtin (b := .append) (xs := #[.tmp 29, .tmp 33]) rfl ?_); at_builtin; refine Kd.S_append (Kd.slice 3 (Kd.int .i64)) (w0 := w) w.heap.size rfl (.tmp 29) (.tmp 33) 24 23 (.slice none 0 0) 24 rfl Try.underlying24 info23 rfl (by decide) (by omega) u3 x3_1 y323 [.slice Ao15 y323.length co15] (fun _ => True) (fun k_ => some k_ = (.slice Ao15 y323.length co15 : Value).ownBlock) rfl rfl ?aP (fun k_ hk_ => ((Kd.R_mono (ok' := fun k_ => ((fun _ => True)) k_ ∧ some k_ ≠ (u3 : Value).ownBlock) (Kd.R_apart' (HO325.out) (Kd.S_typed HO_3.out) (by decide)) (fun k_ hk => ⟨trivial, hk.2⟩))).1 k_ hk_.symm) ?aF ?aO ?aB ?aS ?aL ?_; (case aP => exact Kd.M_row (Kd.R_mono (Kd.R_tight rfl (Kd.R_mono (ok' := fun k_ => ((fun _ => True)) k_ ∧ some k_ ≠ (u3 : Value).ownBlock) (Kd.R_apart' (HO325.out) (Kd.S_typed HO_3.out) (by decide)) (fun k_ hk => ⟨trivial, hk.2⟩))) (fun _ h_ => h_))); (case aB => exact (bl)); (case aF => exact (fun _ _ => trivial)); (case aO => exact z107_); (case aS => exact (below_size (bl))); (case aL => have := LMc11.out; omega); intro v327 w14 ho hb hg hat; rw [← Ny326.out] at ho; replace HB := qa (hb); have HO328 := qa (ho); clear HO_3 HO325; clear ho hb hg hat))
           go_roundg k3
           case measure => have := HK1.out; have := HJ3.out; have := HK3.out; omega
           case rel => exact ⟨(y326), (x4_3), (wrap64 (x5_1 + 1)), (sd), (sd), H', ⟨by have := HK1.out; have := HJ3.out; have := HK3.out; omega⟩, ⟨kS HO328⟩, ⟨bl⟩⟩
          ·rw [if_neg c10] at H; have c10b0 : decide (0 < x6_3) = false := decide_eq_false c10; clear c10; have H' := qa H; clear H; go_wp2
           go_roundg k3
           case measure => have := HK1.out; have := HJ3.out; have := HK3.out; omega
           case rel => exact ⟨(x3_1), (x4_3), (wrap64 (x5_1 + 1)), (sd), (sd), H', ⟨by have := HK1.out; have := HJ3.out; have := HK3.out; omega⟩, ⟨kS HO_3⟩, ⟨bl⟩⟩
     ·replace c7 := Bool.eq_false_iff.mpr c7; subst c7; replace H := qf H; obtain rfl := Option.some.inj H; go_wp2; go_ret; exact ⟨_, er, kS HO_3, bl⟩

/-! ### spec_DivisorsOf: function 89 -/
mutual
def spec_DivisorsOf.l0 : Nat → Int → List Int → Int → Option (List Int)
 | 0, _, _, _ => none
 | k + 1, x0, x3, x4 => if x4 ≤ x0 then (spec_DivisorsOf.j1 k x0 x3 x4 (decide (x0 ≤ 10000))) else (spec_DivisorsOf.j1 k x0 x3 x4 false)
def spec_DivisorsOf.j1 : Nat → Int → List Int → Int → Bool → Option (List Int)
 | 0, _, _, _, _ => none
 | k + 1, x0, x3, x4, x12 => if x12 = true then (if x4 = 0 then (none) else (if (Int.tmod x0 x4) = 0 then (if x3.length < 17592186044416 then (spec_DivisorsOf.l0 k x0 (x3 ++ [x4]) (wrap64 (x4 + 1))) else (none)) else (spec_DivisorsOf.l0 k x0 x3 (wrap64 (x4 + 1))))) else (some x3)
end
def spec_DivisorsOf.f (k : Nat) (a0 : Int) : Option (List Int) := spec_DivisorsOf.l0 k a0 (([] : List Int)) 1
theorem spec_DivisorsOf.mono_l : ∀ k, (∀ y0 y1 y2, LeO (spec_DivisorsOf.l0 k y0 y1 y2) (spec_DivisorsOf.l0 (k + 1) y0 y1 y2)) ∧ (∀ y0 y1 y2 y3, LeO (spec_DivisorsOf.j1 k y0 y1 y2 y3) (spec_DivisorsOf.j1 (k + 1) y0 y1 y2 y3))
 | 0 => ⟨fun _ _ _ r h => by simp [spec_DivisorsOf.l0] at h, fun _ _ _ _ r h => by simp [spec_DivisorsOf.j1] at h⟩
 | k + 1 => by
  obtain ⟨ih0, ih1⟩ := spec_DivisorsOf.mono_l k; refine ⟨?_, ?_⟩
  ·intro y0 y1 y2; unfold spec_DivisorsOf.l0; exact mz
  ·intro y0 y1 y2 y3; unfold spec_DivisorsOf.j1; exact mz
theorem spec_DivisorsOf.mono : ∀ a0 k, LeO (spec_DivisorsOf.f k a0) (spec_DivisorsOf.f (k + 1) a0) := by
 intro a0 k; obtain ⟨ih0, ih1⟩ := spec_DivisorsOf.mono_l k; unfold spec_DivisorsOf.f; exact mz
set_option maxHeartbeats 8000000 in
set_option maxRecDepth 100000 in
theorem spec_DivisorsOf.calls (k : Nat) (a0 : Int) (r : List Int) (w : World) (h : spec_DivisorsOf.f k a0 = some r) :
  Calls Try.prog 89 #[.int .i64 a0] w fun e w' => ∃ v0_ : Value, e = .returned (v0_) ∧ Kd.R (Kd.int .i64) 3 w' w.heap.size (fun _ => True) v0_ r ∧ Below w.heap.size w w' := by
 have HB := qa (Below.refl w.heap.size w); have H : (spec_DivisorsOf.l0 k a0 (([] : List Int)) 1) = some r := h; clear h; obtain ⟨y329, hy_⟩ : ∃ y_ : List Int, y_ = (([] : List Int)) := ⟨_, rfl⟩; replace H : (spec_DivisorsOf.l0 k a0 y329 1) = some r := yh; have Ny329 := qa hy_; clear hy_; have H' := qa H; clear H
 go_enter Try.func89, Try.ntmps89
 go_wp2_with (first | ((with_reducible refine gate_dst (N := 5) rfl ?_); refine Kd.R_lit (Kd.int .i64) _ 3 ?hg (N := 5) ?hd (xs := ([] : List Int)) (inner := []) (ok := fun _ => True) (okp := fun _ => True) ?hr ?hp (fun _ hk => hk) trivial (Below.refl _ _) (Nat.le_refl _) (by simp) ?_; (case hd => rfl); (case hg => rfl); (case hr => exact gr); (case hp => exact (Reps.none _ _)); intro v330 w2 ho3 hb hg_ hnew_; clear hg_ hnew_; (first | rw [← Ny329.out] at ho3 | (simp only [Int.reduceToNat] at ho3; rw [← Ny329.out] at ho3)); have HO331 := qa (Kd.R_lower ho3 (below_size (bl))); replace HB := qa (below_step (bl) hb); clear hb ho3))
 go_loopg [3, 4] k (fun kq v3 v4 w' => ∃ (x3_1 : List Int) (x4_1 : Int), v4 = .int .i64 x4_1 ∧ Aside0 (spec_DivisorsOf.l0 kq a0 x3_1 x4_1 = some r) ∧ Aside0 (kq ≤ k) ∧ Aside0 (Kd.R (Kd.int .i64) 3 w' w.heap.size (fun _ => True) v3 x3_1) ∧ Aside0 (Below w.heap.size w w'))
 case atStart => exact ⟨(y329), (1), (sd), H', ⟨Nat.le_refl _⟩, ⟨kR HO331⟩, ⟨bl⟩⟩
 case round =>
  clear H'; obtain ⟨x3_1, x4_1, rfl, HA, HK1, HO_3, HB⟩ := hrel
  cases gk with
  | zero => exact absurd HA.out (by simp [spec_DivisorsOf.l0])
  | succ k1 =>
   have H := HA.out; clear HA; simp only [spec_DivisorsOf.l0] at H; have HC4 := qa H; clear H
   go_upto_region 3 with (fail)
   go_cut [12] (fun v12 wc => ∃ (kq : Nat) (x12_3 : Bool), v12 = .bool x12_3 ∧ Aside0 (spec_DivisorsOf.j1 kq a0 x3_1 x4_1 x12_3 = some r) ∧ Aside0 (kq ≤ k1) ∧ Aside0 (Kd.R (Kd.int .i64) 3 wc w.heap.size (fun _ => True) u3 x3_1) ∧ Aside0 (Below w.heap.size w wc))
   case first =>
    have H := HC4.out; clear HC4; replace H := qe H; obtain ⟨c5b0, H⟩ | ⟨c5b0, H⟩ := H
    ·(first | rw [c5b0] | (simp only [i64_w, i32_w]; rw [c5b0]) | skip); have H' := qa H; clear H; go_wp2; go_meet
     case rel => exact ⟨_, (decide (a0 ≤ 10000)), (sd), H', ⟨z42_⟩, ⟨kR HO_3⟩, ⟨bl⟩⟩
    ·(first | rw [c5b0] | (simp only [i64_w, i32_w]; rw [c5b0]) | skip); have H' := qa H; clear H; go_wp2; go_meet
     case rel => exact ⟨_, (false), (sd), H', ⟨z42_⟩, ⟨kR HO_3⟩, ⟨bl⟩⟩
   case rest =>
    clear HC4; obtain ⟨kq, x12_3, rfl, HA, HJ3, HO_3, HB⟩ := hcut
    cases kq with
    | zero => exact absurd HA.out (by simp [spec_DivisorsOf.j1])
    | succ kj3 =>
     have H := HA.out; clear HA; simp only [spec_DivisorsOf.j1] at H
     by_cases c6 : x12_3 = true
     ·subst c6; replace H := qt H
      by_cases c7 : x4_1 = 0
      ·rw [if_pos c7] at H; exact absurd H (by simp)
      ·rw [if_neg c7] at H; have c7b0 : (x4_1 == 0) = false := beq_eq_false_iff_ne.mpr c7; have c7b1 : (x4_1 != 0) = true := bne_iff_ne.mpr c7; replace H := qq H; obtain ⟨c8b0, c8b1, H⟩ | ⟨c8, c8b0, c8b1, H⟩ := H
       ·replace H := qn H; obtain ⟨c9, H⟩ := H; have LMc9 := qa c9; clear c9; obtain ⟨y332, hy_⟩ : ∃ y_ : List Int, y_ = (x3_1 ++ [x4_1]) := ⟨_, rfl⟩; replace H : (spec_DivisorsOf.l0 kj3 a0 y332 (wrap64 (x4_1 + 1))) = some r := yh; have Ny332 := qa hy_; clear hy_; have H' := qa H; clear H
        go_wp2_with (first | ((with_reducible refine gate_builtin (b := .append) (xs := #[.tmp 19, .tmp 21]) rfl ?_); at_builtin; refine Kd.R_append (Kd.int .i64) (w0 := w) w.heap.size rfl (.tmp 19) (.tmp 21) 23 3 (.int .i64 0) 8 rfl Try.underlying23 info3 rfl (by decide) (by omega) u3 x3_1 x4_1 [.int .i64 x4_1] (fun _ => True) (fun _ => False) rfl rfl ?aP (fun _ hk => hk.elim) ?aF ?aO ?aB ?aS ?aL ?_; (case aP => exact rfl); (case aB => exact (bl)); (case aF => exact (fun _ _ => trivial)); (case aO => exact (kR HO_3)); (case aS => exact (below_size (bl))); (case aL => have := LMc9.out; omega); intro v333 w10 ho hb hg hat; rw [← Ny332.out] at ho; replace HB := qa (hb); have HO334 := qa (ho); clear HO_3; clear ho hb hg hat))
        go_roundg kj3
        case measure => have := HK1.out; have := HJ3.out; omega
        case rel => exact ⟨(y332), (wrap64 (x4_1 + 1)), (sd), H', ⟨by have := HK1.out; have := HJ3.out; omega⟩, ⟨kR HO334⟩, ⟨bl⟩⟩
       ·have H' := qa H; clear H; go_wp2
        go_roundg kj3
        case measure => have := HK1.out; have := HJ3.out; omega
        case rel => exact ⟨(x3_1), (wrap64 (x4_1 + 1)), (sd), H', ⟨by have := HK1.out; have := HJ3.out; omega⟩, ⟨kR HO_3⟩, ⟨bl⟩⟩
     ·replace c6 := Bool.eq_false_iff.mpr c6; subst c6; replace H := qf H; obtain rfl := Option.some.inj H; go_wp2; go_ret; exact ⟨_, er, kR HO_3, bl⟩

/-! ### spec_CommonOf: function 94 -/
mutual
def spec_CommonOf.j0 : Nat → Int → Int → Bool → Option (Int)
 | 0, _, _, _ => none
 | k + 1, x0, x1, x13 => if x13 = true then (some (-1)) else (spec_CommonOf.l0 k x0 x1)
def spec_CommonOf.l0 : Nat → Int → Int → Option (Int)
 | 0, _, _ => none
 | k + 1, x0, x1 => if x1 > 0 then (if x1 = 0 then (none) else (spec_CommonOf.l0 k x1 (Int.tmod x0 x1))) else (some x0)
end
def spec_CommonOf.f (k : Nat) (a0 : Int) (a1 : Int) : Option (Int) := (spec_l1In.f a0 1 10000).bind fun t335 => (if t335 = true then ((spec_l1In.f a1 1 10000).bind fun t336 => (spec_CommonOf.j0 k a0 a1 (!t336))) else (spec_CommonOf.j0 k a0 a1 true))
theorem spec_CommonOf.mono_l : ∀ k, (∀ y0 y1 y2, LeO (spec_CommonOf.j0 k y0 y1 y2) (spec_CommonOf.j0 (k + 1) y0 y1 y2)) ∧ (∀ y0 y1, LeO (spec_CommonOf.l0 k y0 y1) (spec_CommonOf.l0 (k + 1) y0 y1))
 | 0 => ⟨fun _ _ _ r h => by simp [spec_CommonOf.j0] at h, fun _ _ r h => by simp [spec_CommonOf.l0] at h⟩
 | k + 1 => by
  obtain ⟨ih0, ih1⟩ := spec_CommonOf.mono_l k; refine ⟨?_, ?_⟩
  ·intro y0 y1 y2; unfold spec_CommonOf.j0; exact mz
  ·intro y0 y1; unfold spec_CommonOf.l0; exact mz
theorem spec_CommonOf.mono : ∀ a0 a1 k, LeO (spec_CommonOf.f k a0 a1) (spec_CommonOf.f (k + 1) a0 a1) := by
 intro a0 a1 k; obtain ⟨ih0, ih1⟩ := spec_CommonOf.mono_l k; unfold spec_CommonOf.f; exact mz
set_option maxHeartbeats 8000000 in
set_option maxRecDepth 100000 in
theorem spec_CommonOf.calls (k : Nat) (a0 : Int) (a1 : Int) (r : Int) (w : World) (h : spec_CommonOf.f k a0 a1 = some r) :
  Calls Try.prog 94 #[.int .i64 a0, .int .i64 a1] w fun e w' => e = .returned (.int .i64 r) ∧ Drawn0 w w' := by
 have H : ((spec_l1In.f a0 1 10000).bind fun t335 => (if t335 = true then ((spec_l1In.f a1 1 10000).bind fun t336 => (spec_CommonOf.j0 k a0 a1 (!t336))) else (spec_CommonOf.j0 k a0 a1 true))) = some r := h; clear h; have HC3 := qa H; clear H
 go_enter Try.func94, Try.ntmps94
 go_upto_region 1 with (fail)
 go_cut [13] (fun v13 wc => ∃ (kq : Nat) (x13_2 : Bool), v13 = .bool x13_2 ∧ Aside0 (spec_CommonOf.j0 kq a0 a1 x13_2 = some r) ∧ Aside0 (kq ≤ k) ∧ Drawn0 w wc)
 case first =>
  have H := HC3.out; clear HC3; replace H := qb H; obtain ⟨t335, A4, H⟩ := H
  by_cases c5 : t335 = true
  ·subst c5; replace H := qt H; replace H := qb H; obtain ⟨t336, A6, H⟩ := H; have H' := qa H; clear H
   go_wp2_with (first | ((with_reducible refine gate_callee (f := 78) rfl ?_); refine goesL_ (some 7) rfl rfl Try.func78 (by kernel_rfl) rfl #[.int .i64 a0, .int .i64 1, .int .i64 10000] rfl am ?_; (with_reducible refine (spec_l1In.calls a0 1 10000 true _ A4.out).mono ?_); rintro e w' ⟨rfl, ⟨nd, rfl⟩⟩; refine ⟨_, rfl, ?_⟩) | (go_at_call 78; (with_reducible refine (spec_l1In.calls a1 1 10000 t336 _ A6.out).mono ?_); rintro e w' ⟨rfl, ⟨nd, rfl⟩⟩))
   go_meet
   case rel => exact ⟨_, (!t336), (sd), H', ⟨by first | omega | exact Nat.le_refl _⟩, z1_⟩
  ·replace c5 := Bool.eq_false_iff.mpr c5; subst c5; replace H := qf H; have H' := qa H; clear H
   go_wp2_with (first | ((with_reducible refine gate_callee (f := 78) rfl ?_); refine goesL_ (some 7) rfl rfl Try.func78 (by kernel_rfl) rfl #[.int .i64 a0, .int .i64 1, .int .i64 10000] rfl am ?_; (with_reducible refine (spec_l1In.calls a0 1 10000 false _ A4.out).mono ?_); rintro e w' ⟨rfl, ⟨nd, rfl⟩⟩; refine ⟨_, rfl, ?_⟩))
   go_meet
   case rel => exact ⟨_, (true), (sd), H', ⟨by first | omega | exact Nat.le_refl _⟩, z1_⟩
 case rest =>
  clear HC3; obtain ⟨kq, x13_2, rfl, HA, HJ2, ⟨mc2, rfl⟩⟩ := hcut
  cases kq with
  | zero => exact absurd HA.out (by simp [spec_CommonOf.j0])
  | succ kj2 =>
   have H := HA.out; clear HA; simp only [spec_CommonOf.j0] at H
   by_cases c7 : x13_2 = true
   ·subst c7; replace H := qt H; obtain rfl := Option.some.inj H; go_wp2; go_ret; exact ⟨sd, z1_⟩
   ·replace c7 := Bool.eq_false_iff.mpr c7; subst c7; replace H := qf H; have H' := qa H; clear H; go_wp2
    go_loopg [0, 1] kj2 (fun kq v0 v1 w' => ∃ (x0_2 : Int) (x1_2 : Int), v0 = .int .i64 x0_2 ∧ v1 = .int .i64 x1_2 ∧ Aside0 (spec_CommonOf.l0 kq x0_2 x1_2 = some r) ∧ Aside0 (kq ≤ kj2) ∧ Drawn0 w w')
    case atStart => exact ⟨(a0), (a1), (sd), (sd), H', ⟨Nat.le_refl _⟩, z1_⟩
    case round =>
     clear H'; obtain ⟨x0_2, x1_2, rfl, rfl, HA, HK2, ⟨m2, rfl⟩⟩ := hrel
     cases gk with
     | zero => exact absurd HA.out (by simp [spec_CommonOf.l0])
     | succ k2 =>
      have H := HA.out; clear HA; simp only [spec_CommonOf.l0] at H
      by_cases c8 : x1_2 > 0
      ·rw [if_pos c8] at H; have c8b0 : decide (0 < x1_2) = true := decide_eq_true c8; clear c8
       by_cases c9 : x1_2 = 0
       ·rw [if_pos c9] at H; exact absurd H (by simp)
       ·rw [if_neg c9] at H; have c9b0 : (x1_2 == 0) = false := beq_eq_false_iff_ne.mpr c9; have c9b1 : (x1_2 != 0) = true := bne_iff_ne.mpr c9; have H' := qa H; clear H; go_wp2
        go_roundg k2
        case measure => have := HJ2.out; have := HK2.out; omega
        case rel => exact ⟨(x1_2), (Int.tmod x0_2 x1_2), (sd), (sd), H', ⟨by have := HJ2.out; have := HK2.out; omega⟩, z1_⟩
      ·rw [if_neg c8] at H; have c8b0 : decide (0 < x1_2) = false := decide_eq_false c8; clear c8; obtain rfl := Option.some.inj H; go_wp2; go_ret; exact ⟨sd, z1_⟩

/-! ### spec_ApartOk: function 90 -/
def spec_ApartOk.f (k : Nat) (a0 : Int) (a1 : Int) : Option (Bool) := (spec_CommonOf.f k a0 a1).bind fun t337 => (some (t337 == 1))
theorem spec_ApartOk.mono : ∀ a0 a1 k, LeO (spec_ApartOk.f k a0 a1) (spec_ApartOk.f (k + 1) a0 a1) := by
 intro a0 a1 k; unfold spec_ApartOk.f; have m0 := @spec_CommonOf.mono; exact mz
set_option maxHeartbeats 8000000 in
set_option maxRecDepth 100000 in
theorem spec_ApartOk.calls (k : Nat) (a0 : Int) (a1 : Int) (r : Bool) (w : World) (h : spec_ApartOk.f k a0 a1 = some r) :
  Calls Try.prog 90 #[.int .i64 a0, .int .i64 a1] w fun e w' => e = .returned (.bool r) ∧ Drawn0 w w' := by
 have H : ((spec_CommonOf.f k a0 a1).bind fun t337 => (some (t337 == 1))) = some r := h; clear h; replace H := qb H; obtain ⟨t337, A3, H⟩ := H; obtain rfl := Option.some.inj H
 go_enter Try.func90, Try.ntmps90
 go_wp2_with (first | ((with_reducible refine gate_callee (f := 94) rfl ?_); refine goesL_ (some 7) rfl rfl Try.func94 (by kernel_rfl) rfl #[.int .i64 a0, .int .i64 a1] rfl am ?_; (with_reducible refine (spec_CommonOf.calls k a0 a1 t337 _ A3.out).mono ?_); rintro e w' ⟨rfl, ⟨nd, rfl⟩⟩; refine ⟨_, rfl, ?_⟩))
 go_ret; exact ⟨sd, z1_⟩

end Go.Proofs.Ytmgjidgfhlclmaa.PFnExactDeskDo
