-- Written for this claim by a program of this session (wip/myprint.sh), after the kit's print; some functions by hand
import Derived.Test.YtmgjidgfhlclmaaPFnExactDeskDox0
import Derived.Test.YtmgjidgfhlclmaaPFnExactDeskDox8
import Derived.Test.YtmgjidgfhlclmaaWPress
namespace Go.Proofs.Ytmgjidgfhlclmaa.PFnExactDeskDo
open Go.RowKit Go.Proofs.YtmgjidgfhlclmaaW.PrintWords Go.Proofs.YtmgjidgfhlclmaaW.PrintLast Go.Proofs.YtmgjidgfhlclmaaW.PrintMore
attribute [local go_sem] max2_int min2_int max_two min_two max_three min_three max_four min_four   -- for this text's walks alone
set_option linter.unusedVariables false
set_option linter.unusedSimpArgs false

/-! ### spec_l2Times: function 84 -/
mutual
def spec_l2Times.l0 : Nat → List Int → List Int → List Int → Int → Option (List Int)
 | 0, _, _, _, _ => none
 | k + 1, x0, x1, x5, x6 => if x6 ≤ 24 then (spec_l2Times.l1 k x0 x1 x5 x6 1) else (some x5)
def spec_l2Times.l1 : Nat → List Int → List Int → List Int → Int → Int → Option (List Int)
 | 0, _, _, _, _, _ => none
 | k + 1, x0, x1, x5, x6, x7 => if (wrap64 (x6 * x7)) ≤ 24 then (if 0 ≤ (wrap64 ((wrap64 (x6 * x7)) - 1)) then (if (wrap64 ((wrap64 (x6 * x7)) - 1)) < (x5.length : Int) then (if 0 ≤ (wrap64 (x6 - 1)) then (if (wrap64 (x6 - 1)) < (x0.length : Int) then (if 0 ≤ (wrap64 (x7 - 1)) then (if (wrap64 (x7 - 1)) < (x1.length : Int) then (spec_l2Times.l1 k x0 x1 (x5.set ((wrap64 ((wrap64 (x6 * x7)) - 1)) : Int).toNat (wrap64 ((rd x5 (wrap64 ((wrap64 (x6 * x7)) - 1))) + (wrap64 ((rd x0 (wrap64 (x6 - 1))) * (rd x1 (wrap64 (x7 - 1)))))))) x6 (wrap64 (x7 + 1))) else (none)) else (none)) else (none)) else (none)) else (none)) else (none)) else (spec_l2Times.l0 k x0 x1 x5 (wrap64 (x6 + 1)))
end
def spec_l2Times.f (k : Nat) (l0 : List Int) (l1 : List Int) : Option (List Int) := if 24 ≤ 35184372088832 then (spec_l2Times.l0 k l0 l1 (List.replicate 24 0) 1) else (none)
theorem spec_l2Times.mono_l : ∀ k, (∀ y0 y1 y2 y3, LeO (spec_l2Times.l0 k y0 y1 y2 y3) (spec_l2Times.l0 (k + 1) y0 y1 y2 y3)) ∧ (∀ y0 y1 y2 y3 y4, LeO (spec_l2Times.l1 k y0 y1 y2 y3 y4) (spec_l2Times.l1 (k + 1) y0 y1 y2 y3 y4))
 | 0 => ⟨fun _ _ _ _ r h => by simp [spec_l2Times.l0] at h, fun _ _ _ _ _ r h => by simp [spec_l2Times.l1] at h⟩
 | k + 1 => by
  obtain ⟨ih0, ih1⟩ := spec_l2Times.mono_l k; refine ⟨?_, ?_⟩
  ·intro y0 y1 y2 y3; unfold spec_l2Times.l0; exact mz
  ·intro y0 y1 y2 y3 y4; unfold spec_l2Times.l1; exact mz
theorem spec_l2Times.mono : ∀ a0 a1 k, LeO (spec_l2Times.f k a0 a1) (spec_l2Times.f (k + 1) a0 a1) := by
 intro a0 a1 k; obtain ⟨ih0, ih1⟩ := spec_l2Times.mono_l k; unfold spec_l2Times.f; exact mz
def spec_l2Times.T8 : Bool × List (List Nat × List Nat) := (true, [([], []), ([], []), ([], []), ([1, 2], [1, 2]), ([3], [3]), ([], []), ([], []), ([], []), ([6, 7], [6, 7]), ([8], [8]), ([5, 9], [5, 9]), ([10], [10]), ([], []), ([], []), ([13], [13]), ([12, 14], [12, 14]), ([15], [15]), ([], []), ([], []), ([18], [18]), ([17, 19], [17, 19]), ([20], [20]), ([16, 21], [16, 21]), ([11, 22], [11, 22]), ([0, 4, 0, 1, 2, 3, 4, 5, 6, 7, 8, 9, 10, 11, 12, 13, 14, 15, 16, 17, 18, 19, 20, 21, 22, 23], [0, 4]), ([24, 23, 0, 1, 2, 3, 4, 5, 6, 7, 8, 9, 10, 11, 12, 13, 14, 15, 16, 17, 18, 19, 20, 21, 22, 23], [23, 24])])
def spec_l2Times.B8 : List Nat := [0, 0, 0, 6, 14, 0, 0, 0, 192, 448, 992, 2016, 0, 0, 8192, 28672, 61440, 0, 0, 262144, 917504, 1966080, 4190208, 8388576, 16777215, 33554431]
theorem spec_l2Times.tab8 : rtab .any (opsOf Try.f84 8) = spec_l2Times.T8 := by kernel_rfl
theorem spec_l2Times.bits8 : waitsOk spec_l2Times.T8.2 spec_l2Times.B8 = true := by kernel_rfl
set_option maxHeartbeats 8000000 in
set_option maxRecDepth 100000 in
theorem spec_l2Times.calls (k : Nat) (A0 : Option Addr) (c0 : Nat) (l0 : List Int) (A1 : Option Addr) (c1 : Nat) (l1 : List Int) (r : List Int) (w : World) (hr0 : Kd.C (Kd.int .i64) w A0 l0.length l0) (hc0 : l0.length ≤ c0) (hr1 : Kd.C (Kd.int .i64) w A1 l1.length l1) (hc1 : l1.length ≤ c1) (h : spec_l2Times.f k l0 l1 = some r) :
  Calls Try.prog 84 #[.slice A0 l0.length c0, .slice A1 l1.length c1] w fun e w' => ∃ v0_ : Value, e = .returned (v0_) ∧ Kd.R (Kd.int .i64) 3 w' w.heap.size (fun _ => True) v0_ r ∧ Below w.heap.size w w' := by
 have HR0 := qa hr0; have HC0 := qa hc0; clear hr0 hc0; have HR1 := qa hr1; have HC1 := qa hc1; clear hr1 hc1; have HB := qa (Below.refl w.heap.size w); have H : (if 24 ≤ 35184372088832 then (spec_l2Times.l0 k l0 l1 (List.replicate 24 0) 1) else (none)) = some r := h; clear h
 by_cases c3 : 24 ≤ 35184372088832
 ·rw [if_pos c3] at H; have c3b0 := eq_true c3; have c3b1 : decide (24 ≤ 35184372088832) = true := decide_eq_true c3; clear c3; obtain ⟨y294, hy_⟩ : ∃ y_ : List Int, y_ = (List.replicate 24 0) := ⟨_, rfl⟩; replace H : (spec_l2Times.l0 k l0 l1 y294 1) = some r := yh; have Ny294 := qa hy_; clear hy_; have H' := qa H; clear H
  go_enter Try.func84, Try.ntmps84
  go_wp2_with (first | ((with_reducible refine gate_dst (N := 8) rfl ?_); refine Kd.R_make (Kd.int .i64) _ 3 rfl (N := 8) rfl 23 _ _ rfl 24 rfl rfl Try.underlying23 (.int .i64 0) 8 info3 rfl (by decide) (by omega) 0 (ok := fun _ => True) (okp := fun _ => True) rfl (fun _ hk => hk) trivial (by omega) (by omega) (Below.refl _ _) (Nat.le_refl _) ?_; intro v295 w4 ho5 hb hg_ hnew_; clear hg_ hnew_; (first | rw [← Ny294.out] at ho5 | (simp only [Int.reduceToNat] at ho5; rw [← Ny294.out] at ho5)); have HO296 := qa (Kd.R_lower ho5 (below_size (bl))); replace HB := qa (below_step (bl) hb); clear hb ho5))
  go_loopg [6] k (fun kq v6 w' => ∃ (x5_1 : List Int) (x6_1 : Int), v6 = .int .i64 x6_1 ∧ Aside0 (spec_l2Times.l0 kq l0 l1 x5_1 x6_1 = some r) ∧ Aside0 (kq ≤ k) ∧ Aside0 (Kd.R (Kd.int .i64) 3 w' w.heap.size (fun _ => True) v295 x5_1) ∧ Aside0 (Below w.heap.size w w'))
  case atStart => exact ⟨(y294), (1), (sd), H', ⟨Nat.le_refl _⟩, ⟨kR HO296⟩, ⟨bl⟩⟩
  case round =>
   clear H'; obtain ⟨x5_1, x6_1, rfl, HA, HK1, HO_5, HB⟩ := hrel
   cases gk with
   | zero => exact absurd HA.out (by simp [spec_l2Times.l0])
   | succ k1 =>
    have H := HA.out; clear HA; simp only [spec_l2Times.l0] at H; replace H := qe H; obtain ⟨c6b0, H⟩ | ⟨c6b0, H⟩ := H
    ·have H' := qa H; clear H; go_wp2
     go_loopg [7] k1 (fun kq v7 w' => ∃ (x5_2 : List Int) (x7_2 : Int), v7 = .int .i64 x7_2 ∧ Aside0 (spec_l2Times.l1 kq l0 l1 x5_2 x6_1 x7_2 = some r) ∧ Aside0 (kq ≤ k1) ∧ Aside0 (Kd.R (Kd.int .i64) 3 w' w.heap.size (fun _ => True) v295 x5_2) ∧ Aside0 (Below w.heap.size w w'))
     case atStart => exact ⟨(x5_1), (1), (sd), H', ⟨Nat.le_refl _⟩, ⟨kR HO_5⟩, ⟨bl⟩⟩
     case round =>
      clear H'; obtain ⟨x5_2, x7_2, rfl, HA, HK2, HO_5, HB⟩ := hrel
      cases gk with
      | zero => exact absurd HA.out (by simp [spec_l2Times.l1])
      | succ k2 =>
       have H := HA.out; clear HA; simp only [spec_l2Times.l1] at H; replace H := qe H; obtain ⟨c7b0, H⟩ | ⟨c7b0, H⟩ := H
       ·obtain ⟨ji8, hji8⟩ : ∃ j_ : Int, (wrap64 ((wrap64 (x6_1 * x7_2)) - 1)) = j_ := ⟨_, rfl⟩; (first | rw [hji8] at H | (try simp only [hji8] at H)); have hji8w : (IntKind.i64.wrap ((wrap64 (x6_1 * x7_2)) - 1)) = ji8 := (i64_w _).trans hji8; replace H := qd H; obtain ⟨c9b0, H⟩ := H; replace H := qd H; obtain ⟨c10b0, H⟩ := H; obtain ⟨ji11, hji11⟩ : ∃ j_ : Int, (wrap64 (x6_1 - 1)) = j_ := ⟨_, rfl⟩; (first | rw [hji11] at H | (try simp only [hji11] at H)); have hji11w : (IntKind.i64.wrap (x6_1 - 1)) = ji11 := (i64_w _).trans hji11; replace H := qd H; obtain ⟨c12b0, H⟩ := H; replace H := qd H; obtain ⟨c13b0, H⟩ := H; obtain ⟨ji14, hji14⟩ : ∃ j_ : Int, (wrap64 (x7_2 - 1)) = j_ := ⟨_, rfl⟩; (first | rw [hji14] at H | (try simp only [hji14] at H)); have hji14w : (IntKind.i64.wrap (x7_2 - 1)) = ji14 := (i64_w _).trans hji14; replace H := qd H; obtain ⟨c15b0, H⟩ := H; replace H := qd H; obtain ⟨c16b0, H⟩ := H; obtain ⟨y300, hy_⟩ : ∃ y_ : List Int, y_ = (x5_2.set ((ji8) : Int).toNat (wrap64 ((rd x5_2 (ji8)) + (wrap64 ((rd l0 (ji11)) * (rd l1 (ji14))))))) := ⟨_, rfl⟩; replace H : (spec_l2Times.l1 k2 l0 l1 y300 x6_1 (wrap64 (x7_2 + 1))) = some r := yh; have Ny300 := qa hy_; clear hy_; have H' := qa H; clear H
        try go_wp2
        replace HO_5 := qa (Kd.R_drew HO_5.out); replace HB := qa (below_drew1 HB.out); obtain ⟨Ao19, co19, eo19⟩ := Kd.R_slice HO_5.out; (first | subst eo19 | (injection eo19 with f1_ f2_ f3_; have f4_ := f1_.symm; have f5_ := f3_.symm; clear f1_ f2_ f3_; subst f4_; subst f5_)); have p297 : 0 ≤ ((ji8) : Int) := qo; have q297 : (ji8) < (x5_2.length : Int) := qo; obtain ⟨ad297, e297, hx297_0⟩ := Kd.at_int (Kd.R_reads' HO_5.out).2.2 (ji8) p297 q297; cases e297; replace p297 := eq_true p297; replace q297 := eq_true q297; have p298 : 0 ≤ ((ji11) : Int) := qo; have q298 : (ji11) < (l0.length : Int) := qo; obtain ⟨ad298, e298, hx298_0⟩ := Kd.at_int HR0.out (ji11) p298 q298; have hw298_0 := hx298_0; cases e298; (try replace hx298_0 := (HB.out.cell (World.block_lt_of_cell? w _ hx298_0)).trans hx298_0); replace p298 := eq_true p298; replace q298 := eq_true q298; have p299 : 0 ≤ ((ji14) : Int) := qo; have q299 : (ji14) < (l1.length : Int) := qo; obtain ⟨ad299, e299, hx299_0⟩ := Kd.at_int HR1.out (ji14) p299 q299; have hw299_0 := hx299_0; cases e299; (try replace hx299_0 := (HB.out.cell (World.block_lt_of_cell? w _ hx299_0)).trans hx299_0); replace p299 := eq_true p299; replace q299 := eq_true q299; have p17 : 0 ≤ ((ji8) : Int) := qo; have q17 : ((ji8) : Int) < ((x5_2.length : Int) : Int) := qo; obtain ⟨go17, co17, eo17, gb17, gl17, cl17, HG17⟩ := Kd.R_form HO_5.out (by omega); (first | cases eo17 | (injection eo17 with ea_ en_ ec_; (first | subst ea_ | (injection ea_ with ea_; subst ea_)); subst ec_; clear en_)); have GB17 := qa gb17; have GG17 := qa HG17; clear gb17 gl17 HG17; (first | simp only [add_plain] at hx297_0 | skip); obtain ⟨hx17_0, hf17_0⟩ := Kd.R_celln 0 HO_5.out ((ji8) : Int) p17 q17; replace p17 := eq_true p17; replace q17 := eq_true q17; have HP20 := Kd.R_putn HO_5.out ((ji8) : Int) (wrap64 ((rd x5_2 (ji8)) + (wrap64 ((rd l0 (ji11)) * (rd l1 (ji14)))))); rw [← Ny300.out] at HP20; have HQ20 := qa HP20; clear HP20; refine start_ (n := 26) (S := fun w' => w'.cell? ⟨go17, ((ji8)).toNat, none⟩ = some (.int .i64 (rd x5_2 (ji8))) ∧ w'.cell? (ad298.add ((ji11)).toNat) = some (.int .i64 (rd l0 (ji11))) ∧ w'.cell? (ad299.add ((ji14)).toNat) = some (.int .i64 (rd l1 (ji14)))) (ds := [25]) #[false, false, false, false, false, false, false, false, false, false, false, false, false, false, false, false, false, false, false, false, false, false, false, false, false, false] (by kernel_rfl) rfl rfl ⟨hx297_0, ((HB.out.cell (World.block_lt_of_cell? w _ hw298_0)).trans hw298_0), ((HB.out.cell (World.block_lt_of_cell? w _ hw299_0)).trans hw299_0)⟩ (fun hHeld => ?_); refine with_tabW spec_l2Times.tab8 spec_l2Times.bits8 (fun HT_ HW_ => ?_); generalize wr.drew = w18 at HO_5 HB GG17 HQ20 hf17_0 hx17_0 hx297_0 hx298_0 hx299_0 hHeld ⊢; refine pur 0 19 #[true, false, false, false, false, false, false, false, false, false, false, false, false, false, false, false, false, false, false, false, false, false, false, false, false, false] HT_ ?_; refine pur 1 20 #[true, true, false, false, false, false, false, false, false, false, false, false, false, false, false, false, false, false, false, false, false, false, false, false, false, false] HT_ ?_; refine pur 2 21 #[true, true, true, false, false, false, false, false, false, false, false, false, false, false, false, false, false, false, false, false, false, false, false, false, false, false] HT_ ?_; refine pur 3 22 #[true, true, true, true, false, false, false, false, false, false, false, false, false, false, false, false, false, false, false, false, false, false, false, false, false, false] HT_ ?_; refine pur 4 23 #[true, true, true, true, true, false, false, false, false, false, false, false, false, false, false, false, false, false, false, false, false, false, false, false, false, false] HT_ ?_; refine pur 5 24 #[true, true, true, true, true, true, false, false, false, false, false, false, false, false, false, false, false, false, false, false, false, false, false, false, false, false] HT_ ?_; refine pur 6 25 #[true, true, true, true, true, true, true, false, false, false, false, false, false, false, false, false, false, false, false, false, false, false, false, false, false, false] HT_ ?_; refine pur 7 26 #[true, true, true, true, true, true, true, true, false, false, false, false, false, false, false, false, false, false, false, false, false, false, false, false, false, false] HT_ ?_; refine pur 8 27 #[true, true, true, true, true, true, true, true, true, false, false, false, false, false, false, false, false, false, false, false, false, false, false, false, false, false] HT_ ?_; refine pur 9 28 #[true, true, true, true, true, true, true, true, true, true, false, false, false, false, false, false, false, false, false, false, false, false, false, false, false, false] HT_ ?_; refine pur 10 29 #[true, true, true, true, true, true, true, true, true, true, true, false, false, false, false, false, false, false, false, false, false, false, false, false, false, false] HT_ ?_; refine pur 12 31 #[true, true, true, true, true, true, true, true, true, true, true, false, true, false, false, false, false, false, false, false, false, false, false, false, false, false] HT_ ?_; refine pur 13 32 #[true, true, true, true, true, true, true, true, true, true, true, false, true, true, false, false, false, false, false, false, false, false, false, false, false, false] HT_ ?_; refine pur 14 33 #[true, true, true, true, true, true, true, true, true, true, true, false, true, true, true, false, false, false, false, false, false, false, false, false, false, false] HT_ ?_; refine pur 15 34 #[true, true, true, true, true, true, true, true, true, true, true, false, true, true, true, true, false, false, false, false, false, false, false, false, false, false] HT_ ?_; refine pur 17 36 #[true, true, true, true, true, true, true, true, true, true, true, false, true, true, true, true, false, true, false, false, false, false, false, false, false, false] HT_ ?_; refine pur 18 37 #[true, true, true, true, true, true, true, true, true, true, true, false, true, true, true, true, false, true, true, false, false, false, false, false, false, false] HT_ ?_; refine pur 19 38 #[true, true, true, true, true, true, true, true, true, true, true, false, true, true, true, true, false, true, true, true, false, false, false, false, false, false] HT_ ?_; refine pur 20 39 #[true, true, true, true, true, true, true, true, true, true, true, false, true, true, true, true, false, true, true, true, true, false, false, false, false, false] HT_ ?_; refine take_ (i := 11) (N := some 30) (v := ?_) (a' := ?_) #[true, true, true, true, true, true, true, true, true, true, true, true, true, true, true, true, false, true, true, true, true, false, false, false, false, false] rfl rfl (take_ofW HT_.out HW_.out (by kernel_rfl)) (fun _ _ _ h => h) (Or.inl ⟨by rfl, ?_⟩) hHeld ?_ ?_; rotate_left
        ·rintro w' ⟨s0, s1, s2⟩
         go_simp
         with_reducible rfl
        rotate_left
        ·simp only [Act.put, List.setIfInBounds_toArray, List.set_cons_zero, List.set_cons_succ, i64_w, i32_w]
         rfl
        refine take_ (i := 16) (N := some 35) (v := ?_) (a' := ?_) #[true, true, true, true, true, true, true, true, true, true, true, true, true, true, true, true, true, true, true, true, true, false, false, false, false, false] rfl rfl (take_ofW HT_.out HW_.out (by kernel_rfl)) (fun _ _ _ h => h) (Or.inl ⟨by rfl, ?_⟩) hHeld ?_ ?_; rotate_left
        ·rintro w' ⟨s0, s1, s2⟩
         go_simp
         with_reducible rfl
        rotate_left
        ·simp only [Act.put, List.setIfInBounds_toArray, List.set_cons_zero, List.set_cons_succ, i64_w, i32_w]
         rfl
        refine take_ (i := 21) (N := some 40) (v := ?_) (a' := ?_) #[true, true, true, true, true, true, true, true, true, true, true, true, true, true, true, true, true, true, true, true, true, true, false, false, false, false] rfl rfl (take_ofW HT_.out HW_.out (by kernel_rfl)) (fun _ _ _ h => h) (Or.inl ⟨by rfl, ?_⟩) hHeld ?_ ?_; rotate_left
        ·rintro w' ⟨s0, s1, s2⟩
         go_simp
         with_reducible rfl
        rotate_left
        ·simp only [Act.put, List.setIfInBounds_toArray, List.set_cons_zero, List.set_cons_succ, i64_w, i32_w]
         rfl
        refine pur 22 41 #[true, true, true, true, true, true, true, true, true, true, true, true, true, true, true, true, true, true, true, true, true, true, true, false, false, false] HT_ ?_; refine pur 23 42 #[true, true, true, true, true, true, true, true, true, true, true, true, true, true, true, true, true, true, true, true, true, true, true, true, false, false] HT_ ?_; refine pur 24 43 #[true, true, true, true, true, true, true, true, true, true, true, true, true, true, true, true, true, true, true, true, true, true, true, true, true, false] HT_ ?_; refine last_ (i := 25) (N := none) #[true, true, true, true, true, true, true, true, true, true, true, true, true, true, true, true, true, true, true, true, true, true, true, true, true, true] rfl rfl (one_of HT_.out (by kernel_rfl)) (by decide) (fun K hK => ?_); refine skip_ (w1 := ?_) (by rfl) rfl ?_ ?_; rotate_left
        ·go_simp
         rfl
        refine hK.out _ _ ?_; clear hK K; refine done_ (done_of HT_.out (by kernel_rfl)) ?_
        try go_wp2
        go_roundg k2
        case measure => have := HK1.out; have := HK2.out; omega
        case rel => exact ⟨(y300), (wrap64 (x7_2 + 1)), (sd), H', ⟨by have := HK1.out; have := HK2.out; omega⟩, ⟨by (with_reducible repeat (first | apply Kd.R_alloc | apply Kd.R_drewN | apply Kd.R_drew)); exact HQ20.out⟩, ⟨by repeat (first | (with_reducible first | exact HB.out | apply below_alloc | apply pw_below_drewN | apply below_drew1 | refine below_set ?_ GB17.out) | exact HB.out)⟩⟩
       ·have H' := qa H; clear H; go_wp2
        go_roundg k2
        case measure => have := HK1.out; have := HK2.out; omega
        case rel => exact ⟨(x5_2), (wrap64 (x6_1 + 1)), (sd), H', ⟨by have := HK1.out; have := HK2.out; omega⟩, ⟨kR HO_5⟩, ⟨bl⟩⟩
    ·obtain rfl := Option.some.inj H; go_wp2; go_ret; exact ⟨_, er, kR HO_5, bl⟩
 ·rw [if_neg c3] at H; exact absurd H (by simp)

/-! ### spec_TimesOf: function 74 -/
mutual
def spec_TimesOf.j0 : Nat → List Int → List Int → Bool → Option (List Int × Bool)
 | 0, _, _, _ => none
 | k + 1, x0, x1, x14 => if x14 = true then (some ((([] : List Int)), false)) else (spec_TimesOf.l0 k x0 x1 0)
def spec_TimesOf.l0 : Nat → List Int → List Int → Int → Option (List Int × Bool)
 | 0, _, _, _ => none
 | k + 1, x0, x1, x6 => if x6 < 24 then (if 0 ≤ x6 then (if x6 < (x0.length : Int) then ((spec_l1In.f (rd x0 x6) (-10000) 10000).bind fun t310 => (if t310 = true then (if x6 < (x1.length : Int) then ((spec_l1In.f (rd x1 x6) (-10000) 10000).bind fun t312 => (if t312 = true then (spec_TimesOf.l0 k x0 x1 (wrap64 (x6 + 1))) else (some ((([] : List Int)), false)))) else (none)) else (some ((([] : List Int)), false)))) else (none)) else (none)) else ((spec_l2Times.f k x0 x1).bind fun t306 => (some (t306, true)))
end
def spec_TimesOf.f (k : Nat) (l0 : List Int) (l1 : List Int) : Option (List Int × Bool) := (spec_RowOk.f k l0).bind fun t301 => (if t301 = true then ((spec_RowOk.f k l1).bind fun t302 => (spec_TimesOf.j0 k l0 l1 (!t302))) else (spec_TimesOf.j0 k l0 l1 true))
theorem spec_TimesOf.mono_l : ∀ k, (∀ y0 y1 y2, LeO (spec_TimesOf.j0 k y0 y1 y2) (spec_TimesOf.j0 (k + 1) y0 y1 y2)) ∧ (∀ y0 y1 y2, LeO (spec_TimesOf.l0 k y0 y1 y2) (spec_TimesOf.l0 (k + 1) y0 y1 y2))
 | 0 => ⟨fun _ _ _ r h => by simp [spec_TimesOf.j0] at h, fun _ _ _ r h => by simp [spec_TimesOf.l0] at h⟩
 | k + 1 => by
  obtain ⟨ih0, ih1⟩ := spec_TimesOf.mono_l k; refine ⟨?_, ?_⟩
  ·intro y0 y1 y2; unfold spec_TimesOf.j0; have m0 := @spec_RowOk.mono; have m1 := @spec_l2Times.mono; exact mz
  ·intro y0 y1 y2; unfold spec_TimesOf.l0; have m0 := @spec_RowOk.mono; have m1 := @spec_l2Times.mono; exact mz
theorem spec_TimesOf.mono : ∀ a0 a1 k, LeO (spec_TimesOf.f k a0 a1) (spec_TimesOf.f (k + 1) a0 a1) := by
 intro a0 a1 k; obtain ⟨ih0, ih1⟩ := spec_TimesOf.mono_l k; unfold spec_TimesOf.f; have m0 := @spec_RowOk.mono; have m1 := @spec_l2Times.mono; exact mz
set_option maxHeartbeats 8000000 in
set_option maxRecDepth 100000 in
theorem spec_TimesOf.calls (k : Nat) (A0 : Option Addr) (c0 : Nat) (l0 : List Int) (A1 : Option Addr) (c1 : Nat) (l1 : List Int) (r1 : List Int) (r2 : Bool) (w : World) (hr0 : Kd.C (Kd.int .i64) w A0 l0.length l0) (hc0 : l0.length ≤ c0) (hr1 : Kd.C (Kd.int .i64) w A1 l1.length l1) (hc1 : l1.length ≤ c1) (h : spec_TimesOf.f k l0 l1 = some (r1, r2)) :
  Calls Try.prog 74 #[.slice A0 l0.length c0, .slice A1 l1.length c1] w fun e w' => ∃ v0_ : Value, e = .returned (.tuple #[v0_, .bool r2]) ∧ Kd.R (Kd.int .i64) 3 w' w.heap.size (fun _ => True) v0_ r1 ∧ Below w.heap.size w w' := by
 have HR0 := qa hr0; have HC0 := qa hc0; clear hr0 hc0; have HR1 := qa hr1; have HC1 := qa hc1; clear hr1 hc1; have HB := qa (Below.refl w.heap.size w); have H : ((spec_RowOk.f k l0).bind fun t301 => (if t301 = true then ((spec_RowOk.f k l1).bind fun t302 => (spec_TimesOf.j0 k l0 l1 (!t302))) else (spec_TimesOf.j0 k l0 l1 true))) = some (r1, r2) := h; clear h; have HC3 := qa H; clear H
 go_enter Try.func74, Try.ntmps74
 go_upto_region 1 with (fail)
 go_cut [14] (fun v14 wc => ∃ (kq : Nat) (x14_2 : Bool), v14 = .bool x14_2 ∧ Aside0 (spec_TimesOf.j0 kq l0 l1 x14_2 = some (r1, r2)) ∧ Aside0 (kq ≤ k) ∧ Aside0 (Below w.heap.size w wc))
 case first =>
  have H := HC3.out; clear HC3; replace H := qb H; obtain ⟨t301, A4, H⟩ := H
  by_cases c5 : t301 = true
  ·subst c5; replace H := qt H; replace H := qb H; obtain ⟨t302, A6, H⟩ := H; have H' := qa H; clear H
   go_wp2_with (first | ((with_reducible refine gate_callee (f := 67) rfl ?_); refine goesL_ (some 8) rfl rfl Try.func67 (by kernel_rfl) rfl #[.slice A0 l0.length c0] rfl am ?_; (with_reducible refine (spec_RowOk.calls k _ _ l0 true _ ?side1 ?side2 A4.out).mono ?_); (case side1 => exact cx (Kd.C_below HR0.out HB.out)); (case side2 => exact HC0.out); rintro e w' ⟨rfl, ⟨nd, rfl⟩⟩; refine ⟨_, rfl, ?_⟩) | (go_at_call 67; (with_reducible refine (spec_RowOk.calls k _ _ l1 t302 _ ?side1 ?side2 A6.out).mono ?_); (case side1 => exact cx (Kd.C_below HR1.out (bl))); (case side2 => exact HC1.out); rintro e w' ⟨rfl, ⟨nd, rfl⟩⟩))
   go_meet
   case rel => exact ⟨_, (!t302), (sd), H', ⟨by first | omega | exact Nat.le_refl _⟩, ⟨bl⟩⟩
  ·replace c5 := Bool.eq_false_iff.mpr c5; subst c5; replace H := qf H; have H' := qa H; clear H
   go_wp2_with (first | ((with_reducible refine gate_callee (f := 67) rfl ?_); refine goesL_ (some 8) rfl rfl Try.func67 (by kernel_rfl) rfl #[.slice A0 l0.length c0] rfl am ?_; (with_reducible refine (spec_RowOk.calls k _ _ l0 false _ ?side1 ?side2 A4.out).mono ?_); (case side1 => exact cx (Kd.C_below HR0.out HB.out)); (case side2 => exact HC0.out); rintro e w' ⟨rfl, ⟨nd, rfl⟩⟩; refine ⟨_, rfl, ?_⟩))
   go_meet
   case rel => exact ⟨_, (true), (sd), H', ⟨by first | omega | exact Nat.le_refl _⟩, ⟨bl⟩⟩
 case rest =>
  clear HC3; obtain ⟨kq, x14_2, rfl, HA, HJ2, HB⟩ := hcut
  cases kq with
  | zero => exact absurd HA.out (by simp [spec_TimesOf.j0])
  | succ kj2 =>
   have H := HA.out; clear HA; simp only [spec_TimesOf.j0] at H
   by_cases c7 : x14_2 = true
   ·subst c7; replace H := qt H; obtain ⟨y303, hy_⟩ : ∃ y_ : List Int, y_ = (([] : List Int)) := ⟨_, rfl⟩; replace H : (some (y303, false)) = some (r1, r2) := yh; have Ny303 := qa hy_; clear hy_; simp only [Option.some.injEq, Prod.mk.injEq] at H; obtain ⟨rfl, rfl⟩ := H
    go_wp2_with (first | ((with_reducible refine gate_dst (N := 15) rfl ?_); refine Kd.R_lit (Kd.int .i64) _ 3 ?hg (N := 15) ?hd (xs := ([] : List Int)) (inner := []) (ok := fun _ => True) (okp := fun _ => True) ?hr ?hp (fun _ hk => hk) trivial (Below.refl _ _) (Nat.le_refl _) (by simp) ?_; (case hd => rfl); (case hg => rfl); (case hr => exact gr); (case hp => exact (Reps.none _ _)); intro v304 w8 ho9 hb hg_ hnew_; clear hg_ hnew_; (first | rw [← Ny303.out] at ho9 | (simp only [Int.reduceToNat] at ho9; rw [← Ny303.out] at ho9)); have HO305 := qa (Kd.R_lower ho9 (below_size (bl))); replace HB := qa (below_step (bl) hb); clear hb ho9))
    go_ret2; exact ⟨_, er, kR HO305, bl⟩
   ·replace c7 := Bool.eq_false_iff.mpr c7; subst c7; replace H := qf H; have H' := qa H; clear H; go_wp2
    go_loopg [6] kj2 (fun kq v6 w' => ∃ (x6_2 : Int), v6 = .int .i64 x6_2 ∧ Aside0 (spec_TimesOf.l0 kq l0 l1 x6_2 = some (r1, r2)) ∧ Aside0 (kq ≤ kj2) ∧ Aside0 (Below w.heap.size w w'))
    case atStart => exact ⟨(0), (sd), H', ⟨Nat.le_refl _⟩, ⟨bl⟩⟩
    case round =>
     clear H'; obtain ⟨x6_2, rfl, HA, HK2, HB⟩ := hrel
     cases gk with
     | zero => exact absurd HA.out (by simp [spec_TimesOf.l0])
     | succ k2 =>
      have H := HA.out; clear HA; simp only [spec_TimesOf.l0] at H; replace H := qe H; obtain ⟨c10b0, H⟩ | ⟨c10b0, H⟩ := H
      ·replace H := qd H; obtain ⟨c11b0, H⟩ := H; replace H := qd H; obtain ⟨c12b0, H⟩ := H; replace H := qb H; obtain ⟨t310, A13, H⟩ := H
       by_cases c14 : t310 = true
       ·subst c14; replace H := qt H; replace H := qd H; obtain ⟨c15b0, H⟩ := H; replace H := qb H; obtain ⟨t312, A16, H⟩ := H
        by_cases c17 : t312 = true
        ·subst c17; replace H := qt H; have H' := qa H; clear H; have p309 : 0 ≤ (x6_2 : Int) := qo; have q309 : x6_2 < (l0.length : Int) := qo; obtain ⟨ad309, e309, hx309_0⟩ := Kd.at_int HR0.out x6_2 p309 q309; cases e309; (try replace hx309_0 := (HB.out.cell (World.block_lt_of_cell? w _ hx309_0)).trans hx309_0); replace p309 := eq_true p309; replace q309 := eq_true q309
         go_wp2_with (first | ((with_reducible refine gate_callee (f := 78) rfl ?_); refine goesL_ (some 24) rfl rfl Try.func78 (by kernel_rfl) rfl #[.int .i64 (rd l0 x6_2), .int .i64 (-10000), .int .i64 10000] rfl am ?_; (with_reducible refine (spec_l1In.calls (rd l0 x6_2) (-10000) 10000 true _ A13.out).mono ?_); rintro e w' ⟨rfl, ⟨nd, rfl⟩⟩; refine ⟨_, rfl, ?_⟩; have p311 : 0 ≤ (x6_2 : Int) := qo; have q311 : x6_2 < (l1.length : Int) := qo; obtain ⟨ad311, e311, hx311_0⟩ := Kd.at_int HR1.out x6_2 p311 q311; cases e311; replace hx311_0 := (HB.out.cell (World.block_lt_of_cell? w _ hx311_0)).trans hx311_0; replace p311 := eq_true p311; replace q311 := eq_true q311) | (go_at_call 78; (with_reducible refine (spec_l1In.calls (rd l1 x6_2) (-10000) 10000 true _ A16.out).mono ?_); rintro e w' ⟨rfl, ⟨nd, rfl⟩⟩))
         go_roundg k2
         case measure => have := HJ2.out; have := HK2.out; omega
         case rel => exact ⟨(wrap64 (x6_2 + 1)), (sd), H', ⟨by have := HJ2.out; have := HK2.out; omega⟩, ⟨bl⟩⟩
        ·replace c17 := Bool.eq_false_iff.mpr c17; subst c17; replace H := qf H; obtain ⟨y313, hy_⟩ : ∃ y_ : List Int, y_ = (([] : List Int)) := ⟨_, rfl⟩; replace H : (some (y313, false)) = some (r1, r2) := yh; have Ny313 := qa hy_; clear hy_; simp only [Option.some.injEq, Prod.mk.injEq] at H; obtain ⟨rfl, rfl⟩ := H; have p309 : 0 ≤ (x6_2 : Int) := qo; have q309 : x6_2 < (l0.length : Int) := qo; obtain ⟨ad309, e309, hx309_0⟩ := Kd.at_int HR0.out x6_2 p309 q309; cases e309; (try replace hx309_0 := (HB.out.cell (World.block_lt_of_cell? w _ hx309_0)).trans hx309_0); replace p309 := eq_true p309; replace q309 := eq_true q309
         go_wp2_with (first | ((with_reducible refine gate_callee (f := 78) rfl ?_); refine goesL_ (some 24) rfl rfl Try.func78 (by kernel_rfl) rfl #[.int .i64 (rd l0 x6_2), .int .i64 (-10000), .int .i64 10000] rfl am ?_; (with_reducible refine (spec_l1In.calls (rd l0 x6_2) (-10000) 10000 true _ A13.out).mono ?_); rintro e w' ⟨rfl, ⟨nd, rfl⟩⟩; refine ⟨_, rfl, ?_⟩; have p311 : 0 ≤ (x6_2 : Int) := qo; have q311 : x6_2 < (l1.length : Int) := qo; obtain ⟨ad311, e311, hx311_0⟩ := Kd.at_int HR1.out x6_2 p311 q311; cases e311; replace hx311_0 := (HB.out.cell (World.block_lt_of_cell? w _ hx311_0)).trans hx311_0; replace p311 := eq_true p311; replace q311 := eq_true q311) | (go_at_call 78; (with_reducible refine (spec_l1In.calls (rd l1 x6_2) (-10000) 10000 false _ A16.out).mono ?_); rintro e w' ⟨rfl, ⟨nd, rfl⟩⟩) | ((with_reducible refine gate_dst (N := 34) rfl ?_); refine Kd.R_lit (Kd.int .i64) _ 3 ?hg (N := 34) ?hd (xs := ([] : List Int)) (inner := []) (ok := fun _ => True) (okp := fun _ => True) ?hr ?hp (fun _ hk => hk) trivial (Below.refl _ _) (Nat.le_refl _) (by simp) ?_; (case hd => rfl); (case hg => rfl); (case hr => exact gr); (case hp => exact (Reps.none _ _)); intro v314 w18 ho19 hb hg_ hnew_; clear hg_ hnew_; (first | rw [← Ny313.out] at ho19 | (simp only [Int.reduceToNat] at ho19; rw [← Ny313.out] at ho19)); have HO315 := qa (Kd.R_lower ho19 (below_size (bl))); replace HB := qa (below_step (bl) hb); clear hb ho19))
         go_ret2; exact ⟨_, er, kR HO315, bl⟩
       ·replace c14 := Bool.eq_false_iff.mpr c14; subst c14; replace H := qf H; obtain ⟨y316, hy_⟩ : ∃ y_ : List Int, y_ = (([] : List Int)) := ⟨_, rfl⟩; replace H : (some (y316, false)) = some (r1, r2) := yh; have Ny316 := qa hy_; clear hy_; simp only [Option.some.injEq, Prod.mk.injEq] at H; obtain ⟨rfl, rfl⟩ := H; have p309 : 0 ≤ (x6_2 : Int) := qo; have q309 : x6_2 < (l0.length : Int) := qo; obtain ⟨ad309, e309, hx309_0⟩ := Kd.at_int HR0.out x6_2 p309 q309; cases e309; (try replace hx309_0 := (HB.out.cell (World.block_lt_of_cell? w _ hx309_0)).trans hx309_0); replace p309 := eq_true p309; replace q309 := eq_true q309
        go_wp2_with (first | ((with_reducible refine gate_callee (f := 78) rfl ?_); refine goesL_ (some 24) rfl rfl Try.func78 (by kernel_rfl) rfl #[.int .i64 (rd l0 x6_2), .int .i64 (-10000), .int .i64 10000] rfl am ?_; (with_reducible refine (spec_l1In.calls (rd l0 x6_2) (-10000) 10000 false _ A13.out).mono ?_); rintro e w' ⟨rfl, ⟨nd, rfl⟩⟩; refine ⟨_, rfl, ?_⟩) | ((with_reducible refine gate_dst (N := 34) rfl ?_); refine Kd.R_lit (Kd.int .i64) _ 3 ?hg (N := 34) ?hd (xs := ([] : List Int)) (inner := []) (ok := fun _ => True) (okp := fun _ => True) ?hr ?hp (fun _ hk => hk) trivial (Below.refl _ _) (Nat.le_refl _) (by simp) ?_; (case hd => rfl); (case hg => rfl); (case hr => exact gr); (case hp => exact (Reps.none _ _)); intro v317 w20 ho21 hb hg_ hnew_; clear hg_ hnew_; (first | rw [← Ny316.out] at ho21 | (simp only [Int.reduceToNat] at ho21; rw [← Ny316.out] at ho21)); have HO318 := qa (Kd.R_lower ho21 (below_size (bl))); replace HB := qa (below_step (bl) hb); clear hb ho21))
        go_ret2; exact ⟨_, er, kR HO318, bl⟩
      ·replace H := qb H; obtain ⟨t306, A22, H⟩ := H; simp only [Option.some.injEq, Prod.mk.injEq] at H; obtain ⟨rfl, rfl⟩ := H
       go_wp2_with (first | ((with_reducible refine gate_callee (f := 84) rfl ?_); refine goesL_ (some 37) rfl rfl Try.func84 (by kernel_rfl) rfl #[.slice A0 l0.length c0, .slice A1 l1.length c1] rfl am ?_; (with_reducible refine (spec_l2Times.calls k2 _ _ l0 _ _ l1 t306 _ ?side1 ?side2 ?side3 ?side4 A22.out).mono ?_); (case side1 => exact cx (Kd.C_below HR0.out HB.out)); (case side2 => exact HC0.out); (case side3 => exact cx (Kd.C_below HR1.out HB.out)); (case side4 => exact HC1.out); rintro e w23 ⟨v307, rfl, ho0, hb⟩; refine ⟨_, rfl, ?_⟩; have HO308 := qa (Kd.R_lower ho0 (below_size (bl))); replace HB := qa (below_step (bl) hb)))
       go_ret2; exact ⟨_, er, kR HO308, bl⟩

end Go.Proofs.Ytmgjidgfhlclmaa.PFnExactDeskDo
