-- Written for this claim by a program of this session (wip/myprint.sh), after the kit's print; some functions by hand
import Derived.Test.YtegdgaldbjdcmaaPFnNotDividedx0
import Derived.Test.YtegdgaldbjdcmaaPFnNotDividedx2
namespace Go.Proofs.Ytegdgaldbjdcmaa.PFnNotDivided
open Go.RowKit Go.Proofs.YtegdgaldbjdcmaaW.PrintWords Go.Proofs.YtegdgaldbjdcmaaW.PrintLast Go.Proofs.YtegdgaldbjdcmaaW.PrintMore
attribute [local go_sem] max2_int min2_int max_two min_two max_three min_three max_four min_four   -- for this text's walks alone
set_option linter.unusedVariables false
set_option linter.unusedSimpArgs false

/-! ### spec_l20UpTo: function 66 -/
def spec_l20UpTo.f (k : Nat) (s0_0 : List Int) (s0_1 : Int) : Option (Int × Int) := (spec_l20Rd_pick.f k s0_0 s0_1 30).bind fun bt151 => ((spec_l20Rd_pick.f k s0_0 bt151.2 250).bind fun bt153 => ((spec_l20Rd_pick.f k s0_0 bt153.2 40).bind fun bt155 => ((spec_l20Rd_pick.f k s0_0 bt155.2 32).bind fun bt157 => ((spec_l20Rd_pick.f k s0_0 bt157.2 32).bind fun bt159 => ((some (([wrap64 (1 + bt151.1), wrap64 (1 + bt153.1), wrap64 (1000 - bt155.1), wrap64 (bt157.1 * bt159.1)] : List Int) : List Int)).bind fun y161 => ((spec_l20Rd_pick.f k s0_0 bt159.2 7).bind fun bt164 => (if 0 ≤ (wrap64 (Int.tdiv bt164.1 2)) then (if (wrap64 (Int.tdiv bt164.1 2)) < (y161.length : Int) then ((spec_l20Rd_pick.f k s0_0 bt164.2 40).bind fun bt167 => (some (wrap64 ((rd y161 (wrap64 (Int.tdiv bt164.1 2))) + (wrap64 ((wrap64 (Int.tdiv bt167.1 39)) * 1000))), bt167.2))) else (none)) else (none))))))))
theorem spec_l20UpTo.mono : ∀ a0 a1 k, LeO (spec_l20UpTo.f k a0 a1) (spec_l20UpTo.f (k + 1) a0 a1) := by
  intro a0 a1 k
  unfold spec_l20UpTo.f
  repeat' first
      | (with_reducible exact spec_l20Rd_pick.mono _ _ _ _)
      | (with_reducible exact LeO.refl _)
      | (with_reducible exact LeO.none _)
      | (with_reducible refine LeO.ite ?_ ?_)
      | (with_reducible refine LeO.bind ?_ (fun _ => ?_))
      | exact spec_l20Rd_pick.mono _ _ _ _
      | exact LeO.none _
      | refine LeO.ite ?_ ?_
      | refine LeO.bind ?_ (fun _ => ?_)
def spec_l20UpTo.T1 : Bool × List (List Nat × List Nat) := (true, [([], []), ([0], [0]), ([1], [1]), ([], []), ([3, 1], [3]), ([4], [4]), ([], []), ([6, 4], [6]), ([7], [7]), ([], []), ([9, 7], [9]), ([], []), ([11, 10], [11]), ([10, 12], [10, 12]), ([2, 5, 8, 13], [2, 5, 8, 13]), ([], []), ([15, 12], [15]), ([16], [16]), ([14, 17], [14, 17]), ([18], [18]), ([], []), ([20, 16], [20]), ([21], [21]), ([22], [22]), ([19, 23], [19, 23]), ([24, 21, 0, 1, 2, 3, 4, 5, 6, 7, 8, 9, 10, 11, 12, 13, 14, 15, 16, 17, 18, 19, 20, 21, 22, 23, 24], [24])])
def spec_l20UpTo.B1 : List Nat := [0, 1, 3, 0, 11, 27, 0, 91, 219, 0, 731, 0, 3803, 7899, 16383, 0, 40667, 106203, 262143, 524287, 0, 1154779, 3251931, 7446235, 16777215, 33554431]
theorem spec_l20UpTo.tab1 : rtab .any (opsOf Try.f66 1) = spec_l20UpTo.T1 := by kernel_rfl
theorem spec_l20UpTo.bits1 : waitsOk spec_l20UpTo.T1.2 spec_l20UpTo.B1 = true := by kernel_rfl
set_option maxHeartbeats 8000000 in
set_option maxRecDepth 100000 in
theorem spec_l20UpTo.calls (k : Nat) (g : Nat) (s0_0 : List Int) (s0_1 : Int) (r1 : Int) (r2 : Int) (w0 w : World) (hI : IsS47 w0 w g s0_0 s0_1) (hB : Below w0.heap.size w0 w) (h : spec_l20UpTo.f k s0_0 s0_1 = some (r1, r2)) :
    Calls Try.prog 66 #[.pointer (some ⟨g, 0, none⟩)] w fun e w' => e = .returned (.int .i64 r1) ∧ IsS47 w0 w' g s0_0 r2 ∧ Below w0.heap.size w0 w' ∧ KeepBut w w' g none := by
  have HI0 := Aside0.mk hI
  have HK := Aside0.mk (KeepBut.refl w g none)
  have HL := Aside0.mk hB.size
  clear hI
  have HW0 := Aside0.mk hB.size
  have HB := Aside0.mk hB
  clear hB
  have H : ((spec_l20Rd_pick.f k s0_0 s0_1 30).bind fun bt151 => ((spec_l20Rd_pick.f k s0_0 bt151.2 250).bind fun bt153 => ((spec_l20Rd_pick.f k s0_0 bt153.2 40).bind fun bt155 => ((spec_l20Rd_pick.f k s0_0 bt155.2 32).bind fun bt157 => ((spec_l20Rd_pick.f k s0_0 bt157.2 32).bind fun bt159 => ((some (([wrap64 (1 + bt151.1), wrap64 (1 + bt153.1), wrap64 (1000 - bt155.1), wrap64 (bt157.1 * bt159.1)] : List Int) : List Int)).bind fun y161 => ((spec_l20Rd_pick.f k s0_0 bt159.2 7).bind fun bt164 => (if 0 ≤ (wrap64 (Int.tdiv bt164.1 2)) then (if (wrap64 (Int.tdiv bt164.1 2)) < (y161.length : Int) then ((spec_l20Rd_pick.f k s0_0 bt164.2 40).bind fun bt167 => (some (wrap64 ((rd y161 (wrap64 (Int.tdiv bt164.1 2))) + (wrap64 ((wrap64 (Int.tdiv bt167.1 39)) * 1000))), bt167.2))) else (none)) else (none))))))))) = some (r1, r2) := h
  clear h
  replace H := Option.bind_eq_some_iff.mp H
  obtain ⟨⟨t151, t152⟩, A20, H⟩ := H
  replace H : ((spec_l20Rd_pick.f k s0_0 t152 250).bind fun bt153 => ((spec_l20Rd_pick.f k s0_0 bt153.2 40).bind fun bt155 => ((spec_l20Rd_pick.f k s0_0 bt155.2 32).bind fun bt157 => ((spec_l20Rd_pick.f k s0_0 bt157.2 32).bind fun bt159 => ((some (([wrap64 (1 + t151), wrap64 (1 + bt153.1), wrap64 (1000 - bt155.1), wrap64 (bt157.1 * bt159.1)] : List Int) : List Int)).bind fun y161 => ((spec_l20Rd_pick.f k s0_0 bt159.2 7).bind fun bt164 => (if 0 ≤ (wrap64 (Int.tdiv bt164.1 2)) then (if (wrap64 (Int.tdiv bt164.1 2)) < (y161.length : Int) then ((spec_l20Rd_pick.f k s0_0 bt164.2 40).bind fun bt167 => (some (wrap64 ((rd y161 (wrap64 (Int.tdiv bt164.1 2))) + (wrap64 ((wrap64 (Int.tdiv bt167.1 39)) * 1000))), bt167.2))) else (none)) else (none)))))))) = some (r1, r2) := H
  have A2 := Aside0.mk A20
  clear A20
  replace H := Option.bind_eq_some_iff.mp H
  obtain ⟨⟨t153, t154⟩, A30, H⟩ := H
  replace H : ((spec_l20Rd_pick.f k s0_0 t154 40).bind fun bt155 => ((spec_l20Rd_pick.f k s0_0 bt155.2 32).bind fun bt157 => ((spec_l20Rd_pick.f k s0_0 bt157.2 32).bind fun bt159 => ((some (([wrap64 (1 + t151), wrap64 (1 + t153), wrap64 (1000 - bt155.1), wrap64 (bt157.1 * bt159.1)] : List Int) : List Int)).bind fun y161 => ((spec_l20Rd_pick.f k s0_0 bt159.2 7).bind fun bt164 => (if 0 ≤ (wrap64 (Int.tdiv bt164.1 2)) then (if (wrap64 (Int.tdiv bt164.1 2)) < (y161.length : Int) then ((spec_l20Rd_pick.f k s0_0 bt164.2 40).bind fun bt167 => (some (wrap64 ((rd y161 (wrap64 (Int.tdiv bt164.1 2))) + (wrap64 ((wrap64 (Int.tdiv bt167.1 39)) * 1000))), bt167.2))) else (none)) else (none))))))) = some (r1, r2) := H
  have A3 := Aside0.mk A30
  clear A30
  replace H := Option.bind_eq_some_iff.mp H
  obtain ⟨⟨t155, t156⟩, A40, H⟩ := H
  replace H : ((spec_l20Rd_pick.f k s0_0 t156 32).bind fun bt157 => ((spec_l20Rd_pick.f k s0_0 bt157.2 32).bind fun bt159 => ((some (([wrap64 (1 + t151), wrap64 (1 + t153), wrap64 (1000 - t155), wrap64 (bt157.1 * bt159.1)] : List Int) : List Int)).bind fun y161 => ((spec_l20Rd_pick.f k s0_0 bt159.2 7).bind fun bt164 => (if 0 ≤ (wrap64 (Int.tdiv bt164.1 2)) then (if (wrap64 (Int.tdiv bt164.1 2)) < (y161.length : Int) then ((spec_l20Rd_pick.f k s0_0 bt164.2 40).bind fun bt167 => (some (wrap64 ((rd y161 (wrap64 (Int.tdiv bt164.1 2))) + (wrap64 ((wrap64 (Int.tdiv bt167.1 39)) * 1000))), bt167.2))) else (none)) else (none)))))) = some (r1, r2) := H
  have A4 := Aside0.mk A40
  clear A40
  replace H := Option.bind_eq_some_iff.mp H
  obtain ⟨⟨t157, t158⟩, A50, H⟩ := H
  replace H : ((spec_l20Rd_pick.f k s0_0 t158 32).bind fun bt159 => ((some (([wrap64 (1 + t151), wrap64 (1 + t153), wrap64 (1000 - t155), wrap64 (t157 * bt159.1)] : List Int) : List Int)).bind fun y161 => ((spec_l20Rd_pick.f k s0_0 bt159.2 7).bind fun bt164 => (if 0 ≤ (wrap64 (Int.tdiv bt164.1 2)) then (if (wrap64 (Int.tdiv bt164.1 2)) < (y161.length : Int) then ((spec_l20Rd_pick.f k s0_0 bt164.2 40).bind fun bt167 => (some (wrap64 ((rd y161 (wrap64 (Int.tdiv bt164.1 2))) + (wrap64 ((wrap64 (Int.tdiv bt167.1 39)) * 1000))), bt167.2))) else (none)) else (none))))) = some (r1, r2) := H
  have A5 := Aside0.mk A50
  clear A50
  replace H := Option.bind_eq_some_iff.mp H
  obtain ⟨⟨t159, t160⟩, A60, H⟩ := H
  replace H : ((some (([wrap64 (1 + t151), wrap64 (1 + t153), wrap64 (1000 - t155), wrap64 (t157 * t159)] : List Int) : List Int)).bind fun y161 => ((spec_l20Rd_pick.f k s0_0 t160 7).bind fun bt164 => (if 0 ≤ (wrap64 (Int.tdiv bt164.1 2)) then (if (wrap64 (Int.tdiv bt164.1 2)) < (y161.length : Int) then ((spec_l20Rd_pick.f k s0_0 bt164.2 40).bind fun bt167 => (some (wrap64 ((rd y161 (wrap64 (Int.tdiv bt164.1 2))) + (wrap64 ((wrap64 (Int.tdiv bt167.1 39)) * 1000))), bt167.2))) else (none)) else (none)))) = some (r1, r2) := H
  have A6 := Aside0.mk A60
  clear A60
  obtain ⟨y161, hy161⟩ : ∃ y_ : List Int, y_ = (([wrap64 (1 + t151), wrap64 (1 + t153), wrap64 (1000 - t155), wrap64 (t157 * t159)] : List Int)) := ⟨_, rfl⟩
  replace H : ((spec_l20Rd_pick.f k s0_0 t160 7).bind fun bt164 => (if 0 ≤ (wrap64 (Int.tdiv bt164.1 2)) then (if (wrap64 (Int.tdiv bt164.1 2)) < (y161.length : Int) then ((spec_l20Rd_pick.f k s0_0 bt164.2 40).bind fun bt167 => (some (wrap64 ((rd y161 (wrap64 (Int.tdiv bt164.1 2))) + (wrap64 ((wrap64 (Int.tdiv bt167.1 39)) * 1000))), bt167.2))) else (none)) else (none))) = some (r1, r2) := by first | (rw [hy161]; with_reducible exact H) | (have H2_ := (Option.bind_some _ _).symm.trans H; rw [hy161]; with_reducible exact H2_) | (have H2_ := (Option.bind_some _ _).symm.trans H; with_reducible exact H2_) | with_reducible exact H | (rw [hy161]; exact H) | exact H
  have Ny161 := Aside0.mk hy161
  clear hy161
  replace H := Option.bind_eq_some_iff.mp H
  obtain ⟨⟨t164, t165⟩, A70, H⟩ := H
  replace H : (if 0 ≤ (wrap64 (Int.tdiv t164 2)) then (if (wrap64 (Int.tdiv t164 2)) < (y161.length : Int) then ((spec_l20Rd_pick.f k s0_0 t165 40).bind fun bt167 => (some (wrap64 ((rd y161 (wrap64 (Int.tdiv t164 2))) + (wrap64 ((wrap64 (Int.tdiv bt167.1 39)) * 1000))), bt167.2))) else (none)) else (none)) = some (r1, r2) := H
  have A7 := Aside0.mk A70
  clear A70
  obtain ⟨ji8, hji8⟩ : ∃ j_ : Int, (wrap64 (Int.tdiv t164 2)) = j_ := ⟨_, rfl⟩
  replace H : (if 0 ≤ (ji8) then (if (ji8) < (y161.length : Int) then ((spec_l20Rd_pick.f k s0_0 t165 40).bind fun bt167 => (some (wrap64 ((rd y161 (ji8)) + (wrap64 ((wrap64 (Int.tdiv bt167.1 39)) * 1000))), bt167.2))) else (none)) else (none)) = some (r1, r2) := by first | (rw [hji8] at H; exact H) | (simp only [hji8] at H ⊢; exact H)
  (try rw [hji8] at A2)
  (try rw [hji8] at A3)
  (try rw [hji8] at A4)
  (try rw [hji8] at A5)
  (try rw [hji8] at A6)
  (try rw [hji8] at A7)
  have hji8w : (IntKind.i64.wrap (Int.tdiv t164 2)) = ji8 := (i64_w _).trans hji8
  by_cases c9 : 0 ≤ (ji8)
  · rw [if_pos c9] at H
    have c9b0 : decide (0 ≤ (ji8)) = true := decide_eq_true c9
    clear c9
    by_cases c10 : (ji8) < (y161.length : Int)
    · rw [if_pos c10] at H
      have c10b0 : decide ((ji8) < (y161.length : Int)) = true := decide_eq_true c10
      clear c10
      replace H := Option.bind_eq_some_iff.mp H
      obtain ⟨⟨t167, t168⟩, A110, H⟩ := H
      replace H : (some (wrap64 ((rd y161 (ji8)) + (wrap64 ((wrap64 (Int.tdiv t167 39)) * 1000))), t168)) = some (r1, r2) := H
      have A11 := Aside0.mk A110
      clear A110
      simp only [Option.some.injEq, Prod.mk.injEq] at H
      obtain ⟨rfl, rfl⟩ := H
      go_enter Try.func66, Try.ntmps66
      try go_wp2
      have pi166 : (0 ≤ ((ji8) : Int)) = True := eq_true (of_decide_eq_true (by first | (with_reducible assumption) | assumption))
      have qi166 : ((ji8) < (y161.length : Int)) = True := eq_true (of_decide_eq_true (by first | (with_reducible assumption) | assumption))
      have n0_ := Aside0.mk (IsS47.drew HI0.out)
      have n1_ := Aside0.mk (keep_drew HK.out)
      have n2_ := Aside0.mk (below_drew1 HB.out)
      clear HI0
      clear HK
      clear HB
      have HI0 := n0_
      have HK := n1_
      have HB := n2_
      clear n0_ n1_ n2_
      refine start_ (n := 26) (S := fun w' => True) (ds := []) #[false, false, false, false, false, false, false, false, false, false, false, false, false, false, false, false, false, false, false, false, false, false, false, false, false, false] (by kernel_rfl) rfl rfl trivial (fun hHeld => ?_); refine with_tabW spec_l20UpTo.tab1 spec_l20UpTo.bits1 (fun HT_ HW_ => ?_)
      generalize w.drew = w12 at HI0 HK HB hHeld ⊢
      refine pure_ (i := 0) (N := some 3) (v := ?_) (a' := ?_) #[true, false, false, false, false, false, false, false, false, false, false, false, false, false, false, false, false, false, false, false, false, false, false, false, false, false] rfl rfl (any_of HT_.out (by kernel_rfl)) (fun _ _ _ h => h) (Or.inl ⟨by rfl, ?_⟩) ?_ ?_
      rotate_left
      · intro w'
        go_simp
        with_reducible rfl
      rotate_left
      · simp only [Act.put, List.setIfInBounds_toArray, List.set_cons_zero, List.set_cons_succ, i64_w, i32_w]
        rfl
      refine pure_ (i := 3) (N := some 6) (v := ?_) (a' := ?_) #[true, false, false, true, false, false, false, false, false, false, false, false, false, false, false, false, false, false, false, false, false, false, false, false, false, false] rfl rfl (any_of HT_.out (by kernel_rfl)) (fun _ _ _ h => h) (Or.inl ⟨by rfl, ?_⟩) ?_ ?_
      rotate_left
      · intro w'
        go_simp
        with_reducible rfl
      rotate_left
      · simp only [Act.put, List.setIfInBounds_toArray, List.set_cons_zero, List.set_cons_succ, i64_w, i32_w]
        rfl
      refine pure_ (i := 6) (N := some 9) (v := ?_) (a' := ?_) #[true, false, false, true, false, false, true, false, false, false, false, false, false, false, false, false, false, false, false, false, false, false, false, false, false, false] rfl rfl (any_of HT_.out (by kernel_rfl)) (fun _ _ _ h => h) (Or.inl ⟨by rfl, ?_⟩) ?_ ?_
      rotate_left
      · intro w'
        go_simp
        with_reducible rfl
      rotate_left
      · simp only [Act.put, List.setIfInBounds_toArray, List.set_cons_zero, List.set_cons_succ, i64_w, i32_w]
        rfl
      refine pure_ (i := 9) (N := some 12) (v := ?_) (a' := ?_) #[true, false, false, true, false, false, true, false, false, true, false, false, false, false, false, false, false, false, false, false, false, false, false, false, false, false] rfl rfl (any_of HT_.out (by kernel_rfl)) (fun _ _ _ h => h) (Or.inl ⟨by rfl, ?_⟩) ?_ ?_
      rotate_left
      · intro w'
        go_simp
        with_reducible rfl
      rotate_left
      · simp only [Act.put, List.setIfInBounds_toArray, List.set_cons_zero, List.set_cons_succ, i64_w, i32_w]
        rfl
      refine pure_ (i := 11) (N := some 14) (v := ?_) (a' := ?_) #[true, false, false, true, false, false, true, false, false, true, false, true, false, false, false, false, false, false, false, false, false, false, false, false, false, false] rfl rfl (any_of HT_.out (by kernel_rfl)) (fun _ _ _ h => h) (Or.inl ⟨by rfl, ?_⟩) ?_ ?_
      rotate_left
      · intro w'
        go_simp
        with_reducible rfl
      rotate_left
      · simp only [Act.put, List.setIfInBounds_toArray, List.set_cons_zero, List.set_cons_succ, i64_w, i32_w]
        rfl
      refine pure_ (i := 15) (N := some 18) (v := ?_) (a' := ?_) #[true, false, false, true, false, false, true, false, false, true, false, true, false, false, false, true, false, false, false, false, false, false, false, false, false, false] rfl rfl (any_of HT_.out (by kernel_rfl)) (fun _ _ _ h => h) (Or.inl ⟨by rfl, ?_⟩) ?_ ?_
      rotate_left
      · intro w'
        go_simp
        with_reducible rfl
      rotate_left
      · simp only [Act.put, List.setIfInBounds_toArray, List.set_cons_zero, List.set_cons_succ, i64_w, i32_w]
        rfl
      refine pure_ (i := 20) (N := some 23) (v := ?_) (a' := ?_) #[true, false, false, true, false, false, true, false, false, true, false, true, false, false, false, true, false, false, false, false, true, false, false, false, false, false] rfl rfl (any_of HT_.out (by kernel_rfl)) (fun _ _ _ h => h) (Or.inl ⟨by rfl, ?_⟩) ?_ ?_
      rotate_left
      · intro w'
        go_simp
        with_reducible rfl
      rotate_left
      · simp only [Act.put, List.setIfInBounds_toArray, List.set_cons_zero, List.set_cons_succ, i64_w, i32_w]
        rfl
      refine inv_at [1, 2, 4, 5, 7, 8, 10, 12, 13, 14, 16, 17, 18, 19, 21, 22, 23, 24, 25] (fun a0_ b a w' => ∃ (v162 : Value) (adz_v162 : Addr) (m18_ : Value), a = putSel a0_ b [(1, 4, .int .i64 t151), (2, 5, .int .i64 (wrap64 (1 + t151))), (4, 7, .int .i64 t153), (5, 8, .int .i64 (wrap64 (1 + t153))), (7, 10, .int .i64 t155), (8, 11, .int .i64 (wrap64 (1000 - t155))), (10, 13, .int .i64 t157), (12, 15, .int .i64 t159), (13, 16, .int .i64 (wrap64 (t157 * t159))), (14, 17, v162), (16, 19, .int .i64 t164), (17, 20, .int .i64 ji8), (18, 21, m18_), (19, 22, .int .i64 (rd y161 (ji8))), (21, 24, .int .i64 t167), (22, 25, .int .i64 (wrap64 (Int.tdiv t167 39))), (23, 26, .int .i64 (wrap64 ((wrap64 (Int.tdiv t167 39)) * 1000))), (24, 27, .int .i64 (wrap64 ((rd y161 (ji8)) + (wrap64 ((wrap64 (Int.tdiv t167 39)) * 1000))))), (25, 2, .int .i64 (wrap64 ((rd y161 (ji8)) + (wrap64 ((wrap64 (Int.tdiv t167 39)) * 1000)))))] ∧ (b 1 = false → IsS47 w0 w' g s0_0 s0_1) ∧ (KeepBut w w' g none) ∧ (Below w0.heap.size w0 w') ∧ (b 1 = true → b 4 = false → IsS47 w0 w' g s0_0 t152) ∧ (b 4 = true → b 7 = false → IsS47 w0 w' g s0_0 t154) ∧ (b 7 = true → b 10 = false → IsS47 w0 w' g s0_0 t156) ∧ (b 10 = true → b 12 = false → IsS47 w0 w' g s0_0 t158) ∧ (b 12 = true → b 16 = false → IsS47 w0 w' g s0_0 t160) ∧ (b 14 = true → Kd.R (Kd.int .i64) 3 w' w.heap.size (fun _ => True) v162 y161) ∧ (b 14 = true → ∃ c_, (v162 : Value) = .slice (some adz_v162) y161.length c_) ∧ (b 16 = true → b 21 = false → IsS47 w0 w' g s0_0 t165) ∧ (b 21 = true → IsS47 w0 w' g s0_0 t168) ∧ (b 18 = true → (m18_ : Value) = .pointer (some (adz_v162.add ((ji8)).toNat)))) HT_.out HW_.out (by kernel_rfl) (by kernel_rfl) ?_ ?_ ?_
      · exact ⟨.bool false, ⟨0, 0, none⟩, .bool false, by simp only [putSel, Bool.false_eq_true, if_false], fun _ => HI0.out, HK.out, HB.out, fun h_ => absurd h_ (by decide), fun h_ => absurd h_ (by decide), fun h_ => absurd h_ (by decide), fun h_ => absurd h_ (by decide), fun h_ => absurd h_ (by decide), fun h_ => absurd h_ (by decide), fun h_ => absurd h_ (by decide), fun h_ => absurd h_ (by decide), fun h_ => absurd h_ (by decide), fun h_ => absurd h_ (by decide)⟩
      · skip
        clear HB HI0 HK
        refine steps_cons ?_ ?_
        · rintro b a w' ⟨v162, adz_v162, m18_, ha, Q_HI0, Q_HK, Q_HB, Q_HI0_e1, Q_HI0_e4, Q_HI0_e7, Q_HI0_e10, Q_HI0_e12, Q_HO163, Q_HA_HO163, Q_HI0_e16, Q_HI0_e21, Q_X18_⟩ hb_ hon hoff
          refine ⟨_, rfl, fun K hK => ?_⟩
          have e3 : a.tmps[3]? = some (.pointer (some ⟨g, 0, none⟩)) := by rw [ha]; exact (putSel_off rfl).trans rfl
          replace ha := Aside0.mk ha
          have HI0 := Aside0.mk (Q_HI0 hb_)
          have HK := Aside0.mk Q_HK
          have HB := Aside0.mk Q_HB
          refine goes_ Try.func63 (by kernel_rfl) rfl #[.pointer (some ⟨g, 0, none⟩), .int .i64 30] (by rfl) rfl rfl (by first | (simp only [List.map_toArray, List.map_cons, List.map_nil, Act.eval, Array.getD_eq_getD_getElem?, Option.getD_some, e3]; done) | (simp only [List.map_toArray, List.map_cons, List.map_nil, Act.eval, Array.getD_eq_getD_getElem?, Option.getD_some, e3]; rfl)) ?_
          with_reducible refine (spec_l20Rd_pick.calls k g s0_0 s0_1 30 t151 t152 w0 _ ?side1 ?side2 A2.out).mono ?_
          (case side1 => repeat (first | (with_reducible first | exact HI0.out | apply IsS47.alloc | apply IsS47.drewN | apply IsS47.drew | apply IsS47.set_1) | exact HI0.out))
          (case side2 => repeat (first | (with_reducible first | exact HB.out | apply below_alloc | apply pw_below_drewN | apply below_drew1 | refine below_set ?_ (IsS47.ge HI0.out)) | exact HB.out))
          rintro e w13 ⟨rfl, hi, hb, hk⟩
          refine ⟨_, rfl, ?_⟩
          have n0_ := Aside0.mk (KeepBut.trans (by repeat (first | (with_reducible first | exact HK.out | apply KeepBut.set_ | apply keep_drewN | apply keep_drew | apply keep_alloc) | exact HK.out)) hk (.inl rfl))
          have n1_ := Aside0.mk (hb)
          have n2_ := Aside0.mk (hi)
          clear HK
          clear HB
          clear HI0
          have HK := n0_
          have HB := n1_
          have HI0 := n2_
          clear n0_ n1_ n2_
          (try clear hb)
          (try clear hb2)
          (try clear hk)
          (try clear hi)
          refine hK.out _ _ ⟨v162, adz_v162, m18_, (by rw [ha.out]; exact putSel_upk 0 hb_ rfl rfl rfl), fun h0_ => absurd ((up_self b 1).symm.trans h0_) (by decide), (by repeat (first | (with_reducible first | exact HK.out | apply KeepBut.set_ | apply keep_drewN | apply keep_drew | apply keep_alloc) | exact HK.out)), (by repeat (first | (with_reducible first | exact HB.out | apply below_alloc | apply pw_below_drewN | apply below_drew1 | refine below_set ?_ (IsS47.ge HI0.out)) | exact HB.out)), fun _ _ => (by repeat (first | (with_reducible first | exact HI0.out | apply IsS47.alloc | apply IsS47.drewN | apply IsS47.drew | apply IsS47.set_1) | exact HI0.out)), fun h0_ _ => absurd ((hoff 4 (by kernel_rfl)).symm.trans h0_) (by decide), fun h0_ _ => absurd ((hoff 7 (by kernel_rfl)).symm.trans h0_) (by decide), fun h0_ _ => absurd ((hoff 10 (by kernel_rfl)).symm.trans h0_) (by decide), fun h0_ _ => absurd ((hoff 12 (by kernel_rfl)).symm.trans h0_) (by decide), fun h0_ => absurd ((hoff 14 (by kernel_rfl)).symm.trans h0_) (by decide), fun h0_ => absurd ((hoff 14 (by kernel_rfl)).symm.trans h0_) (by decide), fun h0_ _ => absurd ((hoff 16 (by kernel_rfl)).symm.trans h0_) (by decide), fun h0_ => absurd ((hoff 21 (by kernel_rfl)).symm.trans h0_) (by decide), fun h0_ => absurd ((hoff 18 (by kernel_rfl)).symm.trans h0_) (by decide)⟩
        refine steps_cons ?_ ?_
        · rintro b a w' ⟨v162, adz_v162, m18_, ha, Q_HI0, Q_HK, Q_HB, Q_HI0_e1, Q_HI0_e4, Q_HI0_e7, Q_HI0_e10, Q_HI0_e12, Q_HO163, Q_HA_HO163, Q_HI0_e16, Q_HI0_e21, Q_X18_⟩ hb_ hon hoff
          refine ⟨_, rfl, fun K hK => ?_⟩
          have e4 : a.tmps[4]? = some (.int .i64 t151) := by rw [ha]; exact putSel_on (e := (1, 4, .int .i64 t151)) 0 rfl rfl (hon 1 (by kernel_rfl)) rfl
          replace ha := Aside0.mk ha
          have HK := Aside0.mk Q_HK
          have HB := Aside0.mk Q_HB
          refine value_ (w1 := w') (v := .int .i64 (wrap64 (1 + t151))) (by rfl) rfl ?_ ?_
          · go_simp
            (try simp only [i64_w])
            try rfl
          refine hK.out _ _ ⟨v162, adz_v162, m18_, (by rw [ha.out]; exact putSel_upk 1 hb_ rfl rfl rfl), fun h0_ => absurd ((hon 1 (by kernel_rfl)).symm.trans h0_) (by decide), Q_HK, Q_HB, Q_HI0_e1, Q_HI0_e4, Q_HI0_e7, Q_HI0_e10, Q_HI0_e12, fun h0_ => absurd ((hoff 14 (by kernel_rfl)).symm.trans h0_) (by decide), fun h0_ => absurd ((hoff 14 (by kernel_rfl)).symm.trans h0_) (by decide), Q_HI0_e16, Q_HI0_e21, fun h0_ => absurd ((hoff 18 (by kernel_rfl)).symm.trans h0_) (by decide)⟩
        refine steps_cons ?_ ?_
        · rintro b a w' ⟨v162, adz_v162, m18_, ha, Q_HI0, Q_HK, Q_HB, Q_HI0_e1, Q_HI0_e4, Q_HI0_e7, Q_HI0_e10, Q_HI0_e12, Q_HO163, Q_HA_HO163, Q_HI0_e16, Q_HI0_e21, Q_X18_⟩ hb_ hon hoff
          refine ⟨_, rfl, fun K hK => ?_⟩
          have e6 : a.tmps[6]? = some (.pointer (some ⟨g, 0, none⟩)) := by rw [ha]; exact (putSel_off rfl).trans rfl
          replace ha := Aside0.mk ha
          have HK := Aside0.mk Q_HK
          have HB := Aside0.mk Q_HB
          have HI0 := Aside0.mk (Q_HI0_e1 (hon 1 (by kernel_rfl)) hb_)
          refine goes_ Try.func63 (by kernel_rfl) rfl #[.pointer (some ⟨g, 0, none⟩), .int .i64 250] (by rfl) rfl rfl (by first | (simp only [List.map_toArray, List.map_cons, List.map_nil, Act.eval, Array.getD_eq_getD_getElem?, Option.getD_some, e6]; done) | (simp only [List.map_toArray, List.map_cons, List.map_nil, Act.eval, Array.getD_eq_getD_getElem?, Option.getD_some, e6]; rfl)) ?_
          with_reducible refine (spec_l20Rd_pick.calls k g s0_0 t152 250 t153 t154 w0 _ ?side1 ?side2 A3.out).mono ?_
          (case side1 => repeat (first | (with_reducible first | exact HI0.out | apply IsS47.alloc | apply IsS47.drewN | apply IsS47.drew | apply IsS47.set_1) | exact HI0.out))
          (case side2 => repeat (first | (with_reducible first | exact HB.out | apply below_alloc | apply pw_below_drewN | apply below_drew1 | refine below_set ?_ (IsS47.ge HI0.out)) | exact HB.out))
          rintro e w15 ⟨rfl, hi, hb, hk⟩
          refine ⟨_, rfl, ?_⟩
          have n0_ := Aside0.mk (KeepBut.trans (by repeat (first | (with_reducible first | exact HK.out | apply KeepBut.set_ | apply keep_drewN | apply keep_drew | apply keep_alloc) | exact HK.out)) hk (.inl rfl))
          have n1_ := Aside0.mk (hb)
          have n2_ := Aside0.mk (hi)
          clear HK
          clear HB
          clear HI0
          have HK := n0_
          have HB := n1_
          have HI0 := n2_
          clear n0_ n1_ n2_
          (try clear hb)
          (try clear hb2)
          (try clear hk)
          (try clear hi)
          refine hK.out _ _ ⟨v162, adz_v162, m18_, (by rw [ha.out]; exact putSel_upk 2 hb_ rfl rfl rfl), fun h0_ => absurd ((hon 1 (by kernel_rfl)).symm.trans h0_) (by decide), (by repeat (first | (with_reducible first | exact HK.out | apply KeepBut.set_ | apply keep_drewN | apply keep_drew | apply keep_alloc) | exact HK.out)), (by repeat (first | (with_reducible first | exact HB.out | apply below_alloc | apply pw_below_drewN | apply below_drew1 | refine below_set ?_ (IsS47.ge HI0.out)) | exact HB.out)), fun _ h1_ => absurd ((up_self b 4).symm.trans h1_) (by decide), fun _ _ => (by repeat (first | (with_reducible first | exact HI0.out | apply IsS47.alloc | apply IsS47.drewN | apply IsS47.drew | apply IsS47.set_1) | exact HI0.out)), fun h0_ _ => absurd ((hoff 7 (by kernel_rfl)).symm.trans h0_) (by decide), fun h0_ _ => absurd ((hoff 10 (by kernel_rfl)).symm.trans h0_) (by decide), fun h0_ _ => absurd ((hoff 12 (by kernel_rfl)).symm.trans h0_) (by decide), fun h0_ => absurd ((hoff 14 (by kernel_rfl)).symm.trans h0_) (by decide), fun h0_ => absurd ((hoff 14 (by kernel_rfl)).symm.trans h0_) (by decide), fun h0_ _ => absurd ((hoff 16 (by kernel_rfl)).symm.trans h0_) (by decide), fun h0_ => absurd ((hoff 21 (by kernel_rfl)).symm.trans h0_) (by decide), fun h0_ => absurd ((hoff 18 (by kernel_rfl)).symm.trans h0_) (by decide)⟩
        refine steps_cons ?_ ?_
        · rintro b a w' ⟨v162, adz_v162, m18_, ha, Q_HI0, Q_HK, Q_HB, Q_HI0_e1, Q_HI0_e4, Q_HI0_e7, Q_HI0_e10, Q_HI0_e12, Q_HO163, Q_HA_HO163, Q_HI0_e16, Q_HI0_e21, Q_X18_⟩ hb_ hon hoff
          refine ⟨_, rfl, fun K hK => ?_⟩
          have e7 : a.tmps[7]? = some (.int .i64 t153) := by rw [ha]; exact putSel_on (e := (4, 7, .int .i64 t153)) 2 rfl rfl (hon 4 (by kernel_rfl)) rfl
          replace ha := Aside0.mk ha
          have HK := Aside0.mk Q_HK
          have HB := Aside0.mk Q_HB
          refine value_ (w1 := w') (v := .int .i64 (wrap64 (1 + t153))) (by rfl) rfl ?_ ?_
          · go_simp
            (try simp only [i64_w])
            try rfl
          refine hK.out _ _ ⟨v162, adz_v162, m18_, (by rw [ha.out]; exact putSel_upk 3 hb_ rfl rfl rfl), fun h0_ => absurd ((hon 1 (by kernel_rfl)).symm.trans h0_) (by decide), Q_HK, Q_HB, fun _ h1_ => absurd ((hon 4 (by kernel_rfl)).symm.trans h1_) (by decide), Q_HI0_e4, Q_HI0_e7, Q_HI0_e10, Q_HI0_e12, fun h0_ => absurd ((hoff 14 (by kernel_rfl)).symm.trans h0_) (by decide), fun h0_ => absurd ((hoff 14 (by kernel_rfl)).symm.trans h0_) (by decide), Q_HI0_e16, Q_HI0_e21, fun h0_ => absurd ((hoff 18 (by kernel_rfl)).symm.trans h0_) (by decide)⟩
        refine steps_cons ?_ ?_
        · rintro b a w' ⟨v162, adz_v162, m18_, ha, Q_HI0, Q_HK, Q_HB, Q_HI0_e1, Q_HI0_e4, Q_HI0_e7, Q_HI0_e10, Q_HI0_e12, Q_HO163, Q_HA_HO163, Q_HI0_e16, Q_HI0_e21, Q_X18_⟩ hb_ hon hoff
          refine ⟨_, rfl, fun K hK => ?_⟩
          have e9 : a.tmps[9]? = some (.pointer (some ⟨g, 0, none⟩)) := by rw [ha]; exact (putSel_off rfl).trans rfl
          replace ha := Aside0.mk ha
          have HK := Aside0.mk Q_HK
          have HB := Aside0.mk Q_HB
          have HI0 := Aside0.mk (Q_HI0_e4 (hon 4 (by kernel_rfl)) hb_)
          refine goes_ Try.func63 (by kernel_rfl) rfl #[.pointer (some ⟨g, 0, none⟩), .int .i64 40] (by rfl) rfl rfl (by first | (simp only [List.map_toArray, List.map_cons, List.map_nil, Act.eval, Array.getD_eq_getD_getElem?, Option.getD_some, e9]; done) | (simp only [List.map_toArray, List.map_cons, List.map_nil, Act.eval, Array.getD_eq_getD_getElem?, Option.getD_some, e9]; rfl)) ?_
          with_reducible refine (spec_l20Rd_pick.calls k g s0_0 t154 40 t155 t156 w0 _ ?side1 ?side2 A4.out).mono ?_
          (case side1 => repeat (first | (with_reducible first | exact HI0.out | apply IsS47.alloc | apply IsS47.drewN | apply IsS47.drew | apply IsS47.set_1) | exact HI0.out))
          (case side2 => repeat (first | (with_reducible first | exact HB.out | apply below_alloc | apply pw_below_drewN | apply below_drew1 | refine below_set ?_ (IsS47.ge HI0.out)) | exact HB.out))
          rintro e w16 ⟨rfl, hi, hb, hk⟩
          refine ⟨_, rfl, ?_⟩
          have n0_ := Aside0.mk (KeepBut.trans (by repeat (first | (with_reducible first | exact HK.out | apply KeepBut.set_ | apply keep_drewN | apply keep_drew | apply keep_alloc) | exact HK.out)) hk (.inl rfl))
          have n1_ := Aside0.mk (hb)
          have n2_ := Aside0.mk (hi)
          clear HK
          clear HB
          clear HI0
          have HK := n0_
          have HB := n1_
          have HI0 := n2_
          clear n0_ n1_ n2_
          (try clear hb)
          (try clear hb2)
          (try clear hk)
          (try clear hi)
          refine hK.out _ _ ⟨v162, adz_v162, m18_, (by rw [ha.out]; exact putSel_upk 4 hb_ rfl rfl rfl), fun h0_ => absurd ((hon 1 (by kernel_rfl)).symm.trans h0_) (by decide), (by repeat (first | (with_reducible first | exact HK.out | apply KeepBut.set_ | apply keep_drewN | apply keep_drew | apply keep_alloc) | exact HK.out)), (by repeat (first | (with_reducible first | exact HB.out | apply below_alloc | apply pw_below_drewN | apply below_drew1 | refine below_set ?_ (IsS47.ge HI0.out)) | exact HB.out)), fun _ h1_ => absurd ((hon 4 (by kernel_rfl)).symm.trans h1_) (by decide), fun _ h1_ => absurd ((up_self b 7).symm.trans h1_) (by decide), fun _ _ => (by repeat (first | (with_reducible first | exact HI0.out | apply IsS47.alloc | apply IsS47.drewN | apply IsS47.drew | apply IsS47.set_1) | exact HI0.out)), fun h0_ _ => absurd ((hoff 10 (by kernel_rfl)).symm.trans h0_) (by decide), fun h0_ _ => absurd ((hoff 12 (by kernel_rfl)).symm.trans h0_) (by decide), fun h0_ => absurd ((hoff 14 (by kernel_rfl)).symm.trans h0_) (by decide), fun h0_ => absurd ((hoff 14 (by kernel_rfl)).symm.trans h0_) (by decide), fun h0_ _ => absurd ((hoff 16 (by kernel_rfl)).symm.trans h0_) (by decide), fun h0_ => absurd ((hoff 21 (by kernel_rfl)).symm.trans h0_) (by decide), fun h0_ => absurd ((hoff 18 (by kernel_rfl)).symm.trans h0_) (by decide)⟩
        refine steps_cons ?_ ?_
        · rintro b a w' ⟨v162, adz_v162, m18_, ha, Q_HI0, Q_HK, Q_HB, Q_HI0_e1, Q_HI0_e4, Q_HI0_e7, Q_HI0_e10, Q_HI0_e12, Q_HO163, Q_HA_HO163, Q_HI0_e16, Q_HI0_e21, Q_X18_⟩ hb_ hon hoff
          refine ⟨_, rfl, fun K hK => ?_⟩
          have e10 : a.tmps[10]? = some (.int .i64 t155) := by rw [ha]; exact putSel_on (e := (7, 10, .int .i64 t155)) 4 rfl rfl (hon 7 (by kernel_rfl)) rfl
          replace ha := Aside0.mk ha
          have HK := Aside0.mk Q_HK
          have HB := Aside0.mk Q_HB
          refine value_ (w1 := w') (v := .int .i64 (wrap64 (1000 - t155))) (by rfl) rfl ?_ ?_
          · go_simp
            (try simp only [i64_w])
            try rfl
          refine hK.out _ _ ⟨v162, adz_v162, m18_, (by rw [ha.out]; exact putSel_upk 5 hb_ rfl rfl rfl), fun h0_ => absurd ((hon 1 (by kernel_rfl)).symm.trans h0_) (by decide), Q_HK, Q_HB, fun _ h1_ => absurd ((hon 4 (by kernel_rfl)).symm.trans h1_) (by decide), fun _ h1_ => absurd ((hon 7 (by kernel_rfl)).symm.trans h1_) (by decide), Q_HI0_e7, Q_HI0_e10, Q_HI0_e12, fun h0_ => absurd ((hoff 14 (by kernel_rfl)).symm.trans h0_) (by decide), fun h0_ => absurd ((hoff 14 (by kernel_rfl)).symm.trans h0_) (by decide), Q_HI0_e16, Q_HI0_e21, fun h0_ => absurd ((hoff 18 (by kernel_rfl)).symm.trans h0_) (by decide)⟩
        refine steps_cons ?_ ?_
        · rintro b a w' ⟨v162, adz_v162, m18_, ha, Q_HI0, Q_HK, Q_HB, Q_HI0_e1, Q_HI0_e4, Q_HI0_e7, Q_HI0_e10, Q_HI0_e12, Q_HO163, Q_HA_HO163, Q_HI0_e16, Q_HI0_e21, Q_X18_⟩ hb_ hon hoff
          refine ⟨_, rfl, fun K hK => ?_⟩
          have e12 : a.tmps[12]? = some (.pointer (some ⟨g, 0, none⟩)) := by rw [ha]; exact (putSel_off rfl).trans rfl
          replace ha := Aside0.mk ha
          have HK := Aside0.mk Q_HK
          have HB := Aside0.mk Q_HB
          have HI0 := Aside0.mk (Q_HI0_e7 (hon 7 (by kernel_rfl)) hb_)
          refine goes_ Try.func63 (by kernel_rfl) rfl #[.pointer (some ⟨g, 0, none⟩), .int .i64 32] (by rfl) rfl rfl (by first | (simp only [List.map_toArray, List.map_cons, List.map_nil, Act.eval, Array.getD_eq_getD_getElem?, Option.getD_some, e12]; done) | (simp only [List.map_toArray, List.map_cons, List.map_nil, Act.eval, Array.getD_eq_getD_getElem?, Option.getD_some, e12]; rfl)) ?_
          with_reducible refine (spec_l20Rd_pick.calls k g s0_0 t156 32 t157 t158 w0 _ ?side1 ?side2 A5.out).mono ?_
          (case side1 => repeat (first | (with_reducible first | exact HI0.out | apply IsS47.alloc | apply IsS47.drewN | apply IsS47.drew | apply IsS47.set_1) | exact HI0.out))
          (case side2 => repeat (first | (with_reducible first | exact HB.out | apply below_alloc | apply pw_below_drewN | apply below_drew1 | refine below_set ?_ (IsS47.ge HI0.out)) | exact HB.out))
          rintro e w17 ⟨rfl, hi, hb, hk⟩
          refine ⟨_, rfl, ?_⟩
          have n0_ := Aside0.mk (KeepBut.trans (by repeat (first | (with_reducible first | exact HK.out | apply KeepBut.set_ | apply keep_drewN | apply keep_drew | apply keep_alloc) | exact HK.out)) hk (.inl rfl))
          have n1_ := Aside0.mk (hb)
          have n2_ := Aside0.mk (hi)
          clear HK
          clear HB
          clear HI0
          have HK := n0_
          have HB := n1_
          have HI0 := n2_
          clear n0_ n1_ n2_
          (try clear hb)
          (try clear hb2)
          (try clear hk)
          (try clear hi)
          refine hK.out _ _ ⟨v162, adz_v162, m18_, (by rw [ha.out]; exact putSel_upk 6 hb_ rfl rfl rfl), fun h0_ => absurd ((hon 1 (by kernel_rfl)).symm.trans h0_) (by decide), (by repeat (first | (with_reducible first | exact HK.out | apply KeepBut.set_ | apply keep_drewN | apply keep_drew | apply keep_alloc) | exact HK.out)), (by repeat (first | (with_reducible first | exact HB.out | apply below_alloc | apply pw_below_drewN | apply below_drew1 | refine below_set ?_ (IsS47.ge HI0.out)) | exact HB.out)), fun _ h1_ => absurd ((hon 4 (by kernel_rfl)).symm.trans h1_) (by decide), fun _ h1_ => absurd ((hon 7 (by kernel_rfl)).symm.trans h1_) (by decide), fun _ h1_ => absurd ((up_self b 10).symm.trans h1_) (by decide), fun _ _ => (by repeat (first | (with_reducible first | exact HI0.out | apply IsS47.alloc | apply IsS47.drewN | apply IsS47.drew | apply IsS47.set_1) | exact HI0.out)), fun h0_ _ => absurd ((hoff 12 (by kernel_rfl)).symm.trans h0_) (by decide), fun h0_ => absurd ((hoff 14 (by kernel_rfl)).symm.trans h0_) (by decide), fun h0_ => absurd ((hoff 14 (by kernel_rfl)).symm.trans h0_) (by decide), fun h0_ _ => absurd ((hoff 16 (by kernel_rfl)).symm.trans h0_) (by decide), fun h0_ => absurd ((hoff 21 (by kernel_rfl)).symm.trans h0_) (by decide), fun h0_ => absurd ((hoff 18 (by kernel_rfl)).symm.trans h0_) (by decide)⟩
        refine steps_cons ?_ ?_
        · rintro b a w' ⟨v162, adz_v162, m18_, ha, Q_HI0, Q_HK, Q_HB, Q_HI0_e1, Q_HI0_e4, Q_HI0_e7, Q_HI0_e10, Q_HI0_e12, Q_HO163, Q_HA_HO163, Q_HI0_e16, Q_HI0_e21, Q_X18_⟩ hb_ hon hoff
          refine ⟨_, rfl, fun K hK => ?_⟩
          have e14 : a.tmps[14]? = some (.pointer (some ⟨g, 0, none⟩)) := by rw [ha]; exact (putSel_off rfl).trans rfl
          replace ha := Aside0.mk ha
          have HK := Aside0.mk Q_HK
          have HB := Aside0.mk Q_HB
          have HI0 := Aside0.mk (Q_HI0_e10 (hon 10 (by kernel_rfl)) hb_)
          refine goes_ Try.func63 (by kernel_rfl) rfl #[.pointer (some ⟨g, 0, none⟩), .int .i64 32] (by rfl) rfl rfl (by first | (simp only [List.map_toArray, List.map_cons, List.map_nil, Act.eval, Array.getD_eq_getD_getElem?, Option.getD_some, e14]; done) | (simp only [List.map_toArray, List.map_cons, List.map_nil, Act.eval, Array.getD_eq_getD_getElem?, Option.getD_some, e14]; rfl)) ?_
          with_reducible refine (spec_l20Rd_pick.calls k g s0_0 t158 32 t159 t160 w0 _ ?side1 ?side2 A6.out).mono ?_
          (case side1 => repeat (first | (with_reducible first | exact HI0.out | apply IsS47.alloc | apply IsS47.drewN | apply IsS47.drew | apply IsS47.set_1) | exact HI0.out))
          (case side2 => repeat (first | (with_reducible first | exact HB.out | apply below_alloc | apply pw_below_drewN | apply below_drew1 | refine below_set ?_ (IsS47.ge HI0.out)) | exact HB.out))
          rintro e w18 ⟨rfl, hi, hb, hk⟩
          refine ⟨_, rfl, ?_⟩
          have n0_ := Aside0.mk (KeepBut.trans (by repeat (first | (with_reducible first | exact HK.out | apply KeepBut.set_ | apply keep_drewN | apply keep_drew | apply keep_alloc) | exact HK.out)) hk (.inl rfl))
          have n1_ := Aside0.mk (hb)
          have n2_ := Aside0.mk (hi)
          clear HK
          clear HB
          clear HI0
          have HK := n0_
          have HB := n1_
          have HI0 := n2_
          clear n0_ n1_ n2_
          (try clear hb)
          (try clear hb2)
          (try clear hk)
          (try clear hi)
          refine hK.out _ _ ⟨v162, adz_v162, m18_, (by rw [ha.out]; exact putSel_upk 7 hb_ rfl rfl rfl), fun h0_ => absurd ((hon 1 (by kernel_rfl)).symm.trans h0_) (by decide), (by repeat (first | (with_reducible first | exact HK.out | apply KeepBut.set_ | apply keep_drewN | apply keep_drew | apply keep_alloc) | exact HK.out)), (by repeat (first | (with_reducible first | exact HB.out | apply below_alloc | apply pw_below_drewN | apply below_drew1 | refine below_set ?_ (IsS47.ge HI0.out)) | exact HB.out)), fun _ h1_ => absurd ((hon 4 (by kernel_rfl)).symm.trans h1_) (by decide), fun _ h1_ => absurd ((hon 7 (by kernel_rfl)).symm.trans h1_) (by decide), fun _ h1_ => absurd ((hon 10 (by kernel_rfl)).symm.trans h1_) (by decide), fun _ h1_ => absurd ((up_self b 12).symm.trans h1_) (by decide), fun _ _ => (by repeat (first | (with_reducible first | exact HI0.out | apply IsS47.alloc | apply IsS47.drewN | apply IsS47.drew | apply IsS47.set_1) | exact HI0.out)), fun h0_ => absurd ((hoff 14 (by kernel_rfl)).symm.trans h0_) (by decide), fun h0_ => absurd ((hoff 14 (by kernel_rfl)).symm.trans h0_) (by decide), fun h0_ _ => absurd ((hoff 16 (by kernel_rfl)).symm.trans h0_) (by decide), fun h0_ => absurd ((hoff 21 (by kernel_rfl)).symm.trans h0_) (by decide), fun h0_ => absurd ((hoff 18 (by kernel_rfl)).symm.trans h0_) (by decide)⟩
        refine steps_cons ?_ ?_
        · rintro b a w' ⟨v162, adz_v162, m18_, ha, Q_HI0, Q_HK, Q_HB, Q_HI0_e1, Q_HI0_e4, Q_HI0_e7, Q_HI0_e10, Q_HI0_e12, Q_HO163, Q_HA_HO163, Q_HI0_e16, Q_HI0_e21, Q_X18_⟩ hb_ hon hoff
          refine ⟨_, rfl, fun K hK => ?_⟩
          have e13 : a.tmps[13]? = some (.int .i64 t157) := by rw [ha]; exact putSel_on (e := (10, 13, .int .i64 t157)) 6 rfl rfl (hon 10 (by kernel_rfl)) rfl
          have e15 : a.tmps[15]? = some (.int .i64 t159) := by rw [ha]; exact putSel_on (e := (12, 15, .int .i64 t159)) 7 rfl rfl (hon 12 (by kernel_rfl)) rfl
          replace ha := Aside0.mk ha
          have HK := Aside0.mk Q_HK
          have HB := Aside0.mk Q_HB
          refine value_ (w1 := w') (v := .int .i64 (wrap64 (t157 * t159))) (by rfl) rfl ?_ ?_
          · go_simp
            (try simp only [i64_w])
            try rfl
          refine hK.out _ _ ⟨v162, adz_v162, m18_, (by rw [ha.out]; exact putSel_upk 8 hb_ rfl rfl rfl), fun h0_ => absurd ((hon 1 (by kernel_rfl)).symm.trans h0_) (by decide), Q_HK, Q_HB, fun _ h1_ => absurd ((hon 4 (by kernel_rfl)).symm.trans h1_) (by decide), fun _ h1_ => absurd ((hon 7 (by kernel_rfl)).symm.trans h1_) (by decide), fun _ h1_ => absurd ((hon 10 (by kernel_rfl)).symm.trans h1_) (by decide), fun _ h1_ => absurd ((hon 12 (by kernel_rfl)).symm.trans h1_) (by decide), Q_HI0_e12, fun h0_ => absurd ((hoff 14 (by kernel_rfl)).symm.trans h0_) (by decide), fun h0_ => absurd ((hoff 14 (by kernel_rfl)).symm.trans h0_) (by decide), Q_HI0_e16, Q_HI0_e21, fun h0_ => absurd ((hoff 18 (by kernel_rfl)).symm.trans h0_) (by decide)⟩
        refine steps_cons ?_ ?_
        · rintro b a w' ⟨v162, adz_v162, m18_, ha, Q_HI0, Q_HK, Q_HB, Q_HI0_e1, Q_HI0_e4, Q_HI0_e7, Q_HI0_e10, Q_HI0_e12, Q_HO163, Q_HA_HO163, Q_HI0_e16, Q_HI0_e21, Q_X18_⟩ hb_ hon hoff
          refine ⟨_, rfl, fun K hK => ?_⟩
          have e5 : a.tmps[5]? = some (.int .i64 (wrap64 (1 + t151))) := by rw [ha]; exact putSel_on (e := (2, 5, .int .i64 (wrap64 (1 + t151)))) 1 rfl rfl (hon 2 (by kernel_rfl)) rfl
          have e8 : a.tmps[8]? = some (.int .i64 (wrap64 (1 + t153))) := by rw [ha]; exact putSel_on (e := (5, 8, .int .i64 (wrap64 (1 + t153)))) 3 rfl rfl (hon 5 (by kernel_rfl)) rfl
          have e11 : a.tmps[11]? = some (.int .i64 (wrap64 (1000 - t155))) := by rw [ha]; exact putSel_on (e := (8, 11, .int .i64 (wrap64 (1000 - t155)))) 5 rfl rfl (hon 8 (by kernel_rfl)) rfl
          have e16 : a.tmps[16]? = some (.int .i64 (wrap64 (t157 * t159))) := by rw [ha]; exact putSel_on (e := (13, 16, .int .i64 (wrap64 (t157 * t159)))) 8 rfl rfl (hon 13 (by kernel_rfl)) rfl
          replace ha := Aside0.mk ha
          have HK := Aside0.mk Q_HK
          have HB := Aside0.mk Q_HB
          refine Kd.R_lit_step (Kd.int .i64) _ 3 ?hg (N := 17) ?hd (xs := ([wrap64 (1 + t151), wrap64 (1 + t153), wrap64 (1000 - t155), wrap64 (t157 * t159)] : List Int)) (inner := [.int .i64 (wrap64 (1 + t151)), .int .i64 (wrap64 (1 + t153)), .int .i64 (wrap64 (1000 - t155)), .int .i64 (wrap64 (t157 * t159))]) (ok := fun _ => True) (okp := fun _ => True) ?hr ?hp (fun _ hk => hk) trivial (Below.refl _ _) (Nat.le_refl _) (by simp) ?_; (case hd => rfl); (case hg => rfl); (case hr => first | (go_simp; done) | (go_simp; rfl)); (case hp => exact (Reps.one (show Kd.M (Kd.int .i64) _ _ _ (wrap64 (1 + t151)) [.int .i64 (wrap64 (1 + t151))] from rfl) (Reps.one (show Kd.M (Kd.int .i64) _ _ _ (wrap64 (1 + t153)) [.int .i64 (wrap64 (1 + t153))] from rfl) (Reps.one (show Kd.M (Kd.int .i64) _ _ _ (wrap64 (1000 - t155)) [.int .i64 (wrap64 (1000 - t155))] from rfl) (Reps.one (show Kd.M (Kd.int .i64) _ _ _ (wrap64 (t157 * t159)) [.int .i64 (wrap64 (t157 * t159))] from rfl) (Reps.none _ _))))))
          intro v162 w19 ho20 hb hg_ hnew_
          clear hg_ hnew_
          (first | rw [← Ny161.out] at ho20 | (simp only [Int.reduceToNat] at ho20; rw [← Ny161.out] at ho20))
          have n0_ := Aside0.mk (Kd.R_lower ho20 (keep_size (w := w) (g := g) (row := none) (by repeat (first | (with_reducible first | exact HK.out | apply KeepBut.set_ | apply keep_drewN | apply keep_drew | apply keep_alloc) | exact HK.out))))
          have n2_ := Aside0.mk (KeepBut.trans (by repeat (first | (with_reducible first | exact HK.out | apply KeepBut.set_ | apply keep_drewN | apply keep_drew | apply keep_alloc) | exact HK.out)) (KeepBut.of_below hb g none) (.inl rfl))
          have n3_ := Aside0.mk (below_step (by repeat (first | (with_reducible first | exact HB.out | apply below_alloc | apply pw_below_drewN | apply below_drew1) | exact HB.out)) hb)
          have z_HI0_e12 := fun (h0_ : b 12 = true) (h1_ : b 16 = false) => (show IsS47 w0 w19 g s0_0 t160 from by first | exact (IsS47.below (by repeat (first | (with_reducible first | exact (Q_HI0_e12 h0_ h1_) | apply IsS47.alloc | apply IsS47.drewN | apply IsS47.drew | apply IsS47.set_1) | exact (Q_HI0_e12 h0_ h1_))) hb))
          have z_HI0_e16 := fun (h0_ : b 16 = true) (h1_ : b 21 = false) => (show IsS47 w0 w19 g s0_0 t165 from by first | exact (IsS47.below (by repeat (first | (with_reducible first | exact (Q_HI0_e16 h0_ h1_) | apply IsS47.alloc | apply IsS47.drewN | apply IsS47.drew | apply IsS47.set_1) | exact (Q_HI0_e16 h0_ h1_))) hb))
          have z_HI0_e21 := fun (h0_ : b 21 = true) => (show IsS47 w0 w19 g s0_0 t168 from by first | exact (IsS47.below (by repeat (first | (with_reducible first | exact (Q_HI0_e21 h0_) | apply IsS47.alloc | apply IsS47.drewN | apply IsS47.drew | apply IsS47.set_1) | exact (Q_HI0_e21 h0_))) hb))
          clear HK
          clear HB
          have HO163 := n0_
          have HK := n2_
          have HB := n3_
          clear n0_ n2_ n3_
          clear hb ho20
          obtain ⟨Ao21, co21, eo21⟩ := Kd.R_slice HO163.out
          subst eo21
          obtain ⟨ado21, fo21, _⟩ := Kd.at_int (Kd.R_reads' HO163.out).2.2 0 (by decide) (by rw [Ny161.out]; simp)
          cases fo21
          refine hK.out _ _ ⟨.slice (some ado21) y161.length co21, ado21, m18_, (by rw [ha.out]; exact putSel_upk 9 hb_ rfl rfl rfl), fun h0_ => absurd ((hon 1 (by kernel_rfl)).symm.trans h0_) (by decide), (by repeat (first | (with_reducible first | exact HK.out | apply KeepBut.set_ | apply keep_drewN | apply keep_drew | apply keep_alloc) | exact HK.out)), (by repeat (first | (with_reducible first | exact HB.out | apply below_alloc | apply pw_below_drewN | apply below_drew1) | exact HB.out)), fun _ h1_ => absurd ((hon 4 (by kernel_rfl)).symm.trans h1_) (by decide), fun _ h1_ => absurd ((hon 7 (by kernel_rfl)).symm.trans h1_) (by decide), fun _ h1_ => absurd ((hon 10 (by kernel_rfl)).symm.trans h1_) (by decide), fun _ h1_ => absurd ((hon 12 (by kernel_rfl)).symm.trans h1_) (by decide), z_HI0_e12, fun _ => (by (with_reducible repeat (first | apply Kd.R_alloc | apply Kd.R_drewN | apply Kd.R_drew)); exact HO163.out), fun _ => ⟨_, rfl⟩, z_HI0_e16, z_HI0_e21, fun h0_ => absurd ((hoff 18 (by kernel_rfl)).symm.trans h0_) (by decide)⟩
        refine steps_cons ?_ ?_
        · rintro b a w' ⟨v162, adz_v162, m18_, ha, Q_HI0, Q_HK, Q_HB, Q_HI0_e1, Q_HI0_e4, Q_HI0_e7, Q_HI0_e10, Q_HI0_e12, Q_HO163, Q_HA_HO163, Q_HI0_e16, Q_HI0_e21, Q_X18_⟩ hb_ hon hoff
          refine ⟨_, rfl, fun K hK => ?_⟩
          have e18 : a.tmps[18]? = some (.pointer (some ⟨g, 0, none⟩)) := by rw [ha]; exact (putSel_off rfl).trans rfl
          replace ha := Aside0.mk ha
          have HK := Aside0.mk Q_HK
          have HB := Aside0.mk Q_HB
          have HI0 := Aside0.mk (Q_HI0_e12 (hon 12 (by kernel_rfl)) hb_)
          refine goes_ Try.func63 (by kernel_rfl) rfl #[.pointer (some ⟨g, 0, none⟩), .int .i64 7] (by rfl) rfl rfl (by first | (simp only [List.map_toArray, List.map_cons, List.map_nil, Act.eval, Array.getD_eq_getD_getElem?, Option.getD_some, e18]; done) | (simp only [List.map_toArray, List.map_cons, List.map_nil, Act.eval, Array.getD_eq_getD_getElem?, Option.getD_some, e18]; rfl)) ?_
          with_reducible refine (spec_l20Rd_pick.calls k g s0_0 t160 7 t164 t165 w0 _ ?side1 ?side2 A7.out).mono ?_
          (case side1 => repeat (first | (with_reducible first | exact HI0.out | apply IsS47.alloc | apply IsS47.drewN | apply IsS47.drew | apply IsS47.set_1) | exact HI0.out))
          (case side2 => repeat (first | (with_reducible first | exact HB.out | apply below_alloc | apply pw_below_drewN | apply below_drew1 | refine below_set ?_ (IsS47.ge HI0.out)) | exact HB.out))
          rintro e w19 ⟨rfl, hi, hb, hk⟩
          refine ⟨_, rfl, ?_⟩
          have n0_ := Aside0.mk (KeepBut.trans (by repeat (first | (with_reducible first | exact HK.out | apply KeepBut.set_ | apply keep_drewN | apply keep_drew | apply keep_alloc) | exact HK.out)) hk (.inl rfl))
          have n1_ := Aside0.mk (hb)
          have n2_ := Aside0.mk (hi)
          have z_HO163 := fun (h0_ : b 14 = true) => (show Kd.R (Kd.int .i64) 3 w19 w.heap.size (fun _ => True) v162 y161 from by first | exact (Kd.R_mono (Kd.R_keep (IsS47.apart (show IsS47 w0 _ g s0_0 t160 from by repeat (first | (with_reducible first | exact HI0.out | apply IsS47.alloc | apply IsS47.drewN | apply IsS47.drew | apply IsS47.set_1) | exact HI0.out)) (by (with_reducible repeat (first | apply Kd.R_alloc | apply Kd.R_drewN | apply Kd.R_drew)); exact (Q_HO163 h0_)) (by decide)) hk (fun _ h => h.2)) (fun _ h => h.1)) | exact Kd.R_mono (Kd.R_mono (Kd.R_keep (IsS47.apart (show IsS47 w0 _ g s0_0 t160 from by repeat (first | (with_reducible first | exact HI0.out | apply IsS47.alloc | apply IsS47.drewN | apply IsS47.drew | apply IsS47.set_1) | exact HI0.out)) (by (with_reducible repeat (first | apply Kd.R_alloc | apply Kd.R_drewN | apply Kd.R_drew)); exact (Q_HO163 h0_)) (by decide)) hk (fun _ h => h.2)) (fun _ h => h.1)) (fun _ h_ => by first | trivial | exact h_ | exact h_.1))
          clear HK
          clear HB
          clear HI0
          have HK := n0_
          have HB := n1_
          have HI0 := n2_
          clear n0_ n1_ n2_
          (try clear hb)
          (try clear hb2)
          (try clear hk)
          (try clear hi)
          refine hK.out _ _ ⟨v162, adz_v162, m18_, (by rw [ha.out]; exact putSel_upk 10 hb_ rfl rfl rfl), fun h0_ => absurd ((hon 1 (by kernel_rfl)).symm.trans h0_) (by decide), (by repeat (first | (with_reducible first | exact HK.out | apply KeepBut.set_ | apply keep_drewN | apply keep_drew | apply keep_alloc) | exact HK.out)), (by repeat (first | (with_reducible first | exact HB.out | apply below_alloc | apply pw_below_drewN | apply below_drew1 | refine below_set ?_ (IsS47.ge HI0.out)) | exact HB.out)), fun _ h1_ => absurd ((hon 4 (by kernel_rfl)).symm.trans h1_) (by decide), fun _ h1_ => absurd ((hon 7 (by kernel_rfl)).symm.trans h1_) (by decide), fun _ h1_ => absurd ((hon 10 (by kernel_rfl)).symm.trans h1_) (by decide), fun _ h1_ => absurd ((hon 12 (by kernel_rfl)).symm.trans h1_) (by decide), fun _ h1_ => absurd ((up_self b 16).symm.trans h1_) (by decide), z_HO163, Q_HA_HO163, fun _ _ => (by repeat (first | (with_reducible first | exact HI0.out | apply IsS47.alloc | apply IsS47.drewN | apply IsS47.drew | apply IsS47.set_1) | exact HI0.out)), fun h0_ => absurd ((hoff 21 (by kernel_rfl)).symm.trans h0_) (by decide), fun h0_ => absurd ((hoff 18 (by kernel_rfl)).symm.trans h0_) (by decide)⟩
        refine steps_cons ?_ ?_
        · rintro b a w' ⟨v162, adz_v162, m18_, ha, Q_HI0, Q_HK, Q_HB, Q_HI0_e1, Q_HI0_e4, Q_HI0_e7, Q_HI0_e10, Q_HI0_e12, Q_HO163, Q_HA_HO163, Q_HI0_e16, Q_HI0_e21, Q_X18_⟩ hb_ hon hoff
          refine ⟨_, rfl, fun K hK => ?_⟩
          have e19 : a.tmps[19]? = some (.int .i64 t164) := by rw [ha]; exact putSel_on (e := (16, 19, .int .i64 t164)) 10 rfl rfl (hon 16 (by kernel_rfl)) rfl
          replace ha := Aside0.mk ha
          have HK := Aside0.mk Q_HK
          have HB := Aside0.mk Q_HB
          refine value_ (w1 := w') (v := .int .i64 ji8) (by rfl) rfl ?_ ?_
          · go_simp
            (try simp only [i64_w])
            try rfl
          refine hK.out _ _ ⟨v162, adz_v162, m18_, (by rw [ha.out]; exact putSel_upk 11 hb_ rfl rfl rfl), fun h0_ => absurd ((hon 1 (by kernel_rfl)).symm.trans h0_) (by decide), Q_HK, Q_HB, fun _ h1_ => absurd ((hon 4 (by kernel_rfl)).symm.trans h1_) (by decide), fun _ h1_ => absurd ((hon 7 (by kernel_rfl)).symm.trans h1_) (by decide), fun _ h1_ => absurd ((hon 10 (by kernel_rfl)).symm.trans h1_) (by decide), fun _ h1_ => absurd ((hon 12 (by kernel_rfl)).symm.trans h1_) (by decide), fun _ h1_ => absurd ((hon 16 (by kernel_rfl)).symm.trans h1_) (by decide), Q_HO163, Q_HA_HO163, Q_HI0_e16, Q_HI0_e21, fun h0_ => absurd ((hoff 18 (by kernel_rfl)).symm.trans h0_) (by decide)⟩
        refine steps_cons ?_ ?_
        · rintro b a w' ⟨v162, adz_v162, m18_, ha, Q_HI0, Q_HK, Q_HB, Q_HI0_e1, Q_HI0_e4, Q_HI0_e7, Q_HI0_e10, Q_HI0_e12, Q_HO163, Q_HA_HO163, Q_HI0_e16, Q_HI0_e21, Q_X18_⟩ hb_ hon hoff
          refine ⟨_, rfl, fun K hK => ?_⟩
          have e17 : a.tmps[17]? = some (v162) := by rw [ha]; exact putSel_on (e := (14, 17, v162)) 9 rfl rfl (hon 14 (by kernel_rfl)) rfl
          have e20 : a.tmps[20]? = some (.int .i64 ji8) := by rw [ha]; exact putSel_on (e := (17, 20, .int .i64 ji8)) 11 rfl rfl (hon 17 (by kernel_rfl)) rfl
          replace ha := Aside0.mk ha
          have HK := Aside0.mk Q_HK
          have HB := Aside0.mk Q_HB
          have HO163 := Aside0.mk (Q_HO163 (hon 14 (by kernel_rfl)))
          have HA_HO163 := Aside0.mk (Q_HA_HO163 (hon 14 (by kernel_rfl)))
          obtain ⟨c_, hv_⟩ := HA_HO163.out
          rw [hv_] at e17
          refine value_ (w1 := w') (v := .pointer (some (adz_v162.add ((ji8)).toNat))) (by rfl) rfl ?_ ?_
          · go_simp
            (try simp only [i64_w])
            try rfl
          refine hK.out _ _ ⟨v162, adz_v162, (.pointer (some (adz_v162.add ((ji8)).toNat))), (by rw [ha.out]; exact putSel_upk 12 hb_ rfl rfl rfl), fun h0_ => absurd ((hon 1 (by kernel_rfl)).symm.trans h0_) (by decide), Q_HK, Q_HB, fun _ h1_ => absurd ((hon 4 (by kernel_rfl)).symm.trans h1_) (by decide), fun _ h1_ => absurd ((hon 7 (by kernel_rfl)).symm.trans h1_) (by decide), fun _ h1_ => absurd ((hon 10 (by kernel_rfl)).symm.trans h1_) (by decide), fun _ h1_ => absurd ((hon 12 (by kernel_rfl)).symm.trans h1_) (by decide), fun _ h1_ => absurd ((hon 16 (by kernel_rfl)).symm.trans h1_) (by decide), Q_HO163, Q_HA_HO163, Q_HI0_e16, Q_HI0_e21, fun _ => rfl⟩
        refine steps_cons ?_ ?_
        · rintro b a w' ⟨v162, adz_v162, m18_, ha, Q_HI0, Q_HK, Q_HB, Q_HI0_e1, Q_HI0_e4, Q_HI0_e7, Q_HI0_e10, Q_HI0_e12, Q_HO163, Q_HA_HO163, Q_HI0_e16, Q_HI0_e21, Q_X18_⟩ hb_ hon hoff
          refine ⟨_, rfl, fun K hK => ?_⟩
          have e21 : a.tmps[21]? = some (m18_) := by rw [ha]; exact putSel_on (e := (18, 21, m18_)) 12 rfl rfl (hon 18 (by kernel_rfl)) rfl
          rw [Q_X18_ (hon 18 (by kernel_rfl))] at e21
          replace ha := Aside0.mk ha
          have HK := Aside0.mk Q_HK
          have HB := Aside0.mk Q_HB
          have HO163 := Aside0.mk (Q_HO163 (hon 14 (by kernel_rfl)))
          have HA_HO163 := Aside0.mk (Q_HA_HO163 (hon 14 (by kernel_rfl)))
          obtain ⟨c_, hv_⟩ := HA_HO163.out
          have hF_ := HO163.out
          rw [hv_] at hF_
          obtain ⟨ad_, ea_, hx_⟩ := Kd.at_int (Kd.R_reads' hF_).2.2 (ji8) (of_eq_true pi166) (of_eq_true qi166)
          cases ea_
          refine value_ (w1 := w') (v := .int .i64 (rd y161 (ji8))) (by rfl) rfl ?_ ?_
          · go_simp
            (try simp only [i64_w])
            try rfl
          refine hK.out _ _ ⟨v162, adz_v162, m18_, (by rw [ha.out]; exact putSel_upk 13 hb_ rfl rfl rfl), fun h0_ => absurd ((hon 1 (by kernel_rfl)).symm.trans h0_) (by decide), Q_HK, Q_HB, fun _ h1_ => absurd ((hon 4 (by kernel_rfl)).symm.trans h1_) (by decide), fun _ h1_ => absurd ((hon 7 (by kernel_rfl)).symm.trans h1_) (by decide), fun _ h1_ => absurd ((hon 10 (by kernel_rfl)).symm.trans h1_) (by decide), fun _ h1_ => absurd ((hon 12 (by kernel_rfl)).symm.trans h1_) (by decide), fun _ h1_ => absurd ((hon 16 (by kernel_rfl)).symm.trans h1_) (by decide), Q_HO163, Q_HA_HO163, Q_HI0_e16, Q_HI0_e21, Q_X18_⟩
        refine steps_cons ?_ ?_
        · rintro b a w' ⟨v162, adz_v162, m18_, ha, Q_HI0, Q_HK, Q_HB, Q_HI0_e1, Q_HI0_e4, Q_HI0_e7, Q_HI0_e10, Q_HI0_e12, Q_HO163, Q_HA_HO163, Q_HI0_e16, Q_HI0_e21, Q_X18_⟩ hb_ hon hoff
          refine ⟨_, rfl, fun K hK => ?_⟩
          have e23 : a.tmps[23]? = some (.pointer (some ⟨g, 0, none⟩)) := by rw [ha]; exact (putSel_off rfl).trans rfl
          replace ha := Aside0.mk ha
          have HK := Aside0.mk Q_HK
          have HB := Aside0.mk Q_HB
          have HI0 := Aside0.mk (Q_HI0_e16 (hon 16 (by kernel_rfl)) hb_)
          refine goes_ Try.func63 (by kernel_rfl) rfl #[.pointer (some ⟨g, 0, none⟩), .int .i64 40] (by rfl) rfl rfl (by first | (simp only [List.map_toArray, List.map_cons, List.map_nil, Act.eval, Array.getD_eq_getD_getElem?, Option.getD_some, e23]; done) | (simp only [List.map_toArray, List.map_cons, List.map_nil, Act.eval, Array.getD_eq_getD_getElem?, Option.getD_some, e23]; rfl)) ?_
          with_reducible refine (spec_l20Rd_pick.calls k g s0_0 t165 40 t167 t168 w0 _ ?side1 ?side2 A11.out).mono ?_
          (case side1 => repeat (first | (with_reducible first | exact HI0.out | apply IsS47.alloc | apply IsS47.drewN | apply IsS47.drew | apply IsS47.set_1) | exact HI0.out))
          (case side2 => repeat (first | (with_reducible first | exact HB.out | apply below_alloc | apply pw_below_drewN | apply below_drew1 | refine below_set ?_ (IsS47.ge HI0.out)) | exact HB.out))
          rintro e w20 ⟨rfl, hi, hb, hk⟩
          refine ⟨_, rfl, ?_⟩
          have n0_ := Aside0.mk (KeepBut.trans (by repeat (first | (with_reducible first | exact HK.out | apply KeepBut.set_ | apply keep_drewN | apply keep_drew | apply keep_alloc) | exact HK.out)) hk (.inl rfl))
          have n1_ := Aside0.mk (hb)
          have n2_ := Aside0.mk (hi)
          have z_HO163 := fun (h0_ : b 14 = true) => (show Kd.R (Kd.int .i64) 3 w20 w.heap.size (fun _ => True) v162 y161 from by first | exact (Kd.R_mono (Kd.R_keep (IsS47.apart (show IsS47 w0 _ g s0_0 t165 from by repeat (first | (with_reducible first | exact HI0.out | apply IsS47.alloc | apply IsS47.drewN | apply IsS47.drew | apply IsS47.set_1) | exact HI0.out)) (by (with_reducible repeat (first | apply Kd.R_alloc | apply Kd.R_drewN | apply Kd.R_drew)); exact (Q_HO163 h0_)) (by decide)) hk (fun _ h => h.2)) (fun _ h => h.1)) | exact Kd.R_mono (Kd.R_mono (Kd.R_keep (IsS47.apart (show IsS47 w0 _ g s0_0 t165 from by repeat (first | (with_reducible first | exact HI0.out | apply IsS47.alloc | apply IsS47.drewN | apply IsS47.drew | apply IsS47.set_1) | exact HI0.out)) (by (with_reducible repeat (first | apply Kd.R_alloc | apply Kd.R_drewN | apply Kd.R_drew)); exact (Q_HO163 h0_)) (by decide)) hk (fun _ h => h.2)) (fun _ h => h.1)) (fun _ h_ => by first | trivial | exact h_ | exact h_.1))
          clear HK
          clear HB
          clear HI0
          have HK := n0_
          have HB := n1_
          have HI0 := n2_
          clear n0_ n1_ n2_
          (try clear hb)
          (try clear hb2)
          (try clear hk)
          (try clear hi)
          refine hK.out _ _ ⟨v162, adz_v162, m18_, (by rw [ha.out]; exact putSel_upk 14 hb_ rfl rfl rfl), fun h0_ => absurd ((hon 1 (by kernel_rfl)).symm.trans h0_) (by decide), (by repeat (first | (with_reducible first | exact HK.out | apply KeepBut.set_ | apply keep_drewN | apply keep_drew | apply keep_alloc) | exact HK.out)), (by repeat (first | (with_reducible first | exact HB.out | apply below_alloc | apply pw_below_drewN | apply below_drew1 | refine below_set ?_ (IsS47.ge HI0.out)) | exact HB.out)), fun _ h1_ => absurd ((hon 4 (by kernel_rfl)).symm.trans h1_) (by decide), fun _ h1_ => absurd ((hon 7 (by kernel_rfl)).symm.trans h1_) (by decide), fun _ h1_ => absurd ((hon 10 (by kernel_rfl)).symm.trans h1_) (by decide), fun _ h1_ => absurd ((hon 12 (by kernel_rfl)).symm.trans h1_) (by decide), fun _ h1_ => absurd ((hon 16 (by kernel_rfl)).symm.trans h1_) (by decide), z_HO163, Q_HA_HO163, fun _ h1_ => absurd ((up_self b 21).symm.trans h1_) (by decide), fun _ => (by repeat (first | (with_reducible first | exact HI0.out | apply IsS47.alloc | apply IsS47.drewN | apply IsS47.drew | apply IsS47.set_1) | exact HI0.out)), Q_X18_⟩
        refine steps_cons ?_ ?_
        · rintro b a w' ⟨v162, adz_v162, m18_, ha, Q_HI0, Q_HK, Q_HB, Q_HI0_e1, Q_HI0_e4, Q_HI0_e7, Q_HI0_e10, Q_HI0_e12, Q_HO163, Q_HA_HO163, Q_HI0_e16, Q_HI0_e21, Q_X18_⟩ hb_ hon hoff
          refine ⟨_, rfl, fun K hK => ?_⟩
          have e24 : a.tmps[24]? = some (.int .i64 t167) := by rw [ha]; exact putSel_on (e := (21, 24, .int .i64 t167)) 14 rfl rfl (hon 21 (by kernel_rfl)) rfl
          replace ha := Aside0.mk ha
          have HK := Aside0.mk Q_HK
          have HB := Aside0.mk Q_HB
          have HI0 := Aside0.mk (Q_HI0_e21 (hon 21 (by kernel_rfl)))
          refine value_ (w1 := w') (v := .int .i64 (wrap64 (Int.tdiv t167 39))) (by rfl) rfl ?_ ?_
          · go_simp
            (try simp only [i64_w])
            try rfl
          refine hK.out _ _ ⟨v162, adz_v162, m18_, (by rw [ha.out]; exact putSel_upk 15 hb_ rfl rfl rfl), fun h0_ => absurd ((hon 1 (by kernel_rfl)).symm.trans h0_) (by decide), Q_HK, Q_HB, fun _ h1_ => absurd ((hon 4 (by kernel_rfl)).symm.trans h1_) (by decide), fun _ h1_ => absurd ((hon 7 (by kernel_rfl)).symm.trans h1_) (by decide), fun _ h1_ => absurd ((hon 10 (by kernel_rfl)).symm.trans h1_) (by decide), fun _ h1_ => absurd ((hon 12 (by kernel_rfl)).symm.trans h1_) (by decide), fun _ h1_ => absurd ((hon 16 (by kernel_rfl)).symm.trans h1_) (by decide), Q_HO163, Q_HA_HO163, fun _ h1_ => absurd ((hon 21 (by kernel_rfl)).symm.trans h1_) (by decide), Q_HI0_e21, Q_X18_⟩
        refine steps_cons ?_ ?_
        · rintro b a w' ⟨v162, adz_v162, m18_, ha, Q_HI0, Q_HK, Q_HB, Q_HI0_e1, Q_HI0_e4, Q_HI0_e7, Q_HI0_e10, Q_HI0_e12, Q_HO163, Q_HA_HO163, Q_HI0_e16, Q_HI0_e21, Q_X18_⟩ hb_ hon hoff
          refine ⟨_, rfl, fun K hK => ?_⟩
          have e25 : a.tmps[25]? = some (.int .i64 (wrap64 (Int.tdiv t167 39))) := by rw [ha]; exact putSel_on (e := (22, 25, .int .i64 (wrap64 (Int.tdiv t167 39)))) 15 rfl rfl (hon 22 (by kernel_rfl)) rfl
          replace ha := Aside0.mk ha
          have HK := Aside0.mk Q_HK
          have HB := Aside0.mk Q_HB
          have HI0 := Aside0.mk (Q_HI0_e21 (hon 21 (by kernel_rfl)))
          refine value_ (w1 := w') (v := .int .i64 (wrap64 ((wrap64 (Int.tdiv t167 39)) * 1000))) (by rfl) rfl ?_ ?_
          · go_simp
            (try simp only [i64_w])
            try rfl
          refine hK.out _ _ ⟨v162, adz_v162, m18_, (by rw [ha.out]; exact putSel_upk 16 hb_ rfl rfl rfl), fun h0_ => absurd ((hon 1 (by kernel_rfl)).symm.trans h0_) (by decide), Q_HK, Q_HB, fun _ h1_ => absurd ((hon 4 (by kernel_rfl)).symm.trans h1_) (by decide), fun _ h1_ => absurd ((hon 7 (by kernel_rfl)).symm.trans h1_) (by decide), fun _ h1_ => absurd ((hon 10 (by kernel_rfl)).symm.trans h1_) (by decide), fun _ h1_ => absurd ((hon 12 (by kernel_rfl)).symm.trans h1_) (by decide), fun _ h1_ => absurd ((hon 16 (by kernel_rfl)).symm.trans h1_) (by decide), Q_HO163, Q_HA_HO163, fun _ h1_ => absurd ((hon 21 (by kernel_rfl)).symm.trans h1_) (by decide), Q_HI0_e21, Q_X18_⟩
        refine steps_cons ?_ ?_
        · rintro b a w' ⟨v162, adz_v162, m18_, ha, Q_HI0, Q_HK, Q_HB, Q_HI0_e1, Q_HI0_e4, Q_HI0_e7, Q_HI0_e10, Q_HI0_e12, Q_HO163, Q_HA_HO163, Q_HI0_e16, Q_HI0_e21, Q_X18_⟩ hb_ hon hoff
          refine ⟨_, rfl, fun K hK => ?_⟩
          have e22 : a.tmps[22]? = some (.int .i64 (rd y161 (ji8))) := by rw [ha]; exact putSel_on (e := (19, 22, .int .i64 (rd y161 (ji8)))) 13 rfl rfl (hon 19 (by kernel_rfl)) rfl
          have e26 : a.tmps[26]? = some (.int .i64 (wrap64 ((wrap64 (Int.tdiv t167 39)) * 1000))) := by rw [ha]; exact putSel_on (e := (23, 26, .int .i64 (wrap64 ((wrap64 (Int.tdiv t167 39)) * 1000)))) 16 rfl rfl (hon 23 (by kernel_rfl)) rfl
          replace ha := Aside0.mk ha
          have HK := Aside0.mk Q_HK
          have HB := Aside0.mk Q_HB
          have HO163 := Aside0.mk (Q_HO163 (hon 14 (by kernel_rfl)))
          have HA_HO163 := Aside0.mk (Q_HA_HO163 (hon 14 (by kernel_rfl)))
          have HI0 := Aside0.mk (Q_HI0_e21 (hon 21 (by kernel_rfl)))
          refine value_ (w1 := w') (v := .int .i64 (wrap64 ((rd y161 (ji8)) + (wrap64 ((wrap64 (Int.tdiv t167 39)) * 1000))))) (by rfl) rfl ?_ ?_
          · go_simp
            (try simp only [i64_w])
            try rfl
          refine hK.out _ _ ⟨v162, adz_v162, m18_, (by rw [ha.out]; exact putSel_upk 17 hb_ rfl rfl rfl), fun h0_ => absurd ((hon 1 (by kernel_rfl)).symm.trans h0_) (by decide), Q_HK, Q_HB, fun _ h1_ => absurd ((hon 4 (by kernel_rfl)).symm.trans h1_) (by decide), fun _ h1_ => absurd ((hon 7 (by kernel_rfl)).symm.trans h1_) (by decide), fun _ h1_ => absurd ((hon 10 (by kernel_rfl)).symm.trans h1_) (by decide), fun _ h1_ => absurd ((hon 12 (by kernel_rfl)).symm.trans h1_) (by decide), fun _ h1_ => absurd ((hon 16 (by kernel_rfl)).symm.trans h1_) (by decide), Q_HO163, Q_HA_HO163, fun _ h1_ => absurd ((hon 21 (by kernel_rfl)).symm.trans h1_) (by decide), Q_HI0_e21, Q_X18_⟩
        refine steps_cons ?_ ?_
        · rintro b a w' ⟨v162, adz_v162, m18_, ha, Q_HI0, Q_HK, Q_HB, Q_HI0_e1, Q_HI0_e4, Q_HI0_e7, Q_HI0_e10, Q_HI0_e12, Q_HO163, Q_HA_HO163, Q_HI0_e16, Q_HI0_e21, Q_X18_⟩ hb_ hon hoff
          refine ⟨_, rfl, fun K hK => ?_⟩
          have e27 : a.tmps[27]? = some (.int .i64 (wrap64 ((rd y161 (ji8)) + (wrap64 ((wrap64 (Int.tdiv t167 39)) * 1000))))) := by rw [ha]; exact putSel_on (e := (24, 27, .int .i64 (wrap64 ((rd y161 (ji8)) + (wrap64 ((wrap64 (Int.tdiv t167 39)) * 1000)))))) 17 rfl rfl (hon 24 (by kernel_rfl)) rfl
          replace ha := Aside0.mk ha
          have HK := Aside0.mk Q_HK
          have HB := Aside0.mk Q_HB
          have HO163 := Aside0.mk (Q_HO163 (hon 14 (by kernel_rfl)))
          have HA_HO163 := Aside0.mk (Q_HA_HO163 (hon 14 (by kernel_rfl)))
          have HI0 := Aside0.mk (Q_HI0_e21 (hon 21 (by kernel_rfl)))
          refine value_ (w1 := w') (v := .int .i64 (wrap64 ((rd y161 (ji8)) + (wrap64 ((wrap64 (Int.tdiv t167 39)) * 1000))))) (by rfl) rfl ?_ ?_
          · go_simp
            (try simp only [i64_w])
            try rfl
          refine hK.out _ _ ⟨v162, adz_v162, m18_, (by rw [ha.out]; exact putSel_upk 18 hb_ rfl rfl rfl), fun h0_ => absurd ((hon 1 (by kernel_rfl)).symm.trans h0_) (by decide), Q_HK, Q_HB, fun _ h1_ => absurd ((hon 4 (by kernel_rfl)).symm.trans h1_) (by decide), fun _ h1_ => absurd ((hon 7 (by kernel_rfl)).symm.trans h1_) (by decide), fun _ h1_ => absurd ((hon 10 (by kernel_rfl)).symm.trans h1_) (by decide), fun _ h1_ => absurd ((hon 12 (by kernel_rfl)).symm.trans h1_) (by decide), fun _ h1_ => absurd ((hon 16 (by kernel_rfl)).symm.trans h1_) (by decide), Q_HO163, Q_HA_HO163, fun _ h1_ => absurd ((hon 21 (by kernel_rfl)).symm.trans h1_) (by decide), Q_HI0_e21, Q_X18_⟩
        exact steps_nil
      rintro b a w23 hall ⟨v162, adz_v162, m18_, ha, Q_HI0, Q_HK, Q_HB, Q_HI0_e1, Q_HI0_e4, Q_HI0_e7, Q_HI0_e10, Q_HI0_e12, Q_HO163, Q_HA_HO163, Q_HI0_e16, Q_HI0_e21, Q_X18_⟩
      clear HB HI0 HK
      have hb1_ := hall 1 (by kernel_rfl)
      have hb2_ := hall 2 (by kernel_rfl)
      have hb4_ := hall 4 (by kernel_rfl)
      have hb5_ := hall 5 (by kernel_rfl)
      have hb7_ := hall 7 (by kernel_rfl)
      have hb8_ := hall 8 (by kernel_rfl)
      have hb10_ := hall 10 (by kernel_rfl)
      have hb12_ := hall 12 (by kernel_rfl)
      have hb13_ := hall 13 (by kernel_rfl)
      have hb14_ := hall 14 (by kernel_rfl)
      have hb16_ := hall 16 (by kernel_rfl)
      have hb17_ := hall 17 (by kernel_rfl)
      have hb18_ := hall 18 (by kernel_rfl)
      have hb19_ := hall 19 (by kernel_rfl)
      have hb21_ := hall 21 (by kernel_rfl)
      have hb22_ := hall 22 (by kernel_rfl)
      have hb23_ := hall 23 (by kernel_rfl)
      have hb24_ := hall 24 (by kernel_rfl)
      have hb25_ := hall 25 (by kernel_rfl)
      subst ha
      obtain rfl := Q_X18_ hb18_
      simp only [putSel, hb1_, hb2_, hb4_, hb5_, hb7_, hb8_, hb10_, hb12_, hb13_, hb14_, hb16_, hb17_, hb18_, hb19_, hb21_, hb22_, hb23_, hb24_, hb25_, if_true, Act.put, List.setIfInBounds_toArray, List.set_cons_zero, List.set_cons_succ]
      clear Q_HI0
      have HK := Aside0.mk Q_HK
      clear Q_HK
      have HB := Aside0.mk Q_HB
      clear Q_HB
      clear Q_HI0_e1
      clear Q_HI0_e4
      clear Q_HI0_e7
      clear Q_HI0_e10
      clear Q_HI0_e12
      have HO163 := Aside0.mk (Q_HO163 hb14_)
      clear Q_HO163
      have HA_HO163 := Aside0.mk (Q_HA_HO163 hb14_)
      clear Q_HA_HO163
      clear Q_HI0_e16
      have HI0 := Aside0.mk (Q_HI0_e21 hb21_)
      clear Q_HI0_e21
      clear hall hb1_ hb2_ hb4_ hb5_ hb7_ hb8_ hb10_ hb12_ hb13_ hb14_ hb16_ hb17_ hb18_ hb19_ hb21_ hb22_ hb23_ hb24_ hb25_
      obtain ⟨co24, eo24⟩ := HA_HO163.out
      clear HA_HO163
      subst eo24
      try go_wp2
      go_ret
      exact ⟨by first | rfl | (simp [errW_none, errW_some] <;> rfl) | (simp only [← hji8]; first | rfl | (simp [errW_none, errW_some] <;> rfl)) | (simp [*, errW_none, errW_some] <;> rfl), by repeat (first | (with_reducible first | exact HI0.out | apply IsS47.alloc | apply IsS47.drewN | apply IsS47.drew | apply IsS47.set_1) | exact HI0.out), by repeat (first | (with_reducible first | exact HB.out | apply below_alloc | apply pw_below_drewN | apply below_drew1 | refine below_set ?_ (IsS47.ge HI0.out)) | exact HB.out), by repeat (first | (with_reducible first | exact HK.out | apply KeepBut.set_ | apply keep_drewN | apply keep_drew | apply keep_alloc) | exact HK.out)⟩
    · rw [if_neg c10] at H
      exact absurd H (by simp)
  · rw [if_neg c9] at H
    exact absurd H (by simp)

/-! ### spec_DrawNotDivided: function 40 -/
def spec_DrawNotDivided.f (k : Nat) (l0 : List Int) : Option (Int × Int) := (spec_l20Open.f l0).bind fun bt169 => ((spec_l20UpTo.f k bt169.1 bt169.2).bind fun bt172 => ((spec_l20Rd_pick.f k bt169.1 bt172.2 10).bind fun bt174 => ((spec_l20Rd_pick.f k bt169.1 bt174.2 20).bind fun bt176 => (some (bt172.1, wrap64 (bt174.1 - (wrap64 (Int.tdiv bt176.1 19))))))))
theorem spec_DrawNotDivided.mono : ∀ a0 k, LeO (spec_DrawNotDivided.f k a0) (spec_DrawNotDivided.f (k + 1) a0) := by
  intro a0 k
  unfold spec_DrawNotDivided.f
  repeat' first
      | (with_reducible exact spec_l20Rd_pick.mono _ _ _ _)
      | (with_reducible exact spec_l20UpTo.mono _ _ _)
      | (with_reducible exact LeO.refl _)
      | (with_reducible exact LeO.none _)
      | (with_reducible refine LeO.ite ?_ ?_)
      | (with_reducible refine LeO.bind ?_ (fun _ => ?_))
      | exact spec_l20Rd_pick.mono _ _ _ _
      | exact spec_l20UpTo.mono _ _ _
      | exact LeO.none _
      | refine LeO.ite ?_ ?_
      | refine LeO.bind ?_ (fun _ => ?_)
set_option maxHeartbeats 8000000 in
set_option maxRecDepth 100000 in
theorem spec_DrawNotDivided.calls (k : Nat) (A0 : Option Addr) (c0 : Nat) (l0 : List Int) (r1 : Int) (r2 : Int) (w : World) (hr0 : Kd.C (Kd.int .u8) w A0 l0.length l0) (hc0 : l0.length ≤ c0) (h : spec_DrawNotDivided.f k l0 = some (r1, r2)) :
    Calls Try.prog 40 #[.slice A0 l0.length c0] w fun e w' => e = .returned (.tuple #[.int .i64 r1, .int .i64 r2]) ∧ Below w.heap.size w w' := by
  have HR0 := Aside0.mk hr0
  have HC0 := Aside0.mk hc0
  clear hr0 hc0
  have HB := Aside0.mk (Below.refl w.heap.size w)
  have H : ((spec_l20Open.f l0).bind fun bt169 => ((spec_l20UpTo.f k bt169.1 bt169.2).bind fun bt172 => ((spec_l20Rd_pick.f k bt169.1 bt172.2 10).bind fun bt174 => ((spec_l20Rd_pick.f k bt169.1 bt174.2 20).bind fun bt176 => (some (bt172.1, wrap64 (bt174.1 - (wrap64 (Int.tdiv bt176.1 19))))))))) = some (r1, r2) := h
  clear h
  replace H := Option.bind_eq_some_iff.mp H
  obtain ⟨⟨t169, t170⟩, A20, H⟩ := H
  replace H : ((spec_l20UpTo.f k t169 t170).bind fun bt172 => ((spec_l20Rd_pick.f k t169 bt172.2 10).bind fun bt174 => ((spec_l20Rd_pick.f k t169 bt174.2 20).bind fun bt176 => (some (bt172.1, wrap64 (bt174.1 - (wrap64 (Int.tdiv bt176.1 19)))))))) = some (r1, r2) := H
  have A2 := Aside0.mk A20
  clear A20
  replace H := Option.bind_eq_some_iff.mp H
  obtain ⟨⟨t172, t173⟩, A30, H⟩ := H
  replace H : ((spec_l20Rd_pick.f k t169 t173 10).bind fun bt174 => ((spec_l20Rd_pick.f k t169 bt174.2 20).bind fun bt176 => (some (t172, wrap64 (bt174.1 - (wrap64 (Int.tdiv bt176.1 19))))))) = some (r1, r2) := H
  have A3 := Aside0.mk A30
  clear A30
  replace H := Option.bind_eq_some_iff.mp H
  obtain ⟨⟨t174, t175⟩, A40, H⟩ := H
  replace H : ((spec_l20Rd_pick.f k t169 t175 20).bind fun bt176 => (some (t172, wrap64 (t174 - (wrap64 (Int.tdiv bt176.1 19)))))) = some (r1, r2) := H
  have A4 := Aside0.mk A40
  clear A40
  replace H := Option.bind_eq_some_iff.mp H
  obtain ⟨⟨t176, t177⟩, A50, H⟩ := H
  replace H : (some (t172, wrap64 (t174 - (wrap64 (Int.tdiv t176 19))))) = some (r1, r2) := H
  have A5 := Aside0.mk A50
  clear A50
  simp only [Option.some.injEq, Prod.mk.injEq] at H
  obtain ⟨rfl, rfl⟩ := H
  go_enter Try.func40, Try.ntmps40
  go_wp2_with (first | ((with_reducible refine gate_callee (f := 53) rfl ?_); refine goesL_ (some 6) rfl rfl Try.func53 (by kernel_rfl) rfl #[.slice A0 l0.length c0] rfl (by (try simp only [List.map_toArray, List.map_cons, List.map_nil]); first | done | rfl | (simp only [List.length_drop, List.length_take]; rfl)) ?_; (with_reducible refine (spec_l20Open.calls _ _ l0 t169 t170 w _ ?side1 ?side2 ?side3 A2.out).mono ?_); (case side1 => repeat (first | (with_reducible first | exact HB.out | apply below_alloc | apply pw_below_drewN | apply below_drew1) | exact HB.out)); (case side2 => exact HR0.out); (case side3 => exact HC0.out); rintro e w6 ⟨g171, rfl, hi, hb, hb2⟩; refine ⟨_, rfl, ?_⟩; have n0_ := Aside0.mk (hb); have n1_ := Aside0.mk (hi); clear HB; have HB := n0_; have HI171 := n1_; clear n0_ n1_; (try clear hb); (try clear hb2); (try clear hk); (try clear hi)) | ((with_reducible refine gate_callee (f := 66) rfl ?_); refine goesL_ (some 8) rfl rfl Try.func66 (by kernel_rfl) rfl #[.pointer (some ⟨g171, 0, none⟩)] rfl (by (try simp only [List.map_toArray, List.map_cons, List.map_nil]); first | done | rfl | (simp only [List.length_drop, List.length_take]; rfl)) ?_; (with_reducible refine (spec_l20UpTo.calls k g171 t169 t170 t172 t173 w _ ?side1 ?side2 A3.out).mono ?_); (case side1 => repeat (first | (with_reducible first | exact HI171.out | apply IsS47.alloc | apply IsS47.drewN | apply IsS47.drew | apply IsS47.set_1) | exact HI171.out)); (case side2 => repeat (first | (with_reducible first | exact HB.out | apply below_alloc | apply pw_below_drewN | apply below_drew1 | refine below_set ?_ (IsS47.ge HI171.out)) | exact HB.out)); rintro e w7 ⟨rfl, hi, hb, hk⟩; refine ⟨_, rfl, ?_⟩; have n0_ := Aside0.mk (hb); have n1_ := Aside0.mk (hi); clear HB; clear HI171; have HB := n0_; have HI171 := n1_; clear n0_ n1_; (try clear hb); (try clear hb2); (try clear hk); (try clear hi)) | ((with_reducible refine gate_callee (f := 63) rfl ?_); refine goesL_ (some 10) rfl rfl Try.func63 (by kernel_rfl) rfl #[.pointer (some ⟨g171, 0, none⟩), .int .i64 10] rfl (by (try simp only [List.map_toArray, List.map_cons, List.map_nil]); first | done | rfl | (simp only [List.length_drop, List.length_take]; rfl)) ?_; (with_reducible refine (spec_l20Rd_pick.calls k g171 t169 t173 10 t174 t175 w _ ?side1 ?side2 A4.out).mono ?_); (case side1 => repeat (first | (with_reducible first | exact HI171.out | apply IsS47.alloc | apply IsS47.drewN | apply IsS47.drew | apply IsS47.set_1) | exact HI171.out)); (case side2 => repeat (first | (with_reducible first | exact HB.out | apply below_alloc | apply pw_below_drewN | apply below_drew1 | refine below_set ?_ (IsS47.ge HI171.out)) | exact HB.out)); rintro e w8 ⟨rfl, hi, hb, hk⟩; refine ⟨_, rfl, ?_⟩; have n0_ := Aside0.mk (hb); have n1_ := Aside0.mk (hi); clear HB; clear HI171; have HB := n0_; have HI171 := n1_; clear n0_ n1_; (try clear hb); (try clear hb2); (try clear hk); (try clear hi)) | ((with_reducible refine gate_callee (f := 63) rfl ?_); refine goesL_ (some 12) rfl rfl Try.func63 (by kernel_rfl) rfl #[.pointer (some ⟨g171, 0, none⟩), .int .i64 20] rfl (by (try simp only [List.map_toArray, List.map_cons, List.map_nil]); first | done | rfl | (simp only [List.length_drop, List.length_take]; rfl)) ?_; (with_reducible refine (spec_l20Rd_pick.calls k g171 t169 t175 20 t176 t177 w _ ?side1 ?side2 A5.out).mono ?_); (case side1 => repeat (first | (with_reducible first | exact HI171.out | apply IsS47.alloc | apply IsS47.drewN | apply IsS47.drew | apply IsS47.set_1) | exact HI171.out)); (case side2 => repeat (first | (with_reducible first | exact HB.out | apply below_alloc | apply pw_below_drewN | apply below_drew1 | refine below_set ?_ (IsS47.ge HI171.out)) | exact HB.out)); rintro e w9 ⟨rfl, hi, hb, hk⟩; refine ⟨_, rfl, ?_⟩; have n0_ := Aside0.mk (hb); have n1_ := Aside0.mk (hi); clear HB; clear HI171; have HB := n0_; have HI171 := n1_; clear n0_ n1_; (try clear hb); (try clear hb2); (try clear hk); (try clear hi)))
  go_ret2
  exact ⟨by first | rfl | (simp [errW_none, errW_some] <;> rfl) | (simp [*, errW_none, errW_some] <;> rfl), by repeat (first | (with_reducible first | exact HB.out | apply below_alloc | apply pw_below_drewN | apply below_drew1 | refine below_set ?_ (IsS47.ge HI171.out)) | exact HB.out)⟩

end Go.Proofs.Ytegdgaldbjdcmaa.PFnNotDivided
