-- PRINTED BY print.sh 35421559b90ae4d0a3588c463048766b98c2df88dd9212a6774a882060cdf62d: not written by this session
import Derived.Test.YtijgepnmcoicgaaPFnOverPeriodx0
import Derived.Test.YtijgepnmcoicgaaPFnOverPeriodx1
import Derived.Test.YtijgepnmcoicgaaPFnOverPeriodx3
import Derived.Test.YtijgepnmcoicgaaPFnOverPeriodx5
namespace Go.Proofs.Ytijgepnmcoicgaa.PFnOverPeriod
open Go.RowKit Go.Proofs.YtijgepnmcoicgaaW.PrintWords Go.Proofs.YtijgepnmcoicgaaW.PrintLast Go.Proofs.YtijgepnmcoicgaaW.PrintMore
attribute [local go_sem] max2_int min2_int max_two min_two max_three min_three max_four min_four   -- for this text's walks alone
set_option linter.unusedVariables false
set_option linter.unusedSimpArgs false

/-! ### laws_FnOverPeriod: function 14 -/
def laws_FnOverPeriod.j0 : Nat → Int → Int → Int → Bool → Option (Bool)
  | 0, _, _, _, _ => none
  | k + 1, x3, x4, x5, x35 => if x35 = true then (if x5 = 0 then ((laws_alive.f).bind fun t220 => (some t220)) else (some false)) else (if x3 = x4 then ((impl_HowManyApart.f k x3).bind fun t221 => (if x5 = (wrap64 ((wrap64 (x3 * x3)) * t221)) then ((impl_OverPeriod.f k 2 2).bind fun t222 => (some (t222 == 4))) else (some false))) else (if x5 = 0 then ((impl_OverPeriod.f k 2 2).bind fun t223 => (some (t223 == 4))) else (some false)))
def laws_FnOverPeriod.f (k : Nat) (l0 : List Int) : Option (Bool) := if (l0.length : Int) > 1048576 then (some true) else ((spec_DrawOverPeriod.f k l0).bind fun bt216 => ((impl_OverPeriod.f k bt216.1 bt216.2).bind fun t218 => ((spec_OverPeriod.f k bt216.1 bt216.2).bind fun t219 => (if t218 = t219 then (if bt216.1 < 1 then (laws_FnOverPeriod.j0 k bt216.1 bt216.2 t218 true) else (if bt216.1 > 30 then (laws_FnOverPeriod.j0 k bt216.1 bt216.2 t218 true) else (if bt216.2 < 1 then (laws_FnOverPeriod.j0 k bt216.1 bt216.2 t218 true) else (laws_FnOverPeriod.j0 k bt216.1 bt216.2 t218 (decide (bt216.2 > 30)))))) else (some false)))))
theorem laws_FnOverPeriod.mono_l : ∀ k, (∀ y0 y1 y2 y3, LeO (laws_FnOverPeriod.j0 k y0 y1 y2 y3) (laws_FnOverPeriod.j0 (k + 1) y0 y1 y2 y3))
  | 0 => fun _ _ _ _ r h => by simp [laws_FnOverPeriod.j0] at h
  | k + 1 => by
    have ih0 := laws_FnOverPeriod.mono_l k
    · intro y0 y1 y2 y3
      unfold laws_FnOverPeriod.j0
      repeat' first
      | (with_reducible exact ih0 _ _ _ _)
      | (with_reducible exact impl_HowManyApart.mono _ _)
      | (with_reducible exact impl_OverPeriod.mono _ _ _)
      | (with_reducible exact spec_DrawOverPeriod.mono _ _)
      | (with_reducible exact spec_OverPeriod.mono _ _ _)
      | (with_reducible exact LeO.refl _)
      | (with_reducible exact LeO.none _)
      | (with_reducible refine LeO.ite ?_ ?_)
      | (with_reducible refine LeO.bind ?_ (fun _ => ?_))
      | exact ih0 _ _ _ _
      | exact impl_HowManyApart.mono _ _
      | exact impl_OverPeriod.mono _ _ _
      | exact spec_DrawOverPeriod.mono _ _
      | exact spec_OverPeriod.mono _ _ _
      | exact LeO.none _
      | refine LeO.ite ?_ ?_
      | refine LeO.bind ?_ (fun _ => ?_)
theorem laws_FnOverPeriod.mono : ∀ a0 k, LeO (laws_FnOverPeriod.f k a0) (laws_FnOverPeriod.f (k + 1) a0) := by
  intro a0 k
  have ih0 := laws_FnOverPeriod.mono_l k
  unfold laws_FnOverPeriod.f
  repeat' first
      | (with_reducible exact ih0 _ _ _ _)
      | (with_reducible exact impl_HowManyApart.mono _ _)
      | (with_reducible exact impl_OverPeriod.mono _ _ _)
      | (with_reducible exact spec_DrawOverPeriod.mono _ _)
      | (with_reducible exact spec_OverPeriod.mono _ _ _)
      | (with_reducible exact LeO.refl _)
      | (with_reducible exact LeO.none _)
      | (with_reducible refine LeO.ite ?_ ?_)
      | (with_reducible refine LeO.bind ?_ (fun _ => ?_))
      | exact ih0 _ _ _ _
      | exact impl_HowManyApart.mono _ _
      | exact impl_OverPeriod.mono _ _ _
      | exact spec_DrawOverPeriod.mono _ _
      | exact spec_OverPeriod.mono _ _ _
      | exact LeO.none _
      | refine LeO.ite ?_ ?_
      | refine LeO.bind ?_ (fun _ => ?_)
set_option maxHeartbeats 8000000 in
set_option maxRecDepth 100000 in
theorem laws_FnOverPeriod.calls (k : Nat) (A0 : Option Addr) (c0 : Nat) (l0 : List Int) (r : Bool) (w : World) (hr0 : Kd.C (Kd.int .u8) w A0 l0.length l0) (hc0 : l0.length ≤ c0) (h : laws_FnOverPeriod.f k l0 = some r) :
    Calls Try.prog 14 #[.slice A0 l0.length c0] w fun e w' => e = .returned (.bool r) ∧ Below w.heap.size w w' := by
  have HR0 := Aside0.mk hr0
  have HC0 := Aside0.mk hc0
  clear hr0 hc0
  have HB := Aside0.mk (Below.refl w.heap.size w)
  have H : (if (l0.length : Int) > 1048576 then (some true) else ((spec_DrawOverPeriod.f k l0).bind fun bt216 => ((impl_OverPeriod.f k bt216.1 bt216.2).bind fun t218 => ((spec_OverPeriod.f k bt216.1 bt216.2).bind fun t219 => (if t218 = t219 then (if bt216.1 < 1 then (laws_FnOverPeriod.j0 k bt216.1 bt216.2 t218 true) else (if bt216.1 > 30 then (laws_FnOverPeriod.j0 k bt216.1 bt216.2 t218 true) else (if bt216.2 < 1 then (laws_FnOverPeriod.j0 k bt216.1 bt216.2 t218 true) else (laws_FnOverPeriod.j0 k bt216.1 bt216.2 t218 (decide (bt216.2 > 30)))))) else (some false)))))) = some r := h
  clear h
  by_cases c2 : (l0.length : Int) > 1048576
  · rw [if_pos c2] at H
    have c2b0 : decide (1048576 < (l0.length : Int)) = true := decide_eq_true c2
    have c2b1 : decide (1048576 < l0.length) = true := decide_eq_true (by omega)
    clear c2
    obtain rfl := Option.some.inj H
    go_enter Try.func14, Try.ntmps14
    go_wp2
    go_ret
    exact ⟨by first | rfl | (simp [errW_none, errW_some] <;> rfl) | (simp [*, errW_none, errW_some] <;> rfl), by repeat (first | (with_reducible first | exact HB.out | apply below_alloc | apply pw_below_drewN | apply below_drew1) | exact HB.out)⟩
  · rw [if_neg c2] at H
    have c2b0 : decide (1048576 < (l0.length : Int)) = false := decide_eq_false c2
    have c2b1 : decide (1048576 < l0.length) = false := decide_eq_false (by omega)
    clear c2
    replace H := Option.bind_eq_some_iff.mp H
    obtain ⟨⟨t216, t217⟩, A30, H⟩ := H
    replace H : ((impl_OverPeriod.f k t216 t217).bind fun t218 => ((spec_OverPeriod.f k t216 t217).bind fun t219 => (if t218 = t219 then (if t216 < 1 then (laws_FnOverPeriod.j0 k t216 t217 t218 true) else (if t216 > 30 then (laws_FnOverPeriod.j0 k t216 t217 t218 true) else (if t217 < 1 then (laws_FnOverPeriod.j0 k t216 t217 t218 true) else (laws_FnOverPeriod.j0 k t216 t217 t218 (decide (t217 > 30)))))) else (some false)))) = some r := H
    have A3 := Aside0.mk A30
    clear A30
    replace H := Option.bind_eq_some_iff.mp H
    obtain ⟨t218, A40, H⟩ := H
    replace H : ((spec_OverPeriod.f k t216 t217).bind fun t219 => (if t218 = t219 then (if t216 < 1 then (laws_FnOverPeriod.j0 k t216 t217 t218 true) else (if t216 > 30 then (laws_FnOverPeriod.j0 k t216 t217 t218 true) else (if t217 < 1 then (laws_FnOverPeriod.j0 k t216 t217 t218 true) else (laws_FnOverPeriod.j0 k t216 t217 t218 (decide (t217 > 30)))))) else (some false))) = some r := H
    have A4 := Aside0.mk A40
    clear A40
    replace H := Option.bind_eq_some_iff.mp H
    obtain ⟨t219, A50, H⟩ := H
    replace H : (if t218 = t219 then (if t216 < 1 then (laws_FnOverPeriod.j0 k t216 t217 t218 true) else (if t216 > 30 then (laws_FnOverPeriod.j0 k t216 t217 t218 true) else (if t217 < 1 then (laws_FnOverPeriod.j0 k t216 t217 t218 true) else (laws_FnOverPeriod.j0 k t216 t217 t218 (decide (t217 > 30)))))) else (some false)) = some r := H
    have A5 := Aside0.mk A50
    clear A50
    by_cases c6 : t218 = t219
    · rw [if_pos c6] at H
      have c6b0 : (t218 == t219) = true := beq_iff_eq.mpr c6
      have c6b1 : (t218 != t219) = false := bne_eq_false_iff_eq.mpr c6
      clear c6
      have HC7 := Aside0.mk H
      clear H
      go_enter Try.func14, Try.ntmps14
      go_upto_region 7 with (first | ((with_reducible refine gate_callee (f := 45) rfl ?_); refine goesL_ (some 11) rfl rfl Try.func45 (by kernel_rfl) rfl #[.slice A0 l0.length c0] rfl (by (try simp only [List.map_toArray, List.map_cons, List.map_nil]); first | done | rfl | (simp only [List.length_drop, List.length_take]; rfl)) ?_; (with_reducible refine (spec_DrawOverPeriod.calls k _ _ l0 t216 t217 _ ?side1 ?side2 A3.out).mono ?_); (case side1 => repeat (first | exact HR0.out | (with_reducible refine Kd.C_alloc ?_ _) | (with_reducible refine Kd.C_drewN ?_ _) | (with_reducible refine Kd.C_drew ?_))); (case side2 => exact HC0.out); rintro e w8 ⟨rfl, hb⟩; refine ⟨_, rfl, ?_⟩; have n0_ := Aside0.mk (below_step (by repeat (first | (with_reducible first | exact HB.out | apply below_alloc | apply pw_below_drewN | apply below_drew1) | exact HB.out)) hb); clear HB; have HB := n0_; clear n0_; (try clear hb); (try clear hb2); (try clear hk); (try clear hi)) | ((with_reducible refine gate_callee (f := 38) rfl ?_); refine goesL_ (some 16) rfl rfl Try.func38 (by kernel_rfl) rfl #[.int .i64 t216, .int .i64 t217] rfl (by (try simp only [List.map_toArray, List.map_cons, List.map_nil]); first | done | rfl | (simp only [List.length_drop, List.length_take]; rfl)) ?_; (with_reducible refine (impl_OverPeriod.calls k t216 t217 t218 _ A4.out).mono ?_); rintro e w9 ⟨rfl, hb⟩; refine ⟨_, rfl, ?_⟩; have n0_ := Aside0.mk (below_step (by repeat (first | (with_reducible first | exact HB.out | apply below_alloc | apply pw_below_drewN | apply below_drew1) | exact HB.out)) hb); clear HB; have HB := n0_; clear n0_; (try clear hb); (try clear hb2); (try clear hk); (try clear hi)) | ((with_reducible refine gate_callee (f := 37) rfl ?_); refine goesL_ (some 20) rfl rfl Try.func37 (by kernel_rfl) rfl #[.int .i64 t216, .int .i64 t217] rfl (by (try simp only [List.map_toArray, List.map_cons, List.map_nil]); first | done | rfl | (simp only [List.length_drop, List.length_take]; rfl)) ?_; (with_reducible refine (spec_OverPeriod.calls k t216 t217 t219 _ A5.out).mono ?_); rintro e w10 ⟨rfl, hb⟩; refine ⟨_, rfl, ?_⟩; have n0_ := Aside0.mk (below_step (by repeat (first | (with_reducible first | exact HB.out | apply below_alloc | apply pw_below_drewN | apply below_drew1) | exact HB.out)) hb); clear HB; have HB := n0_; clear n0_; (try clear hb); (try clear hb2); (try clear hk); (try clear hi)))
      (try simp only [Act.put, List.setIfInBounds_toArray, List.set_cons_zero, List.set_cons_succ])
      go_cut [35] (fun v35 wc => ∃ (kq : Nat) (x35_6 : Bool), v35 = .bool x35_6 ∧ Aside0 (laws_FnOverPeriod.j0 kq t216 t217 t218 x35_6 = some r) ∧ Aside0 (kq ≤ k) ∧ Aside0 (Below w.heap.size w wc))
      case first =>
        have H := HC7.out
        clear HC7
        by_cases c11 : t216 < 1
        · rw [if_pos c11] at H
          have c11b0 : decide (t216 < 1) = true := decide_eq_true c11
          clear c11
          (first | rw [c11b0] | (simp only [i64_w, i32_w]; rw [c11b0]) | skip)
          have H' := Aside0.mk H
          clear H
          go_wp2
          go_meet
          case rel => exact ⟨_, (true), (by first | rfl | (simp; done) | (simp [*]; done)), H', ⟨by first | omega | exact Nat.le_refl _⟩, ⟨by repeat (first | (with_reducible first | exact HB.out | apply below_alloc | apply pw_below_drewN | apply below_drew1) | exact HB.out)⟩⟩
        · rw [if_neg c11] at H
          have c11b0 : decide (t216 < 1) = false := decide_eq_false c11
          clear c11
          (first | rw [c11b0] | (simp only [i64_w, i32_w]; rw [c11b0]) | skip)
          by_cases c12 : t216 > 30
          · rw [if_pos c12] at H
            have c12b0 : decide (30 < t216) = true := decide_eq_true c12
            clear c12
            have H' := Aside0.mk H
            clear H
            go_wp2
            go_meet
            case rel => exact ⟨_, (true), (by first | rfl | (simp; done) | (simp [*]; done)), H', ⟨by first | omega | exact Nat.le_refl _⟩, ⟨by repeat (first | (with_reducible first | exact HB.out | apply below_alloc | apply pw_below_drewN | apply below_drew1) | exact HB.out)⟩⟩
          · rw [if_neg c12] at H
            have c12b0 : decide (30 < t216) = false := decide_eq_false c12
            clear c12
            by_cases c13 : t217 < 1
            · rw [if_pos c13] at H
              have c13b0 : decide (t217 < 1) = true := decide_eq_true c13
              clear c13
              have H' := Aside0.mk H
              clear H
              go_wp2
              go_meet
              case rel => exact ⟨_, (true), (by first | rfl | (simp; done) | (simp [*]; done)), H', ⟨by first | omega | exact Nat.le_refl _⟩, ⟨by repeat (first | (with_reducible first | exact HB.out | apply below_alloc | apply pw_below_drewN | apply below_drew1) | exact HB.out)⟩⟩
            · rw [if_neg c13] at H
              have c13b0 : decide (t217 < 1) = false := decide_eq_false c13
              clear c13
              have H' := Aside0.mk H
              clear H
              go_wp2
              go_meet
              case rel => exact ⟨_, (decide (t217 > 30)), (by first | rfl | (simp; done) | (simp [*]; done)), H', ⟨by first | omega | exact Nat.le_refl _⟩, ⟨by repeat (first | (with_reducible first | exact HB.out | apply below_alloc | apply pw_below_drewN | apply below_drew1) | exact HB.out)⟩⟩
      case rest =>
        clear HC7
        try clear c1
        try clear c2
        try clear c2b0
        try clear c2b1
        try clear p2
        try clear c3
        try clear c4
        try clear c6
        try clear c6b0
        try clear c6b1
        try clear c11
        try clear c11b0
        try clear c12
        try clear c12b0
        try clear c13
        try clear c13b0
        obtain ⟨kq, x35_6, rfl, HA, HJ6, HB⟩ := hcut
        cases kq with
        | zero => exact absurd HA.out (by simp [laws_FnOverPeriod.j0])
        | succ kj6 =>
          have H := HA.out
          clear HA
          simp only [laws_FnOverPeriod.j0] at H
          by_cases c14 : x35_6 = true
          · subst c14
            have H1 : (if t218 = 0 then ((laws_alive.f).bind fun t220 => (some t220)) else (some false)) = some r := by rw [if_pos rfl] at H; exact H
            clear H
            have H := H1
            clear H1
            by_cases c15 : t218 = 0
            · rw [if_pos c15] at H
              have c15b0 : (t218 == 0) = true := beq_iff_eq.mpr c15
              have c15b1 : (t218 != 0) = false := bne_eq_false_iff_eq.mpr c15
              clear c15
              replace H := Option.bind_eq_some_iff.mp H
              obtain ⟨t220, A160, H⟩ := H
              replace H : (some t220) = some r := H
              have A16 := Aside0.mk A160
              clear A160
              obtain rfl := Option.some.inj H
              go_wp2_with (first | (go_at_call 18; (with_reducible refine (laws_alive.calls  t220 _ A16.out).mono ?_); rintro e w' ⟨rfl, ⟨nd, rfl⟩⟩))
              go_ret
              exact ⟨by first | rfl | (simp [errW_none, errW_some] <;> rfl) | (simp [*, errW_none, errW_some] <;> rfl), by repeat (first | (with_reducible first | exact HB.out | apply below_alloc | apply pw_below_drewN | apply below_drew1) | exact HB.out)⟩
            · rw [if_neg c15] at H
              have c15b0 : (t218 == 0) = false := beq_eq_false_iff_ne.mpr c15
              have c15b1 : (t218 != 0) = true := bne_iff_ne.mpr c15
              obtain rfl := Option.some.inj H
              go_wp2
              go_ret
              exact ⟨by first | rfl | (simp [errW_none, errW_some] <;> rfl) | (simp [*, errW_none, errW_some] <;> rfl), by repeat (first | (with_reducible first | exact HB.out | apply below_alloc | apply pw_below_drewN | apply below_drew1) | exact HB.out)⟩
          · replace c14 := Bool.eq_false_iff.mpr c14
            subst c14
            have H1 : (if t216 = t217 then ((impl_HowManyApart.f kj6 t216).bind fun t221 => (if t218 = (wrap64 ((wrap64 (t216 * t216)) * t221)) then ((impl_OverPeriod.f kj6 2 2).bind fun t222 => (some (t222 == 4))) else (some false))) else (if t218 = 0 then ((impl_OverPeriod.f kj6 2 2).bind fun t223 => (some (t223 == 4))) else (some false))) = some r := by rw [if_neg (show ¬ (false = true) by decide)] at H; exact H
            clear H
            have H := H1
            clear H1
            by_cases c17 : t216 = t217
            · rw [if_pos c17] at H
              have c17b0 : (t216 == t217) = true := beq_iff_eq.mpr c17
              have c17b1 : (t216 != t217) = false := bne_eq_false_iff_eq.mpr c17
              clear c17
              replace H := Option.bind_eq_some_iff.mp H
              obtain ⟨t221, A180, H⟩ := H
              replace H : (if t218 = (wrap64 ((wrap64 (t216 * t216)) * t221)) then ((impl_OverPeriod.f kj6 2 2).bind fun t222 => (some (t222 == 4))) else (some false)) = some r := H
              have A18 := Aside0.mk A180
              clear A180
              by_cases c19 : t218 = (wrap64 ((wrap64 (t216 * t216)) * t221))
              · rw [if_pos c19] at H
                have c19b0 : (t218 == (wrap64 ((wrap64 (t216 * t216)) * t221))) = true := beq_iff_eq.mpr c19
                have c19b1 : (t218 != (wrap64 ((wrap64 (t216 * t216)) * t221))) = false := bne_eq_false_iff_eq.mpr c19
                clear c19
                replace H := Option.bind_eq_some_iff.mp H
                obtain ⟨t222, A200, H⟩ := H
                replace H : (some (t222 == 4)) = some r := H
                have A20 := Aside0.mk A200
                clear A200
                obtain rfl := Option.some.inj H
                go_wp2_with (first | (go_at_call 44; (with_reducible refine (impl_HowManyApart.calls kj6 t216 t221 _ A18.out).mono ?_); rintro e w21 ⟨rfl, hb⟩; have n0_ := Aside0.mk (below_step (by repeat (first | (with_reducible first | exact HB.out | apply below_alloc | apply pw_below_drewN | apply below_drew1) | exact HB.out)) hb); clear HB; have HB := n0_; clear n0_; (try clear hb); (try clear hb2); (try clear hk); (try clear hi)) | (go_at_call 38; (with_reducible refine (impl_OverPeriod.calls kj6 2 2 t222 _ A20.out).mono ?_); rintro e w22 ⟨rfl, hb⟩; have n0_ := Aside0.mk (below_step (by repeat (first | (with_reducible first | exact HB.out | apply below_alloc | apply pw_below_drewN | apply below_drew1) | exact HB.out)) hb); clear HB; have HB := n0_; clear n0_; (try clear hb); (try clear hb2); (try clear hk); (try clear hi)))
                go_ret
                exact ⟨by first | rfl | (simp [errW_none, errW_some] <;> rfl) | (simp [*, errW_none, errW_some] <;> rfl), by repeat (first | (with_reducible first | exact HB.out | apply below_alloc | apply pw_below_drewN | apply below_drew1) | exact HB.out)⟩
              · rw [if_neg c19] at H
                have c19b0 : (t218 == (wrap64 ((wrap64 (t216 * t216)) * t221))) = false := beq_eq_false_iff_ne.mpr c19
                have c19b1 : (t218 != (wrap64 ((wrap64 (t216 * t216)) * t221))) = true := bne_iff_ne.mpr c19
                obtain rfl := Option.some.inj H
                go_wp2_with (first | (go_at_call 44; (with_reducible refine (impl_HowManyApart.calls kj6 t216 t221 _ A18.out).mono ?_); rintro e w23 ⟨rfl, hb⟩; have n0_ := Aside0.mk (below_step (by repeat (first | (with_reducible first | exact HB.out | apply below_alloc | apply pw_below_drewN | apply below_drew1) | exact HB.out)) hb); clear HB; have HB := n0_; clear n0_; (try clear hb); (try clear hb2); (try clear hk); (try clear hi)))
                go_ret
                exact ⟨by first | rfl | (simp [errW_none, errW_some] <;> rfl) | (simp [*, errW_none, errW_some] <;> rfl), by repeat (first | (with_reducible first | exact HB.out | apply below_alloc | apply pw_below_drewN | apply below_drew1) | exact HB.out)⟩
            · rw [if_neg c17] at H
              have c17b0 : (t216 == t217) = false := beq_eq_false_iff_ne.mpr c17
              have c17b1 : (t216 != t217) = true := bne_iff_ne.mpr c17
              by_cases c24 : t218 = 0
              · rw [if_pos c24] at H
                have c24b0 : (t218 == 0) = true := beq_iff_eq.mpr c24
                have c24b1 : (t218 != 0) = false := bne_eq_false_iff_eq.mpr c24
                clear c24
                replace H := Option.bind_eq_some_iff.mp H
                obtain ⟨t223, A250, H⟩ := H
                replace H : (some (t223 == 4)) = some r := H
                have A25 := Aside0.mk A250
                clear A250
                obtain rfl := Option.some.inj H
                go_wp2_with (first | (go_at_call 38; (with_reducible refine (impl_OverPeriod.calls kj6 2 2 t223 _ A25.out).mono ?_); rintro e w26 ⟨rfl, hb⟩; have n0_ := Aside0.mk (below_step (by repeat (first | (with_reducible first | exact HB.out | apply below_alloc | apply pw_below_drewN | apply below_drew1) | exact HB.out)) hb); clear HB; have HB := n0_; clear n0_; (try clear hb); (try clear hb2); (try clear hk); (try clear hi)))
                go_ret
                exact ⟨by first | rfl | (simp [errW_none, errW_some] <;> rfl) | (simp [*, errW_none, errW_some] <;> rfl), by repeat (first | (with_reducible first | exact HB.out | apply below_alloc | apply pw_below_drewN | apply below_drew1) | exact HB.out)⟩
              · rw [if_neg c24] at H
                have c24b0 : (t218 == 0) = false := beq_eq_false_iff_ne.mpr c24
                have c24b1 : (t218 != 0) = true := bne_iff_ne.mpr c24
                obtain rfl := Option.some.inj H
                go_wp2
                go_ret
                exact ⟨by first | rfl | (simp [errW_none, errW_some] <;> rfl) | (simp [*, errW_none, errW_some] <;> rfl), by repeat (first | (with_reducible first | exact HB.out | apply below_alloc | apply pw_below_drewN | apply below_drew1) | exact HB.out)⟩
    · rw [if_neg c6] at H
      have c6b0 : (t218 == t219) = false := beq_eq_false_iff_ne.mpr c6
      have c6b1 : (t218 != t219) = true := bne_iff_ne.mpr c6
      obtain rfl := Option.some.inj H
      go_enter Try.func14, Try.ntmps14
      go_wp2_with (first | ((with_reducible refine gate_callee (f := 45) rfl ?_); refine goesL_ (some 11) rfl rfl Try.func45 (by kernel_rfl) rfl #[.slice A0 l0.length c0] rfl (by (try simp only [List.map_toArray, List.map_cons, List.map_nil]); first | done | rfl | (simp only [List.length_drop, List.length_take]; rfl)) ?_; (with_reducible refine (spec_DrawOverPeriod.calls k _ _ l0 t216 t217 _ ?side1 ?side2 A3.out).mono ?_); (case side1 => repeat (first | exact HR0.out | (with_reducible refine Kd.C_alloc ?_ _) | (with_reducible refine Kd.C_drewN ?_ _) | (with_reducible refine Kd.C_drew ?_))); (case side2 => exact HC0.out); rintro e w27 ⟨rfl, hb⟩; refine ⟨_, rfl, ?_⟩; have n0_ := Aside0.mk (below_step (by repeat (first | (with_reducible first | exact HB.out | apply below_alloc | apply pw_below_drewN | apply below_drew1) | exact HB.out)) hb); clear HB; have HB := n0_; clear n0_; (try clear hb); (try clear hb2); (try clear hk); (try clear hi)) | ((with_reducible refine gate_callee (f := 38) rfl ?_); refine goesL_ (some 16) rfl rfl Try.func38 (by kernel_rfl) rfl #[.int .i64 t216, .int .i64 t217] rfl (by (try simp only [List.map_toArray, List.map_cons, List.map_nil]); first | done | rfl | (simp only [List.length_drop, List.length_take]; rfl)) ?_; (with_reducible refine (impl_OverPeriod.calls k t216 t217 t218 _ A4.out).mono ?_); rintro e w28 ⟨rfl, hb⟩; refine ⟨_, rfl, ?_⟩; have n0_ := Aside0.mk (below_step (by repeat (first | (with_reducible first | exact HB.out | apply below_alloc | apply pw_below_drewN | apply below_drew1) | exact HB.out)) hb); clear HB; have HB := n0_; clear n0_; (try clear hb); (try clear hb2); (try clear hk); (try clear hi)) | ((with_reducible refine gate_callee (f := 37) rfl ?_); refine goesL_ (some 20) rfl rfl Try.func37 (by kernel_rfl) rfl #[.int .i64 t216, .int .i64 t217] rfl (by (try simp only [List.map_toArray, List.map_cons, List.map_nil]); first | done | rfl | (simp only [List.length_drop, List.length_take]; rfl)) ?_; (with_reducible refine (spec_OverPeriod.calls k t216 t217 t219 _ A5.out).mono ?_); rintro e w29 ⟨rfl, hb⟩; refine ⟨_, rfl, ?_⟩; have n0_ := Aside0.mk (below_step (by repeat (first | (with_reducible first | exact HB.out | apply below_alloc | apply pw_below_drewN | apply below_drew1) | exact HB.out)) hb); clear HB; have HB := n0_; clear n0_; (try clear hb); (try clear hb2); (try clear hk); (try clear hi)))
      go_ret
      exact ⟨by first | rfl | (simp [errW_none, errW_some] <;> rfl) | (simp [*, errW_none, errW_some] <;> rfl), by repeat (first | (with_reducible first | exact HB.out | apply below_alloc | apply pw_below_drewN | apply below_drew1) | exact HB.out)⟩

/-- THE ONE PURE STATEMENT of laws_FnOverPeriod: yours. -/
def laws_FnOverPeriod.Pure : Prop := ∀ (l0 : List Int), l0.length ≤ maxLen → l0.length * 1 ≤ 140737488351232 → (∀ x ∈ l0, (Lit.int .u8 x).wf = true) → ∃ k, laws_FnOverPeriod.f k l0 = some true
theorem laws_FnOverPeriod.walk (P : laws_FnOverPeriod.Pure) (a0 : Option Addr) (len0 cap0 : Nat) (z0 : List Int) (w : World) (w0 : (a0 = none ∧ len0 = 0 ∧ cap0 = 0 ∧ z0 = []) ∨ ∃ x, a0 = some x ∧ len0 ≤ cap0 ∧ cap0 ≤ maxLen ∧ z0.length = cap0 ∧ (∀ i, i < z0.length → w.cell? (x.add i) = some (.int .u8 (z0.getD i 0))) ∧ ∀ n ∈ z0, (Lit.int .u8 n).wf = true) (y0 : len0 * 1 ≤ 140737488351232) :
    Calls Try.prog 14 #[.slice a0 len0 cap0] w fun e w' => e = .returned (.bool true) ∧ Below w.heap.size w w' := by
  obtain ⟨l0, rfl, hr0, hm0, hw0, hc0⟩ := ReadsInt.ofRowC w0
  obtain ⟨k, h⟩ := P l0 hm0 y0 hw0
  refine (laws_FnOverPeriod.calls k _ _ l0 true w (Kd.C_of_reads (d := (0 : Int)) (h1 := fun _ => rfl) hr0) hc0 h).mono ?_
  rintro e w' ⟨rfl, hd⟩
  exact ⟨rfl, hd⟩

end Go.Proofs.Ytijgepnmcoicgaa.PFnOverPeriod
