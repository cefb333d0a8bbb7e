-- PRINTED BY print.sh 35421559b90ae4d0a3588c463048766b98c2df88dd9212a6774a882060cdf62d: not written by this session
import Derived.Test.YtijgepnmcoicgaaPFnSumForx0
import Derived.Test.YtijgepnmcoicgaaPFnSumForx1
import Derived.Test.YtijgepnmcoicgaaPFnSumForx3
import Derived.Test.YtijgepnmcoicgaaPFnSumForx4
import Derived.Test.YtijgepnmcoicgaaPFnSumForx5
namespace Go.Proofs.Ytijgepnmcoicgaa.PFnSumFor
open Go.RowKit Go.Proofs.YtijgepnmcoicgaaW.PrintWords Go.Proofs.YtijgepnmcoicgaaW.PrintLast Go.Proofs.YtijgepnmcoicgaaW.PrintMore
attribute [local go_sem] max2_int min2_int max_two min_two max_three min_three max_four min_four   -- for this text's walks alone
set_option linter.unusedVariables false
set_option linter.unusedSimpArgs false

/-! ### laws_FnSumFor: function 13 -/
mutual
def laws_FnSumFor.j0 : Nat → Int → Int → Int → Bool → Option (Bool)
  | 0, _, _, _, _ => none
  | k + 1, x3, x4, x5, x37 => if x37 = true then (if x5 = 0 then ((laws_alive.f).bind fun t238 => (some t238)) else (some false)) else (laws_FnSumFor.l0 k x3 x4 x5 0 1)
def laws_FnSumFor.l0 : Nat → Int → Int → Int → Int → Int → Option (Bool)
  | 0, _, _, _, _, _ => none
  | k + 1, x3, x4, x5, x6, x7 => if x7 ≤ x3 then ((impl_SumFor.f k x3 x7).bind fun t239 => (laws_FnSumFor.l0 k x3 x4 x5 (wrap64 (x6 + t239)) (wrap64 (x7 + 1)))) else (if (wrap64 (x4 + x3)) > 10000 then (if ((x6 == 1) == (x3 == 1)) = true then (if ((x6 == 0) == (decide (x3 > 1))) = true then ((impl_SumFor.f k x3 x3).bind fun t240 => ((impl_HowManyApart.f k x3).bind fun t241 => (if t240 = t241 then ((impl_SumFor.f k x3 1).bind fun t242 => ((impl_SignOf.f k x3).bind fun t243 => (some (t242 == t243)))) else (some false)))) else (some false)) else (some false)) else ((impl_SumFor.f k x3 (wrap64 (x4 + x3))).bind fun t244 => (if t244 = x5 then (if ((x6 == 1) == (x3 == 1)) = true then (if ((x6 == 0) == (decide (x3 > 1))) = true then ((impl_SumFor.f k x3 x3).bind fun t245 => ((impl_HowManyApart.f k x3).bind fun t246 => (if t245 = t246 then ((impl_SumFor.f k x3 1).bind fun t247 => ((impl_SignOf.f k x3).bind fun t248 => (some (t247 == t248)))) else (some false)))) else (some false)) else (some false)) else (some false))))
end
def laws_FnSumFor.f (k : Nat) (l0 : List Int) : Option (Bool) := if (l0.length : Int) > 1048576 then (some true) else ((spec_DrawSumFor.f k l0).bind fun bt234 => ((impl_SumFor.f k bt234.1 bt234.2).bind fun t236 => ((spec_SumFor.f k bt234.1 bt234.2).bind fun t237 => (if t236 = t237 then (if bt234.1 < 1 then (laws_FnSumFor.j0 k bt234.1 bt234.2 t236 true) else (if bt234.1 > 60 then (laws_FnSumFor.j0 k bt234.1 bt234.2 t236 true) else (if bt234.2 < 1 then (laws_FnSumFor.j0 k bt234.1 bt234.2 t236 true) else (laws_FnSumFor.j0 k bt234.1 bt234.2 t236 (decide (bt234.2 > 10000)))))) else (some false)))))
theorem laws_FnSumFor.mono_l : ∀ k, (∀ y0 y1 y2 y3, LeO (laws_FnSumFor.j0 k y0 y1 y2 y3) (laws_FnSumFor.j0 (k + 1) y0 y1 y2 y3)) ∧ (∀ y0 y1 y2 y3 y4, LeO (laws_FnSumFor.l0 k y0 y1 y2 y3 y4) (laws_FnSumFor.l0 (k + 1) y0 y1 y2 y3 y4))
  | 0 => ⟨fun _ _ _ _ r h => by simp [laws_FnSumFor.j0] at h, fun _ _ _ _ _ r h => by simp [laws_FnSumFor.l0] at h⟩
  | k + 1 => by
    obtain ⟨ih0, ih1⟩ := laws_FnSumFor.mono_l k
    refine ⟨?_, ?_⟩
    · intro y0 y1 y2 y3
      unfold laws_FnSumFor.j0
      repeat' first
      | (with_reducible exact ih0 _ _ _ _)
      | (with_reducible exact ih1 _ _ _ _ _)
      | (with_reducible exact impl_HowManyApart.mono _ _)
      | (with_reducible exact impl_SignOf.mono _ _)
      | (with_reducible exact impl_SumFor.mono _ _ _)
      | (with_reducible exact spec_DrawSumFor.mono _ _)
      | (with_reducible exact spec_SumFor.mono _ _ _)
      | (with_reducible exact LeO.refl _)
      | (with_reducible exact LeO.none _)
      | (with_reducible refine LeO.ite ?_ ?_)
      | (with_reducible refine LeO.bind ?_ (fun _ => ?_))
      | exact ih0 _ _ _ _
      | exact ih1 _ _ _ _ _
      | exact impl_HowManyApart.mono _ _
      | exact impl_SignOf.mono _ _
      | exact impl_SumFor.mono _ _ _
      | exact spec_DrawSumFor.mono _ _
      | exact spec_SumFor.mono _ _ _
      | exact LeO.none _
      | refine LeO.ite ?_ ?_
      | refine LeO.bind ?_ (fun _ => ?_)
    · intro y0 y1 y2 y3 y4
      unfold laws_FnSumFor.l0
      repeat' first
      | (with_reducible exact ih0 _ _ _ _)
      | (with_reducible exact ih1 _ _ _ _ _)
      | (with_reducible exact impl_HowManyApart.mono _ _)
      | (with_reducible exact impl_SignOf.mono _ _)
      | (with_reducible exact impl_SumFor.mono _ _ _)
      | (with_reducible exact spec_DrawSumFor.mono _ _)
      | (with_reducible exact spec_SumFor.mono _ _ _)
      | (with_reducible exact LeO.refl _)
      | (with_reducible exact LeO.none _)
      | (with_reducible refine LeO.ite ?_ ?_)
      | (with_reducible refine LeO.bind ?_ (fun _ => ?_))
      | exact ih0 _ _ _ _
      | exact ih1 _ _ _ _ _
      | exact impl_HowManyApart.mono _ _
      | exact impl_SignOf.mono _ _
      | exact impl_SumFor.mono _ _ _
      | exact spec_DrawSumFor.mono _ _
      | exact spec_SumFor.mono _ _ _
      | exact LeO.none _
      | refine LeO.ite ?_ ?_
      | refine LeO.bind ?_ (fun _ => ?_)
theorem laws_FnSumFor.mono : ∀ a0 k, LeO (laws_FnSumFor.f k a0) (laws_FnSumFor.f (k + 1) a0) := by
  intro a0 k
  obtain ⟨ih0, ih1⟩ := laws_FnSumFor.mono_l k
  unfold laws_FnSumFor.f
  repeat' first
      | (with_reducible exact ih0 _ _ _ _)
      | (with_reducible exact ih1 _ _ _ _ _)
      | (with_reducible exact impl_HowManyApart.mono _ _)
      | (with_reducible exact impl_SignOf.mono _ _)
      | (with_reducible exact impl_SumFor.mono _ _ _)
      | (with_reducible exact spec_DrawSumFor.mono _ _)
      | (with_reducible exact spec_SumFor.mono _ _ _)
      | (with_reducible exact LeO.refl _)
      | (with_reducible exact LeO.none _)
      | (with_reducible refine LeO.ite ?_ ?_)
      | (with_reducible refine LeO.bind ?_ (fun _ => ?_))
      | exact ih0 _ _ _ _
      | exact ih1 _ _ _ _ _
      | exact impl_HowManyApart.mono _ _
      | exact impl_SignOf.mono _ _
      | exact impl_SumFor.mono _ _ _
      | exact spec_DrawSumFor.mono _ _
      | exact spec_SumFor.mono _ _ _
      | exact LeO.none _
      | refine LeO.ite ?_ ?_
      | refine LeO.bind ?_ (fun _ => ?_)
set_option maxHeartbeats 8000000 in
set_option maxRecDepth 100000 in
theorem laws_FnSumFor.calls (k : Nat) (A0 : Option Addr) (c0 : Nat) (l0 : List Int) (r : Bool) (w : World) (hr0 : Kd.C (Kd.int .u8) w A0 l0.length l0) (hc0 : l0.length ≤ c0) (h : laws_FnSumFor.f k l0 = some r) :
    Calls Try.prog 13 #[.slice A0 l0.length c0] w fun e w' => e = .returned (.bool r) ∧ Below w.heap.size w w' := by
  have HR0 := Aside0.mk hr0
  have HC0 := Aside0.mk hc0
  clear hr0 hc0
  have HB := Aside0.mk (Below.refl w.heap.size w)
  have H : (if (l0.length : Int) > 1048576 then (some true) else ((spec_DrawSumFor.f k l0).bind fun bt234 => ((impl_SumFor.f k bt234.1 bt234.2).bind fun t236 => ((spec_SumFor.f k bt234.1 bt234.2).bind fun t237 => (if t236 = t237 then (if bt234.1 < 1 then (laws_FnSumFor.j0 k bt234.1 bt234.2 t236 true) else (if bt234.1 > 60 then (laws_FnSumFor.j0 k bt234.1 bt234.2 t236 true) else (if bt234.2 < 1 then (laws_FnSumFor.j0 k bt234.1 bt234.2 t236 true) else (laws_FnSumFor.j0 k bt234.1 bt234.2 t236 (decide (bt234.2 > 10000)))))) else (some false)))))) = some r := h
  clear h
  by_cases c2 : (l0.length : Int) > 1048576
  · rw [if_pos c2] at H
    have c2b0 : decide (1048576 < (l0.length : Int)) = true := decide_eq_true c2
    have c2b1 : decide (1048576 < l0.length) = true := decide_eq_true (by omega)
    clear c2
    obtain rfl := Option.some.inj H
    go_enter Try.func13, Try.ntmps13
    go_wp2
    go_ret
    exact ⟨by first | rfl | (simp [errW_none, errW_some] <;> rfl) | (simp [*, errW_none, errW_some] <;> rfl), by repeat (first | (with_reducible first | exact HB.out | apply below_alloc | apply pw_below_drewN | apply below_drew1) | exact HB.out)⟩
  · rw [if_neg c2] at H
    have c2b0 : decide (1048576 < (l0.length : Int)) = false := decide_eq_false c2
    have c2b1 : decide (1048576 < l0.length) = false := decide_eq_false (by omega)
    clear c2
    replace H := Option.bind_eq_some_iff.mp H
    obtain ⟨⟨t234, t235⟩, A30, H⟩ := H
    replace H : ((impl_SumFor.f k t234 t235).bind fun t236 => ((spec_SumFor.f k t234 t235).bind fun t237 => (if t236 = t237 then (if t234 < 1 then (laws_FnSumFor.j0 k t234 t235 t236 true) else (if t234 > 60 then (laws_FnSumFor.j0 k t234 t235 t236 true) else (if t235 < 1 then (laws_FnSumFor.j0 k t234 t235 t236 true) else (laws_FnSumFor.j0 k t234 t235 t236 (decide (t235 > 10000)))))) else (some false)))) = some r := H
    have A3 := Aside0.mk A30
    clear A30
    replace H := Option.bind_eq_some_iff.mp H
    obtain ⟨t236, A40, H⟩ := H
    replace H : ((spec_SumFor.f k t234 t235).bind fun t237 => (if t236 = t237 then (if t234 < 1 then (laws_FnSumFor.j0 k t234 t235 t236 true) else (if t234 > 60 then (laws_FnSumFor.j0 k t234 t235 t236 true) else (if t235 < 1 then (laws_FnSumFor.j0 k t234 t235 t236 true) else (laws_FnSumFor.j0 k t234 t235 t236 (decide (t235 > 10000)))))) else (some false))) = some r := H
    have A4 := Aside0.mk A40
    clear A40
    replace H := Option.bind_eq_some_iff.mp H
    obtain ⟨t237, A50, H⟩ := H
    replace H : (if t236 = t237 then (if t234 < 1 then (laws_FnSumFor.j0 k t234 t235 t236 true) else (if t234 > 60 then (laws_FnSumFor.j0 k t234 t235 t236 true) else (if t235 < 1 then (laws_FnSumFor.j0 k t234 t235 t236 true) else (laws_FnSumFor.j0 k t234 t235 t236 (decide (t235 > 10000)))))) else (some false)) = some r := H
    have A5 := Aside0.mk A50
    clear A50
    by_cases c6 : t236 = t237
    · rw [if_pos c6] at H
      have c6b0 : (t236 == t237) = true := beq_iff_eq.mpr c6
      have c6b1 : (t236 != t237) = false := bne_eq_false_iff_eq.mpr c6
      clear c6
      have HC7 := Aside0.mk H
      clear H
      go_enter Try.func13, Try.ntmps13
      go_upto_region 7 with (first | ((with_reducible refine gate_callee (f := 43) rfl ?_); refine goesL_ (some 13) rfl rfl Try.func43 (by kernel_rfl) rfl #[.slice A0 l0.length c0] rfl (by (try simp only [List.map_toArray, List.map_cons, List.map_nil]); first | done | rfl | (simp only [List.length_drop, List.length_take]; rfl)) ?_; (with_reducible refine (spec_DrawSumFor.calls k _ _ l0 t234 t235 _ ?side1 ?side2 A3.out).mono ?_); (case side1 => repeat (first | exact HR0.out | (with_reducible refine Kd.C_alloc ?_ _) | (with_reducible refine Kd.C_drewN ?_ _) | (with_reducible refine Kd.C_drew ?_))); (case side2 => exact HC0.out); rintro e w8 ⟨rfl, hb⟩; refine ⟨_, rfl, ?_⟩; have n0_ := Aside0.mk (below_step (by repeat (first | (with_reducible first | exact HB.out | apply below_alloc | apply pw_below_drewN | apply below_drew1) | exact HB.out)) hb); clear HB; have HB := n0_; clear n0_; (try clear hb); (try clear hb2); (try clear hk); (try clear hi)) | ((with_reducible refine gate_callee (f := 36) rfl ?_); refine goesL_ (some 18) rfl rfl Try.func36 (by kernel_rfl) rfl #[.int .i64 t234, .int .i64 t235] rfl (by (try simp only [List.map_toArray, List.map_cons, List.map_nil]); first | done | rfl | (simp only [List.length_drop, List.length_take]; rfl)) ?_; (with_reducible refine (impl_SumFor.calls k t234 t235 t236 _ A4.out).mono ?_); rintro e w9 ⟨rfl, hb⟩; refine ⟨_, rfl, ?_⟩; have n0_ := Aside0.mk (below_step (by repeat (first | (with_reducible first | exact HB.out | apply below_alloc | apply pw_below_drewN | apply below_drew1) | exact HB.out)) hb); clear HB; have HB := n0_; clear n0_; (try clear hb); (try clear hb2); (try clear hk); (try clear hi)) | ((with_reducible refine gate_callee (f := 35) rfl ?_); refine goesL_ (some 22) rfl rfl Try.func35 (by kernel_rfl) rfl #[.int .i64 t234, .int .i64 t235] rfl (by (try simp only [List.map_toArray, List.map_cons, List.map_nil]); first | done | rfl | (simp only [List.length_drop, List.length_take]; rfl)) ?_; (with_reducible refine (spec_SumFor.calls k t234 t235 t237 _ A5.out).mono ?_); rintro e w10 ⟨rfl, hb⟩; refine ⟨_, rfl, ?_⟩; have n0_ := Aside0.mk (below_step (by repeat (first | (with_reducible first | exact HB.out | apply below_alloc | apply pw_below_drewN | apply below_drew1) | exact HB.out)) hb); clear HB; have HB := n0_; clear n0_; (try clear hb); (try clear hb2); (try clear hk); (try clear hi)))
      (try simp only [Act.put, List.setIfInBounds_toArray, List.set_cons_zero, List.set_cons_succ])
      go_cut [37] (fun v37 wc => ∃ (kq : Nat) (x37_6 : Bool), v37 = .bool x37_6 ∧ Aside0 (laws_FnSumFor.j0 kq t234 t235 t236 x37_6 = some r) ∧ Aside0 (kq ≤ k) ∧ Aside0 (Below w.heap.size w wc))
      case first =>
        have H := HC7.out
        clear HC7
        by_cases c11 : t234 < 1
        · rw [if_pos c11] at H
          have c11b0 : decide (t234 < 1) = true := decide_eq_true c11
          clear c11
          (first | rw [c11b0] | (simp only [i64_w, i32_w]; rw [c11b0]) | skip)
          have H' := Aside0.mk H
          clear H
          go_wp2
          go_meet
          case rel => exact ⟨_, (true), (by first | rfl | (simp; done) | (simp [*]; done)), H', ⟨by first | omega | exact Nat.le_refl _⟩, ⟨by repeat (first | (with_reducible first | exact HB.out | apply below_alloc | apply pw_below_drewN | apply below_drew1) | exact HB.out)⟩⟩
        · rw [if_neg c11] at H
          have c11b0 : decide (t234 < 1) = false := decide_eq_false c11
          clear c11
          (first | rw [c11b0] | (simp only [i64_w, i32_w]; rw [c11b0]) | skip)
          by_cases c12 : t234 > 60
          · rw [if_pos c12] at H
            have c12b0 : decide (60 < t234) = true := decide_eq_true c12
            clear c12
            have H' := Aside0.mk H
            clear H
            go_wp2
            go_meet
            case rel => exact ⟨_, (true), (by first | rfl | (simp; done) | (simp [*]; done)), H', ⟨by first | omega | exact Nat.le_refl _⟩, ⟨by repeat (first | (with_reducible first | exact HB.out | apply below_alloc | apply pw_below_drewN | apply below_drew1) | exact HB.out)⟩⟩
          · rw [if_neg c12] at H
            have c12b0 : decide (60 < t234) = false := decide_eq_false c12
            clear c12
            by_cases c13 : t235 < 1
            · rw [if_pos c13] at H
              have c13b0 : decide (t235 < 1) = true := decide_eq_true c13
              clear c13
              have H' := Aside0.mk H
              clear H
              go_wp2
              go_meet
              case rel => exact ⟨_, (true), (by first | rfl | (simp; done) | (simp [*]; done)), H', ⟨by first | omega | exact Nat.le_refl _⟩, ⟨by repeat (first | (with_reducible first | exact HB.out | apply below_alloc | apply pw_below_drewN | apply below_drew1) | exact HB.out)⟩⟩
            · rw [if_neg c13] at H
              have c13b0 : decide (t235 < 1) = false := decide_eq_false c13
              clear c13
              have H' := Aside0.mk H
              clear H
              go_wp2
              go_meet
              case rel => exact ⟨_, (decide (t235 > 10000)), (by first | rfl | (simp; done) | (simp [*]; done)), H', ⟨by first | omega | exact Nat.le_refl _⟩, ⟨by repeat (first | (with_reducible first | exact HB.out | apply below_alloc | apply pw_below_drewN | apply below_drew1) | exact HB.out)⟩⟩
      case rest =>
        clear HC7
        try clear c1
        try clear c2
        try clear c2b0
        try clear c2b1
        try clear p2
        try clear c3
        try clear c4
        try clear c6
        try clear c6b0
        try clear c6b1
        try clear c11
        try clear c11b0
        try clear c12
        try clear c12b0
        try clear c13
        try clear c13b0
        obtain ⟨kq, x37_6, rfl, HA, HJ6, HB⟩ := hcut
        cases kq with
        | zero => exact absurd HA.out (by simp [laws_FnSumFor.j0])
        | succ kj6 =>
          have H := HA.out
          clear HA
          simp only [laws_FnSumFor.j0] at H
          by_cases c14 : x37_6 = true
          · subst c14
            have H1 : (if t236 = 0 then ((laws_alive.f).bind fun t238 => (some t238)) else (some false)) = some r := by rw [if_pos rfl] at H; exact H
            clear H
            have H := H1
            clear H1
            by_cases c15 : t236 = 0
            · rw [if_pos c15] at H
              have c15b0 : (t236 == 0) = true := beq_iff_eq.mpr c15
              have c15b1 : (t236 != 0) = false := bne_eq_false_iff_eq.mpr c15
              clear c15
              replace H := Option.bind_eq_some_iff.mp H
              obtain ⟨t238, A160, H⟩ := H
              replace H : (some t238) = some r := H
              have A16 := Aside0.mk A160
              clear A160
              obtain rfl := Option.some.inj H
              go_wp2_with (first | (go_at_call 18; (with_reducible refine (laws_alive.calls  t238 _ A16.out).mono ?_); rintro e w' ⟨rfl, ⟨nd, rfl⟩⟩))
              go_ret
              exact ⟨by first | rfl | (simp [errW_none, errW_some] <;> rfl) | (simp [*, errW_none, errW_some] <;> rfl), by repeat (first | (with_reducible first | exact HB.out | apply below_alloc | apply pw_below_drewN | apply below_drew1) | exact HB.out)⟩
            · rw [if_neg c15] at H
              have c15b0 : (t236 == 0) = false := beq_eq_false_iff_ne.mpr c15
              have c15b1 : (t236 != 0) = true := bne_iff_ne.mpr c15
              obtain rfl := Option.some.inj H
              go_wp2
              go_ret
              exact ⟨by first | rfl | (simp [errW_none, errW_some] <;> rfl) | (simp [*, errW_none, errW_some] <;> rfl), by repeat (first | (with_reducible first | exact HB.out | apply below_alloc | apply pw_below_drewN | apply below_drew1) | exact HB.out)⟩
          · replace c14 := Bool.eq_false_iff.mpr c14
            subst c14
            have H1 : (laws_FnSumFor.l0 kj6 t234 t235 t236 0 1) = some r := by rw [if_neg (show ¬ (false = true) by decide)] at H; exact H
            clear H
            have H := H1
            clear H1
            have H' := Aside0.mk H
            clear H
            go_wp2
            go_loopg [6, 7] kj6 (fun kq v6 v7 w' => ∃ (x6_2 : Int) (x7_2 : Int), v6 = .int .i64 x6_2 ∧ v7 = .int .i64 x7_2 ∧ Aside0 (laws_FnSumFor.l0 kq t234 t235 t236 x6_2 x7_2 = some r) ∧ Aside0 (kq ≤ kj6) ∧ Aside0 (Below w.heap.size w w'))
            case atStart => exact ⟨(0), (1), (by first | rfl | (simp; done) | (simp [*]; done)), (by first | rfl | (simp; done) | (simp [*]; done)), H', ⟨Nat.le_refl _⟩, ⟨by repeat (first | (with_reducible first | exact HB.out | apply below_alloc | apply pw_below_drewN | apply below_drew1) | exact HB.out)⟩⟩
            case round =>
              clear H'
              try clear c1
              try clear c2
              try clear c2b0
              try clear c2b1
              try clear p2
              try clear c3
              try clear c4
              try clear c6
              try clear c6b0
              try clear c6b1
              try clear c11
              try clear c11b0
              try clear c12
              try clear c12b0
              try clear c13
              try clear c13b0
              try clear c14
              try clear c15
              try clear c15b0
              try clear c15b1
              try clear p2
              obtain ⟨x6_2, x7_2, rfl, rfl, HA, HK2, HB⟩ := hrel
              cases gk with
              | zero => exact absurd HA.out (by simp [laws_FnSumFor.l0])
              | succ k2 =>
                have H := HA.out
                clear HA
                simp only [laws_FnSumFor.l0] at H
                by_cases c17 : x7_2 ≤ t234
                · rw [if_pos c17] at H
                  have c17b0 : decide (x7_2 ≤ t234) = true := decide_eq_true c17
                  clear c17
                  replace H := Option.bind_eq_some_iff.mp H
                  obtain ⟨t239, A180, H⟩ := H
                  replace H : (laws_FnSumFor.l0 k2 t234 t235 t236 (wrap64 (x6_2 + t239)) (wrap64 (x7_2 + 1))) = some r := H
                  have A18 := Aside0.mk A180
                  clear A180
                  have H' := Aside0.mk H
                  clear H
                  go_wp2_with (first | ((with_reducible refine gate_callee (f := 36) rfl ?_); refine goesL_ (some 51) rfl rfl Try.func36 (by kernel_rfl) rfl #[.int .i64 t234, .int .i64 x7_2] rfl (by (try simp only [List.map_toArray, List.map_cons, List.map_nil]); first | done | rfl | (simp only [List.length_drop, List.length_take]; rfl)) ?_; (with_reducible refine (impl_SumFor.calls k2 t234 x7_2 t239 _ A18.out).mono ?_); rintro e w19 ⟨rfl, hb⟩; refine ⟨_, rfl, ?_⟩; have n0_ := Aside0.mk (below_step (by repeat (first | (with_reducible first | exact HB.out | apply below_alloc | apply pw_below_drewN | apply below_drew1) | exact HB.out)) hb); clear HB; have HB := n0_; clear n0_; (try clear hb); (try clear hb2); (try clear hk); (try clear hi)))
                  go_roundg k2
                  case measure => have := HJ6.out; have := HK2.out; omega
                  case rel => exact ⟨(wrap64 (x6_2 + t239)), (wrap64 (x7_2 + 1)), (by first | rfl | (simp; done) | (simp [*]; done)), (by first | rfl | (simp; done) | (simp [*]; done)), H', ⟨by have := HJ6.out; have := HK2.out; omega⟩, ⟨by repeat (first | (with_reducible first | exact HB.out | apply below_alloc | apply pw_below_drewN | apply below_drew1) | exact HB.out)⟩⟩
                · rw [if_neg c17] at H
                  have c17b0 : decide (x7_2 ≤ t234) = false := decide_eq_false c17
                  clear c17
                  by_cases c20 : (wrap64 (t235 + t234)) > 10000
                  · rw [if_pos c20] at H
                    have c20b0 : decide (10000 < (wrap64 (t235 + t234))) = true := decide_eq_true c20
                    clear c20
                    by_cases c21 : ((x6_2 == 1) == (t234 == 1)) = true
                    · rw [if_pos c21] at H
                      have c21b0 : ((x6_2 == 1) == (t234 == 1)) = true := c21
                      (try (have c21b1 : decide ((x6_2 == 1) = (t234 == 1)) = true := by simpa using c21))
                      (try (have c21b2 : ((x6_2 == 1) == (t234 == 1)) = true := by simpa using c21))
                      clear c21
                      by_cases c22 : ((x6_2 == 0) == (decide (t234 > 1))) = true
                      · rw [if_pos c22] at H
                        have c22b0 : ((x6_2 == 0) == (decide (t234 > 1))) = true := c22
                        (try (have c22b1 : decide ((x6_2 == 0) = (decide (t234 > 1))) = true := by simpa using c22))
                        (try (have c22b2 : ((x6_2 == 0) == (decide (t234 > 1))) = true := by simpa using c22))
                        clear c22
                        replace H := Option.bind_eq_some_iff.mp H
                        obtain ⟨t240, A230, H⟩ := H
                        replace H : ((impl_HowManyApart.f k2 t234).bind fun t241 => (if t240 = t241 then ((impl_SumFor.f k2 t234 1).bind fun t242 => ((impl_SignOf.f k2 t234).bind fun t243 => (some (t242 == t243)))) else (some false))) = some r := H
                        have A23 := Aside0.mk A230
                        clear A230
                        replace H := Option.bind_eq_some_iff.mp H
                        obtain ⟨t241, A240, H⟩ := H
                        replace H : (if t240 = t241 then ((impl_SumFor.f k2 t234 1).bind fun t242 => ((impl_SignOf.f k2 t234).bind fun t243 => (some (t242 == t243)))) else (some false)) = some r := H
                        have A24 := Aside0.mk A240
                        clear A240
                        by_cases c25 : t240 = t241
                        · rw [if_pos c25] at H
                          have c25b0 : (t240 == t241) = true := beq_iff_eq.mpr c25
                          have c25b1 : (t240 != t241) = false := bne_eq_false_iff_eq.mpr c25
                          clear c25
                          replace H := Option.bind_eq_some_iff.mp H
                          obtain ⟨t242, A260, H⟩ := H
                          replace H : ((impl_SignOf.f k2 t234).bind fun t243 => (some (t242 == t243))) = some r := H
                          have A26 := Aside0.mk A260
                          clear A260
                          replace H := Option.bind_eq_some_iff.mp H
                          obtain ⟨t243, A270, H⟩ := H
                          replace H : (some (t242 == t243)) = some r := H
                          have A27 := Aside0.mk A270
                          clear A270
                          obtain rfl := Option.some.inj H
                          go_wp2_with (first | (go_at_call 36; (with_reducible refine (impl_SumFor.calls k2 t234 t234 t240 _ A23.out).mono ?_); rintro e w28 ⟨rfl, hb⟩; have n0_ := Aside0.mk (below_step (by repeat (first | (with_reducible first | exact HB.out | apply below_alloc | apply pw_below_drewN | apply below_drew1) | exact HB.out)) hb); clear HB; have HB := n0_; clear n0_; (try clear hb); (try clear hb2); (try clear hk); (try clear hi)) | (go_at_call 44; (with_reducible refine (impl_HowManyApart.calls k2 t234 t241 _ A24.out).mono ?_); rintro e w29 ⟨rfl, hb⟩; have n0_ := Aside0.mk (below_step (by repeat (first | (with_reducible first | exact HB.out | apply below_alloc | apply pw_below_drewN | apply below_drew1) | exact HB.out)) hb); clear HB; have HB := n0_; clear n0_; (try clear hb); (try clear hb2); (try clear hk); (try clear hi)) | (go_at_call 36; (with_reducible refine (impl_SumFor.calls k2 t234 1 t242 _ A26.out).mono ?_); rintro e w30 ⟨rfl, hb⟩; have n0_ := Aside0.mk (below_step (by repeat (first | (with_reducible first | exact HB.out | apply below_alloc | apply pw_below_drewN | apply below_drew1) | exact HB.out)) hb); clear HB; have HB := n0_; clear n0_; (try clear hb); (try clear hb2); (try clear hk); (try clear hi)) | (go_at_call 40; (with_reducible refine (impl_SignOf.calls k2 t234 t243 _ A27.out).mono ?_); rintro e w31 ⟨rfl, hb⟩; have n0_ := Aside0.mk (below_step (by repeat (first | (with_reducible first | exact HB.out | apply below_alloc | apply pw_below_drewN | apply below_drew1) | exact HB.out)) hb); clear HB; have HB := n0_; clear n0_; (try clear hb); (try clear hb2); (try clear hk); (try clear hi)))
                          go_ret
                          exact ⟨by first | rfl | (simp [errW_none, errW_some] <;> rfl) | (simp [*, errW_none, errW_some] <;> rfl), by repeat (first | (with_reducible first | exact HB.out | apply below_alloc | apply pw_below_drewN | apply below_drew1) | exact HB.out)⟩
                        · rw [if_neg c25] at H
                          have c25b0 : (t240 == t241) = false := beq_eq_false_iff_ne.mpr c25
                          have c25b1 : (t240 != t241) = true := bne_iff_ne.mpr c25
                          obtain rfl := Option.some.inj H
                          go_wp2_with (first | (go_at_call 36; (with_reducible refine (impl_SumFor.calls k2 t234 t234 t240 _ A23.out).mono ?_); rintro e w32 ⟨rfl, hb⟩; have n0_ := Aside0.mk (below_step (by repeat (first | (with_reducible first | exact HB.out | apply below_alloc | apply pw_below_drewN | apply below_drew1) | exact HB.out)) hb); clear HB; have HB := n0_; clear n0_; (try clear hb); (try clear hb2); (try clear hk); (try clear hi)) | (go_at_call 44; (with_reducible refine (impl_HowManyApart.calls k2 t234 t241 _ A24.out).mono ?_); rintro e w33 ⟨rfl, hb⟩; have n0_ := Aside0.mk (below_step (by repeat (first | (with_reducible first | exact HB.out | apply below_alloc | apply pw_below_drewN | apply below_drew1) | exact HB.out)) hb); clear HB; have HB := n0_; clear n0_; (try clear hb); (try clear hb2); (try clear hk); (try clear hi)))
                          go_ret
                          exact ⟨by first | rfl | (simp [errW_none, errW_some] <;> rfl) | (simp [*, errW_none, errW_some] <;> rfl), by repeat (first | (with_reducible first | exact HB.out | apply below_alloc | apply pw_below_drewN | apply below_drew1) | exact HB.out)⟩
                      · rw [if_neg c22] at H
                        have c22b0 : ((x6_2 == 0) == (decide (t234 > 1))) = false := by simpa using c22
                        (try (have c22b1 : decide ((x6_2 == 0) = (decide (t234 > 1))) = false := by simpa using c22))
                        (try (have c22b2 : ((x6_2 == 0) == (decide (t234 > 1))) = false := by simpa using c22))
                        (try (have c22b3 : ¬ ((x6_2 == 0) = (decide (t234 > 1))) := by simpa using c22))
                        clear c22
                        obtain rfl := Option.some.inj H
                        go_wp2
                        go_ret
                        exact ⟨by first | rfl | (simp [errW_none, errW_some] <;> rfl) | (simp [*, errW_none, errW_some] <;> rfl), by repeat (first | (with_reducible first | exact HB.out | apply below_alloc | apply pw_below_drewN | apply below_drew1) | exact HB.out)⟩
                    · rw [if_neg c21] at H
                      have c21b0 : ((x6_2 == 1) == (t234 == 1)) = false := by simpa using c21
                      (try (have c21b1 : decide ((x6_2 == 1) = (t234 == 1)) = false := by simpa using c21))
                      (try (have c21b2 : ((x6_2 == 1) == (t234 == 1)) = false := by simpa using c21))
                      (try (have c21b3 : ¬ ((x6_2 == 1) = (t234 == 1)) := by simpa using c21))
                      clear c21
                      obtain rfl := Option.some.inj H
                      go_wp2
                      go_ret
                      exact ⟨by first | rfl | (simp [errW_none, errW_some] <;> rfl) | (simp [*, errW_none, errW_some] <;> rfl), by repeat (first | (with_reducible first | exact HB.out | apply below_alloc | apply pw_below_drewN | apply below_drew1) | exact HB.out)⟩
                  · rw [if_neg c20] at H
                    have c20b0 : decide (10000 < (wrap64 (t235 + t234))) = false := decide_eq_false c20
                    clear c20
                    replace H := Option.bind_eq_some_iff.mp H
                    obtain ⟨t244, A340, H⟩ := H
                    replace H : (if t244 = t236 then (if ((x6_2 == 1) == (t234 == 1)) = true then (if ((x6_2 == 0) == (decide (t234 > 1))) = true then ((impl_SumFor.f k2 t234 t234).bind fun t245 => ((impl_HowManyApart.f k2 t234).bind fun t246 => (if t245 = t246 then ((impl_SumFor.f k2 t234 1).bind fun t247 => ((impl_SignOf.f k2 t234).bind fun t248 => (some (t247 == t248)))) else (some false)))) else (some false)) else (some false)) else (some false)) = some r := H
                    have A34 := Aside0.mk A340
                    clear A340
                    by_cases c35 : t244 = t236
                    · rw [if_pos c35] at H
                      have c35b0 : (t244 == t236) = true := beq_iff_eq.mpr c35
                      have c35b1 : (t244 != t236) = false := bne_eq_false_iff_eq.mpr c35
                      clear c35
                      by_cases c36 : ((x6_2 == 1) == (t234 == 1)) = true
                      · rw [if_pos c36] at H
                        have c36b0 : ((x6_2 == 1) == (t234 == 1)) = true := c36
                        (try (have c36b1 : decide ((x6_2 == 1) = (t234 == 1)) = true := by simpa using c36))
                        (try (have c36b2 : ((x6_2 == 1) == (t234 == 1)) = true := by simpa using c36))
                        clear c36
                        by_cases c37 : ((x6_2 == 0) == (decide (t234 > 1))) = true
                        · rw [if_pos c37] at H
                          have c37b0 : ((x6_2 == 0) == (decide (t234 > 1))) = true := c37
                          (try (have c37b1 : decide ((x6_2 == 0) = (decide (t234 > 1))) = true := by simpa using c37))
                          (try (have c37b2 : ((x6_2 == 0) == (decide (t234 > 1))) = true := by simpa using c37))
                          clear c37
                          replace H := Option.bind_eq_some_iff.mp H
                          obtain ⟨t245, A380, H⟩ := H
                          replace H : ((impl_HowManyApart.f k2 t234).bind fun t246 => (if t245 = t246 then ((impl_SumFor.f k2 t234 1).bind fun t247 => ((impl_SignOf.f k2 t234).bind fun t248 => (some (t247 == t248)))) else (some false))) = some r := H
                          have A38 := Aside0.mk A380
                          clear A380
                          replace H := Option.bind_eq_some_iff.mp H
                          obtain ⟨t246, A390, H⟩ := H
                          replace H : (if t245 = t246 then ((impl_SumFor.f k2 t234 1).bind fun t247 => ((impl_SignOf.f k2 t234).bind fun t248 => (some (t247 == t248)))) else (some false)) = some r := H
                          have A39 := Aside0.mk A390
                          clear A390
                          by_cases c40 : t245 = t246
                          · rw [if_pos c40] at H
                            have c40b0 : (t245 == t246) = true := beq_iff_eq.mpr c40
                            have c40b1 : (t245 != t246) = false := bne_eq_false_iff_eq.mpr c40
                            clear c40
                            replace H := Option.bind_eq_some_iff.mp H
                            obtain ⟨t247, A410, H⟩ := H
                            replace H : ((impl_SignOf.f k2 t234).bind fun t248 => (some (t247 == t248))) = some r := H
                            have A41 := Aside0.mk A410
                            clear A410
                            replace H := Option.bind_eq_some_iff.mp H
                            obtain ⟨t248, A420, H⟩ := H
                            replace H : (some (t247 == t248)) = some r := H
                            have A42 := Aside0.mk A420
                            clear A420
                            obtain rfl := Option.some.inj H
                            go_wp2_with (first | (go_at_call 36; (with_reducible refine (impl_SumFor.calls k2 t234 (wrap64 (t235 + t234)) t244 _ A34.out).mono ?_); rintro e w43 ⟨rfl, hb⟩; have n0_ := Aside0.mk (below_step (by repeat (first | (with_reducible first | exact HB.out | apply below_alloc | apply pw_below_drewN | apply below_drew1) | exact HB.out)) hb); clear HB; have HB := n0_; clear n0_; (try clear hb); (try clear hb2); (try clear hk); (try clear hi)) | (go_at_call 36; (with_reducible refine (impl_SumFor.calls k2 t234 t234 t245 _ A38.out).mono ?_); rintro e w44 ⟨rfl, hb⟩; have n0_ := Aside0.mk (below_step (by repeat (first | (with_reducible first | exact HB.out | apply below_alloc | apply pw_below_drewN | apply below_drew1) | exact HB.out)) hb); clear HB; have HB := n0_; clear n0_; (try clear hb); (try clear hb2); (try clear hk); (try clear hi)) | (go_at_call 44; (with_reducible refine (impl_HowManyApart.calls k2 t234 t246 _ A39.out).mono ?_); rintro e w45 ⟨rfl, hb⟩; have n0_ := Aside0.mk (below_step (by repeat (first | (with_reducible first | exact HB.out | apply below_alloc | apply pw_below_drewN | apply below_drew1) | exact HB.out)) hb); clear HB; have HB := n0_; clear n0_; (try clear hb); (try clear hb2); (try clear hk); (try clear hi)) | (go_at_call 36; (with_reducible refine (impl_SumFor.calls k2 t234 1 t247 _ A41.out).mono ?_); rintro e w46 ⟨rfl, hb⟩; have n0_ := Aside0.mk (below_step (by repeat (first | (with_reducible first | exact HB.out | apply below_alloc | apply pw_below_drewN | apply below_drew1) | exact HB.out)) hb); clear HB; have HB := n0_; clear n0_; (try clear hb); (try clear hb2); (try clear hk); (try clear hi)) | (go_at_call 40; (with_reducible refine (impl_SignOf.calls k2 t234 t248 _ A42.out).mono ?_); rintro e w47 ⟨rfl, hb⟩; have n0_ := Aside0.mk (below_step (by repeat (first | (with_reducible first | exact HB.out | apply below_alloc | apply pw_below_drewN | apply below_drew1) | exact HB.out)) hb); clear HB; have HB := n0_; clear n0_; (try clear hb); (try clear hb2); (try clear hk); (try clear hi)))
                            go_ret
                            exact ⟨by first | rfl | (simp [errW_none, errW_some] <;> rfl) | (simp [*, errW_none, errW_some] <;> rfl), by repeat (first | (with_reducible first | exact HB.out | apply below_alloc | apply pw_below_drewN | apply below_drew1) | exact HB.out)⟩
                          · rw [if_neg c40] at H
                            have c40b0 : (t245 == t246) = false := beq_eq_false_iff_ne.mpr c40
                            have c40b1 : (t245 != t246) = true := bne_iff_ne.mpr c40
                            obtain rfl := Option.some.inj H
                            go_wp2_with (first | (go_at_call 36; (with_reducible refine (impl_SumFor.calls k2 t234 (wrap64 (t235 + t234)) t244 _ A34.out).mono ?_); rintro e w48 ⟨rfl, hb⟩; have n0_ := Aside0.mk (below_step (by repeat (first | (with_reducible first | exact HB.out | apply below_alloc | apply pw_below_drewN | apply below_drew1) | exact HB.out)) hb); clear HB; have HB := n0_; clear n0_; (try clear hb); (try clear hb2); (try clear hk); (try clear hi)) | (go_at_call 36; (with_reducible refine (impl_SumFor.calls k2 t234 t234 t245 _ A38.out).mono ?_); rintro e w49 ⟨rfl, hb⟩; have n0_ := Aside0.mk (below_step (by repeat (first | (with_reducible first | exact HB.out | apply below_alloc | apply pw_below_drewN | apply below_drew1) | exact HB.out)) hb); clear HB; have HB := n0_; clear n0_; (try clear hb); (try clear hb2); (try clear hk); (try clear hi)) | (go_at_call 44; (with_reducible refine (impl_HowManyApart.calls k2 t234 t246 _ A39.out).mono ?_); rintro e w50 ⟨rfl, hb⟩; have n0_ := Aside0.mk (below_step (by repeat (first | (with_reducible first | exact HB.out | apply below_alloc | apply pw_below_drewN | apply below_drew1) | exact HB.out)) hb); clear HB; have HB := n0_; clear n0_; (try clear hb); (try clear hb2); (try clear hk); (try clear hi)))
                            go_ret
                            exact ⟨by first | rfl | (simp [errW_none, errW_some] <;> rfl) | (simp [*, errW_none, errW_some] <;> rfl), by repeat (first | (with_reducible first | exact HB.out | apply below_alloc | apply pw_below_drewN | apply below_drew1) | exact HB.out)⟩
                        · rw [if_neg c37] at H
                          have c37b0 : ((x6_2 == 0) == (decide (t234 > 1))) = false := by simpa using c37
                          (try (have c37b1 : decide ((x6_2 == 0) = (decide (t234 > 1))) = false := by simpa using c37))
                          (try (have c37b2 : ((x6_2 == 0) == (decide (t234 > 1))) = false := by simpa using c37))
                          (try (have c37b3 : ¬ ((x6_2 == 0) = (decide (t234 > 1))) := by simpa using c37))
                          clear c37
                          obtain rfl := Option.some.inj H
                          go_wp2_with (first | (go_at_call 36; (with_reducible refine (impl_SumFor.calls k2 t234 (wrap64 (t235 + t234)) t244 _ A34.out).mono ?_); rintro e w51 ⟨rfl, hb⟩; have n0_ := Aside0.mk (below_step (by repeat (first | (with_reducible first | exact HB.out | apply below_alloc | apply pw_below_drewN | apply below_drew1) | exact HB.out)) hb); clear HB; have HB := n0_; clear n0_; (try clear hb); (try clear hb2); (try clear hk); (try clear hi)))
                          go_ret
                          exact ⟨by first | rfl | (simp [errW_none, errW_some] <;> rfl) | (simp [*, errW_none, errW_some] <;> rfl), by repeat (first | (with_reducible first | exact HB.out | apply below_alloc | apply pw_below_drewN | apply below_drew1) | exact HB.out)⟩
                      · rw [if_neg c36] at H
                        have c36b0 : ((x6_2 == 1) == (t234 == 1)) = false := by simpa using c36
                        (try (have c36b1 : decide ((x6_2 == 1) = (t234 == 1)) = false := by simpa using c36))
                        (try (have c36b2 : ((x6_2 == 1) == (t234 == 1)) = false := by simpa using c36))
                        (try (have c36b3 : ¬ ((x6_2 == 1) = (t234 == 1)) := by simpa using c36))
                        clear c36
                        obtain rfl := Option.some.inj H
                        go_wp2_with (first | (go_at_call 36; (with_reducible refine (impl_SumFor.calls k2 t234 (wrap64 (t235 + t234)) t244 _ A34.out).mono ?_); rintro e w52 ⟨rfl, hb⟩; have n0_ := Aside0.mk (below_step (by repeat (first | (with_reducible first | exact HB.out | apply below_alloc | apply pw_below_drewN | apply below_drew1) | exact HB.out)) hb); clear HB; have HB := n0_; clear n0_; (try clear hb); (try clear hb2); (try clear hk); (try clear hi)))
                        go_ret
                        exact ⟨by first | rfl | (simp [errW_none, errW_some] <;> rfl) | (simp [*, errW_none, errW_some] <;> rfl), by repeat (first | (with_reducible first | exact HB.out | apply below_alloc | apply pw_below_drewN | apply below_drew1) | exact HB.out)⟩
                    · rw [if_neg c35] at H
                      have c35b0 : (t244 == t236) = false := beq_eq_false_iff_ne.mpr c35
                      have c35b1 : (t244 != t236) = true := bne_iff_ne.mpr c35
                      obtain rfl := Option.some.inj H
                      go_wp2_with (first | (go_at_call 36; (with_reducible refine (impl_SumFor.calls k2 t234 (wrap64 (t235 + t234)) t244 _ A34.out).mono ?_); rintro e w53 ⟨rfl, hb⟩; have n0_ := Aside0.mk (below_step (by repeat (first | (with_reducible first | exact HB.out | apply below_alloc | apply pw_below_drewN | apply below_drew1) | exact HB.out)) hb); clear HB; have HB := n0_; clear n0_; (try clear hb); (try clear hb2); (try clear hk); (try clear hi)))
                      go_ret
                      exact ⟨by first | rfl | (simp [errW_none, errW_some] <;> rfl) | (simp [*, errW_none, errW_some] <;> rfl), by repeat (first | (with_reducible first | exact HB.out | apply below_alloc | apply pw_below_drewN | apply below_drew1) | exact HB.out)⟩
    · rw [if_neg c6] at H
      have c6b0 : (t236 == t237) = false := beq_eq_false_iff_ne.mpr c6
      have c6b1 : (t236 != t237) = true := bne_iff_ne.mpr c6
      obtain rfl := Option.some.inj H
      go_enter Try.func13, Try.ntmps13
      go_wp2_with (first | ((with_reducible refine gate_callee (f := 43) rfl ?_); refine goesL_ (some 13) rfl rfl Try.func43 (by kernel_rfl) rfl #[.slice A0 l0.length c0] rfl (by (try simp only [List.map_toArray, List.map_cons, List.map_nil]); first | done | rfl | (simp only [List.length_drop, List.length_take]; rfl)) ?_; (with_reducible refine (spec_DrawSumFor.calls k _ _ l0 t234 t235 _ ?side1 ?side2 A3.out).mono ?_); (case side1 => repeat (first | exact HR0.out | (with_reducible refine Kd.C_alloc ?_ _) | (with_reducible refine Kd.C_drewN ?_ _) | (with_reducible refine Kd.C_drew ?_))); (case side2 => exact HC0.out); rintro e w54 ⟨rfl, hb⟩; refine ⟨_, rfl, ?_⟩; have n0_ := Aside0.mk (below_step (by repeat (first | (with_reducible first | exact HB.out | apply below_alloc | apply pw_below_drewN | apply below_drew1) | exact HB.out)) hb); clear HB; have HB := n0_; clear n0_; (try clear hb); (try clear hb2); (try clear hk); (try clear hi)) | ((with_reducible refine gate_callee (f := 36) rfl ?_); refine goesL_ (some 18) rfl rfl Try.func36 (by kernel_rfl) rfl #[.int .i64 t234, .int .i64 t235] rfl (by (try simp only [List.map_toArray, List.map_cons, List.map_nil]); first | done | rfl | (simp only [List.length_drop, List.length_take]; rfl)) ?_; (with_reducible refine (impl_SumFor.calls k t234 t235 t236 _ A4.out).mono ?_); rintro e w55 ⟨rfl, hb⟩; refine ⟨_, rfl, ?_⟩; have n0_ := Aside0.mk (below_step (by repeat (first | (with_reducible first | exact HB.out | apply below_alloc | apply pw_below_drewN | apply below_drew1) | exact HB.out)) hb); clear HB; have HB := n0_; clear n0_; (try clear hb); (try clear hb2); (try clear hk); (try clear hi)) | ((with_reducible refine gate_callee (f := 35) rfl ?_); refine goesL_ (some 22) rfl rfl Try.func35 (by kernel_rfl) rfl #[.int .i64 t234, .int .i64 t235] rfl (by (try simp only [List.map_toArray, List.map_cons, List.map_nil]); first | done | rfl | (simp only [List.length_drop, List.length_take]; rfl)) ?_; (with_reducible refine (spec_SumFor.calls k t234 t235 t237 _ A5.out).mono ?_); rintro e w56 ⟨rfl, hb⟩; refine ⟨_, rfl, ?_⟩; have n0_ := Aside0.mk (below_step (by repeat (first | (with_reducible first | exact HB.out | apply below_alloc | apply pw_below_drewN | apply below_drew1) | exact HB.out)) hb); clear HB; have HB := n0_; clear n0_; (try clear hb); (try clear hb2); (try clear hk); (try clear hi)))
      go_ret
      exact ⟨by first | rfl | (simp [errW_none, errW_some] <;> rfl) | (simp [*, errW_none, errW_some] <;> rfl), by repeat (first | (with_reducible first | exact HB.out | apply below_alloc | apply pw_below_drewN | apply below_drew1) | exact HB.out)⟩

/-- THE ONE PURE STATEMENT of laws_FnSumFor: yours. -/
def laws_FnSumFor.Pure : Prop := ∀ (l0 : List Int), l0.length ≤ maxLen → l0.length * 1 ≤ 140737488351232 → (∀ x ∈ l0, (Lit.int .u8 x).wf = true) → ∃ k, laws_FnSumFor.f k l0 = some true
theorem laws_FnSumFor.walk (P : laws_FnSumFor.Pure) (a0 : Option Addr) (len0 cap0 : Nat) (z0 : List Int) (w : World) (w0 : (a0 = none ∧ len0 = 0 ∧ cap0 = 0 ∧ z0 = []) ∨ ∃ x, a0 = some x ∧ len0 ≤ cap0 ∧ cap0 ≤ maxLen ∧ z0.length = cap0 ∧ (∀ i, i < z0.length → w.cell? (x.add i) = some (.int .u8 (z0.getD i 0))) ∧ ∀ n ∈ z0, (Lit.int .u8 n).wf = true) (y0 : len0 * 1 ≤ 140737488351232) :
    Calls Try.prog 13 #[.slice a0 len0 cap0] w fun e w' => e = .returned (.bool true) ∧ Below w.heap.size w w' := by
  obtain ⟨l0, rfl, hr0, hm0, hw0, hc0⟩ := ReadsInt.ofRowC w0
  obtain ⟨k, h⟩ := P l0 hm0 y0 hw0
  refine (laws_FnSumFor.calls k _ _ l0 true w (Kd.C_of_reads (d := (0 : Int)) (h1 := fun _ => rfl) hr0) hc0 h).mono ?_
  rintro e w' ⟨rfl, hd⟩
  exact ⟨rfl, hd⟩

end Go.Proofs.Ytijgepnmcoicgaa.PFnSumFor
