-- Written for this claim by a program of this session (wip/myprint.sh), after the kit's print; some functions by hand
import Derived.Test.YtmgjidgfhlclmaaPFnExactDeskRunx0
import Derived.Test.YtmgjidgfhlclmaaPFnExactDeskRunx10
import Derived.Test.YtmgjidgfhlclmaaPFnExactDeskRunx12
import Derived.Test.YtmgjidgfhlclmaaWPress
namespace Go.Proofs.Ytmgjidgfhlclmaa.PFnExactDeskRun
open Go.RowKit Go.Proofs.YtmgjidgfhlclmaaW.PrintWords Go.Proofs.YtmgjidgfhlclmaaW.PrintLast Go.Proofs.YtmgjidgfhlclmaaW.PrintMore
attribute [local go_sem] max2_int min2_int max_two min_two max_three min_three max_four min_four   -- for this text's walks alone
set_option linter.unusedVariables false
set_option linter.unusedSimpArgs false

/-! ### spec_ApartOk: function 90 -/
def spec_ApartOk.f (k : Nat) (a0 : Int) (a1 : Int) : Option (Bool) := (spec_CommonOf.f k a0 a1).bind fun t399 => (some (t399 == 1))
theorem spec_ApartOk.mono : ∀ a0 a1 k, LeO (spec_ApartOk.f k a0 a1) (spec_ApartOk.f (k + 1) a0 a1) := by
 intro a0 a1 k; unfold spec_ApartOk.f; have m0 := @spec_CommonOf.mono; exact mz
set_option maxHeartbeats 8000000 in
set_option maxRecDepth 100000 in
theorem spec_ApartOk.calls (k : Nat) (a0 : Int) (a1 : Int) (r : Bool) (w : World) (h : spec_ApartOk.f k a0 a1 = some r) :
  Calls Try.prog 90 #[.int .i64 a0, .int .i64 a1] w fun e w' => e = .returned (.bool r) ∧ Drawn0 w w' := by
 have H : ((spec_CommonOf.f k a0 a1).bind fun t399 => (some (t399 == 1))) = some r := h; clear h; replace H := qb H; obtain ⟨t399, A3, H⟩ := H; obtain rfl := Option.some.inj H
 go_enter Try.func90, Try.ntmps90
 go_wp2_with (first | ((with_reducible refine gate_callee (f := 94) rfl ?_); refine gol (some 7) Try.func94 #[.int .i64 a0, .int .i64 a1] ?_; (with_reducible refine (spec_CommonOf.calls k a0 a1 t399 _ A3.out).mono ?_); rintro e w' ⟨rfl, ⟨nd, rfl⟩⟩; refine ⟨_, rfl, ?_⟩))
 go_ret; exact ⟨sd, dr⟩

/-! ### spec_l2Named: function 85 -/
mutual
def spec_l2Named.l0 : Nat → List Int → Int → Int → Option (Int)
 | 0, _, _, _ => none
 | k + 1, x6, x7, x8 => if x8 < (x6.length : Int) then (if 0 ≤ x8 then (spec_l2Named.l0 k x6 (wrap64 (x7 + (rd x6 x8))) (wrap64 (x8 + 1))) else (none)) else (some x7)
def spec_l2Named.l1 : Nat → Int → Int → Int → Option (Int)
 | 0, _, _, _ => none
 | k + 1, x1, x9, x10 => if x10 ≤ x1 then ((spec_ApartOk.f k x10 x1).bind fun t407 => (if t407 = true then (spec_l2Named.l1 k x1 (wrap64 (x9 + 1)) (wrap64 (x10 + 1))) else (spec_l2Named.l1 k x1 x9 (wrap64 (x10 + 1))))) else (some x9)
def spec_l2Named.l2 : Nat → Int → List (List Int) → Int → Int → Option (Int)
 | 0, _, _, _, _ => none
 | k + 1, x0, x5, x11, x12 => if x12 < (x5.length : Int) then (if x0 = 6 then (if 0 ≤ x12 then (if 1 < ((rd_L1 x5 x12).length : Int) then (spec_l2Named.j3 k x0 x5 x11 x12 (decide ((rd (rd_L1 x5 x12) 1) > 1))) else (none)) else (none)) else (spec_l2Named.j3 k x0 x5 x11 x12 false)) else (some x11)
def spec_l2Named.j3 : Nat → Int → List (List Int) → Int → Int → Bool → Option (Int)
 | 0, _, _, _, _, _ => none
 | k + 1, x0, x5, x11, x12, x75 => if x75 = true then (some 0) else (if 0 ≤ x12 then (if x12 < (x5.length : Int) then (if 1 < ((rd_L1 x5 x12).length : Int) then (if (Int.tmod (rd (rd_L1 x5 x12) 1) 2) = 1 then (spec_l2Named.l2 k x0 x5 (wrap64 (-x11)) (wrap64 (x12 + 1))) else (spec_l2Named.l2 k x0 x5 x11 (wrap64 (x12 + 1)))) else (none)) else (none)) else (none))
end
def spec_l2Named.f (k : Nat) (a0 : Int) (a1 : Int) : Option (Int) := (spec_FactorsOf.f k a1).bind fun t400 => ((spec_DivisorsOf.f k a1).bind fun t403 => (if a0 = 0 then (if a1 = 1 then (some 1) else (some 0)) else (if a0 = 1 then (some 1) else (if a0 = 2 then (some a1) else (if a0 = 3 then (some (t403.length : Int)) else (if a0 = 4 then (spec_l2Named.l0 k t403 0 0) else (if a0 = 5 then (spec_l2Named.l1 k a1 0 1) else (spec_l2Named.l2 k a0 t400 1 0))))))))
theorem spec_l2Named.mono_l : ∀ k, (∀ y0 y1 y2, LeO (spec_l2Named.l0 k y0 y1 y2) (spec_l2Named.l0 (k + 1) y0 y1 y2)) ∧ (∀ y0 y1 y2, LeO (spec_l2Named.l1 k y0 y1 y2) (spec_l2Named.l1 (k + 1) y0 y1 y2)) ∧ (∀ y0 y1 y2 y3, LeO (spec_l2Named.l2 k y0 y1 y2 y3) (spec_l2Named.l2 (k + 1) y0 y1 y2 y3)) ∧ (∀ y0 y1 y2 y3 y4, LeO (spec_l2Named.j3 k y0 y1 y2 y3 y4) (spec_l2Named.j3 (k + 1) y0 y1 y2 y3 y4))
 | 0 => ⟨fun _ _ _ r h => by simp [spec_l2Named.l0] at h, fun _ _ _ r h => by simp [spec_l2Named.l1] at h, fun _ _ _ _ r h => by simp [spec_l2Named.l2] at h, fun _ _ _ _ _ r h => by simp [spec_l2Named.j3] at h⟩
 | k + 1 => by
  obtain ⟨ih0, ih1, ih2, ih3⟩ := spec_l2Named.mono_l k; refine ⟨?_, ?_, ?_, ?_⟩
  ·intro y0 y1 y2; unfold spec_l2Named.l0; have m0 := @spec_ApartOk.mono; have m1 := @spec_DivisorsOf.mono; have m2 := @spec_FactorsOf.mono; exact mz
  ·intro y0 y1 y2; unfold spec_l2Named.l1; have m0 := @spec_ApartOk.mono; have m1 := @spec_DivisorsOf.mono; have m2 := @spec_FactorsOf.mono; exact mz
  ·intro y0 y1 y2 y3; unfold spec_l2Named.l2; have m0 := @spec_ApartOk.mono; have m1 := @spec_DivisorsOf.mono; have m2 := @spec_FactorsOf.mono; exact mz
  ·intro y0 y1 y2 y3 y4; unfold spec_l2Named.j3; have m0 := @spec_ApartOk.mono; have m1 := @spec_DivisorsOf.mono; have m2 := @spec_FactorsOf.mono; exact mz
theorem spec_l2Named.mono : ∀ a0 a1 k, LeO (spec_l2Named.f k a0 a1) (spec_l2Named.f (k + 1) a0 a1) := by
 intro a0 a1 k; obtain ⟨ih0, ih1, ih2, ih3⟩ := spec_l2Named.mono_l k; unfold spec_l2Named.f; have m0 := @spec_ApartOk.mono; have m1 := @spec_DivisorsOf.mono; have m2 := @spec_FactorsOf.mono; exact mz
set_option maxHeartbeats 8000000 in
set_option maxRecDepth 100000 in
theorem spec_l2Named.calls (k : Nat) (a0 : Int) (a1 : Int) (r : Int) (w : World) (h : spec_l2Named.f k a0 a1 = some r) :
  Calls Try.prog 85 #[.int .i64 a0, .int .i64 a1] w fun e w' => e = .returned (.int .i64 r) ∧ Below w.heap.size w w' := by
 have HB := qa (Below.refl w.heap.size w); have H : ((spec_FactorsOf.f k a1).bind fun t400 => ((spec_DivisorsOf.f k a1).bind fun t403 => (if a0 = 0 then (if a1 = 1 then (some 1) else (some 0)) else (if a0 = 1 then (some 1) else (if a0 = 2 then (some a1) else (if a0 = 3 then (some (t403.length : Int)) else (if a0 = 4 then (spec_l2Named.l0 k t403 0 0) else (if a0 = 5 then (spec_l2Named.l1 k a1 0 1) else (spec_l2Named.l2 k a0 t400 1 0))))))))) = some r := h; clear h; replace H := qb H; obtain ⟨t400, A3, H⟩ := H; replace H := qb H; obtain ⟨t403, A4, H⟩ := H; replace H := qq H; obtain ⟨c5b0, c5b1, H⟩ | ⟨c5, c5b0, c5b1, H⟩ := H
 ·replace H := qq H; obtain ⟨c6b0, c6b1, H⟩ | ⟨c6, c6b0, c6b1, H⟩ := H
  ·obtain rfl := Option.some.inj H
   go_enter Try.func85, Try.ntmps85
   go_wp2_with (first | ((with_reducible refine gate_callee (f := 88) rfl ?_); refine gol (some 14) Try.func88 #[.int .i64 a1] ?_; (with_reducible refine (spec_FactorsOf.calls k a1 t400 _ A3.out).mono ?_); rintro e w7 ⟨v401, rfl, ho0, hb⟩; refine ⟨_, rfl, ?_⟩; have HO402 := qa (Kd.S_lower ho0 (below_size (bl))); replace HB := qa (below_step (bl) hb)) | ((with_reducible refine gate_callee (f := 89) rfl ?_); refine gol (some 16) Try.func89 #[.int .i64 a1] ?_; (with_reducible refine (spec_DivisorsOf.calls k a1 t403 _ A4.out).mono ?_); rintro e w8 ⟨v404, rfl, ho0, hb⟩; refine ⟨_, rfl, ?_⟩; replace HO402 := qa (Kd.S_elder' (kS HO402) (Kd.R_base ho0) hb); have HO405 := qa (Kd.R_lower ho0 (below_size (bl))); replace HB := qa (below_step (bl) hb)))
   go_ret; exact ⟨er, bl⟩
  ·obtain rfl := Option.some.inj H
   go_enter Try.func85, Try.ntmps85
   go_wp2_with (first | ((with_reducible refine gate_callee (f := 88) rfl ?_); refine gol (some 14) Try.func88 #[.int .i64 a1] ?_; (with_reducible refine (spec_FactorsOf.calls k a1 t400 _ A3.out).mono ?_); rintro e w9 ⟨v401, rfl, ho0, hb⟩; refine ⟨_, rfl, ?_⟩; have HO402 := qa (Kd.S_lower ho0 (below_size (bl))); replace HB := qa (below_step (bl) hb)) | ((with_reducible refine gate_callee (f := 89) rfl ?_); refine gol (some 16) Try.func89 #[.int .i64 a1] ?_; (with_reducible refine (spec_DivisorsOf.calls k a1 t403 _ A4.out).mono ?_); rintro e w10 ⟨v404, rfl, ho0, hb⟩; refine ⟨_, rfl, ?_⟩; replace HO402 := qa (Kd.S_elder' (kS HO402) (Kd.R_base ho0) hb); have HO405 := qa (Kd.R_lower ho0 (below_size (bl))); replace HB := qa (below_step (bl) hb)))
   go_ret; exact ⟨er, bl⟩
 ·replace H := qq H; obtain ⟨c11b0, c11b1, H⟩ | ⟨c11, c11b0, c11b1, H⟩ := H
  ·obtain rfl := Option.some.inj H
   go_enter Try.func85, Try.ntmps85
   go_wp2_with (first | ((with_reducible refine gate_callee (f := 88) rfl ?_); refine gol (some 14) Try.func88 #[.int .i64 a1] ?_; (with_reducible refine (spec_FactorsOf.calls k a1 t400 _ A3.out).mono ?_); rintro e w12 ⟨v401, rfl, ho0, hb⟩; refine ⟨_, rfl, ?_⟩; have HO402 := qa (Kd.S_lower ho0 (below_size (bl))); replace HB := qa (below_step (bl) hb)) | ((with_reducible refine gate_callee (f := 89) rfl ?_); refine gol (some 16) Try.func89 #[.int .i64 a1] ?_; (with_reducible refine (spec_DivisorsOf.calls k a1 t403 _ A4.out).mono ?_); rintro e w13 ⟨v404, rfl, ho0, hb⟩; refine ⟨_, rfl, ?_⟩; replace HO402 := qa (Kd.S_elder' (kS HO402) (Kd.R_base ho0) hb); have HO405 := qa (Kd.R_lower ho0 (below_size (bl))); replace HB := qa (below_step (bl) hb)))
   go_ret; exact ⟨er, bl⟩
  ·replace H := qq H; obtain ⟨c14b0, c14b1, H⟩ | ⟨c14, c14b0, c14b1, H⟩ := H
   ·obtain rfl := Option.some.inj H
    go_enter Try.func85, Try.ntmps85
    go_wp2_with (first | ((with_reducible refine gate_callee (f := 88) rfl ?_); refine gol (some 14) Try.func88 #[.int .i64 a1] ?_; (with_reducible refine (spec_FactorsOf.calls k a1 t400 _ A3.out).mono ?_); rintro e w15 ⟨v401, rfl, ho0, hb⟩; refine ⟨_, rfl, ?_⟩; have HO402 := qa (Kd.S_lower ho0 (below_size (bl))); replace HB := qa (below_step (bl) hb)) | ((with_reducible refine gate_callee (f := 89) rfl ?_); refine gol (some 16) Try.func89 #[.int .i64 a1] ?_; (with_reducible refine (spec_DivisorsOf.calls k a1 t403 _ A4.out).mono ?_); rintro e w16 ⟨v404, rfl, ho0, hb⟩; refine ⟨_, rfl, ?_⟩; replace HO402 := qa (Kd.S_elder' (kS HO402) (Kd.R_base ho0) hb); have HO405 := qa (Kd.R_lower ho0 (below_size (bl))); replace HB := qa (below_step (bl) hb)))
    go_ret; exact ⟨er, bl⟩
   ·replace H := qq H; obtain ⟨c17b0, c17b1, H⟩ | ⟨c17, c17b0, c17b1, H⟩ := H
    ·obtain rfl := Option.some.inj H
     go_enter Try.func85, Try.ntmps85
     go_wp2_with (first | ((with_reducible refine gate_callee (f := 88) rfl ?_); refine gol (some 14) Try.func88 #[.int .i64 a1] ?_; (with_reducible refine (spec_FactorsOf.calls k a1 t400 _ A3.out).mono ?_); rintro e w18 ⟨v401, rfl, ho0, hb⟩; refine ⟨_, rfl, ?_⟩; have HO402 := qa (Kd.S_lower ho0 (below_size (bl))); replace HB := qa (below_step (bl) hb)) | ((with_reducible refine gate_callee (f := 89) rfl ?_); refine gol (some 16) Try.func89 #[.int .i64 a1] ?_; (with_reducible refine (spec_DivisorsOf.calls k a1 t403 _ A4.out).mono ?_); rintro e w19 ⟨v404, rfl, ho0, hb⟩; refine ⟨_, rfl, ?_⟩; replace HO402 := qa (Kd.S_elder' (kS HO402) (Kd.R_base ho0) hb); have HO405 := qa (Kd.R_lower ho0 (below_size (bl))); replace HB := qa (below_step (bl) hb); obtain ⟨Ao20, co20, eo20⟩ := Kd.R_slice HO405.out; subst eo20))
     go_ret; exact ⟨er, bl⟩
    ·replace H := qq H; obtain ⟨c21b0, c21b1, H⟩ | ⟨c21, c21b0, c21b1, H⟩ := H
     ·have H' := qa H; clear H
      go_enter Try.func85, Try.ntmps85
      go_wp2_with (first | ((with_reducible refine gate_callee (f := 88) rfl ?_); refine gol (some 14) Try.func88 #[.int .i64 a1] ?_; (with_reducible refine (spec_FactorsOf.calls k a1 t400 _ A3.out).mono ?_); rintro e w22 ⟨v401, rfl, ho0, hb⟩; refine ⟨_, rfl, ?_⟩; have HO402 := qa (Kd.S_lower ho0 (below_size (bl))); replace HB := qa (below_step (bl) hb)) | ((with_reducible refine gate_callee (f := 89) rfl ?_); refine gol (some 16) Try.func89 #[.int .i64 a1] ?_; (with_reducible refine (spec_DivisorsOf.calls k a1 t403 _ A4.out).mono ?_); rintro e w23 ⟨v404, rfl, ho0, hb⟩; refine ⟨_, rfl, ?_⟩; replace HO402 := qa (Kd.S_elder' (kS HO402) (Kd.R_base ho0) hb); have HO405 := qa (Kd.R_lower ho0 (below_size (bl))); replace HB := qa (below_step (bl) hb)))
      go_loopg [7, 8] k (fun kq v7 v8 w' => ∃ (x7_1 : Int) (x8_1 : Int), v7 = .int .i64 x7_1 ∧ v8 = .int .i64 x8_1 ∧ Aside0 (spec_l2Named.l0 kq t403 x7_1 x8_1 = some r) ∧ Aside0 (kq ≤ k) ∧ Aside0 (Kd.R (Kd.int .i64) 3 w' w.heap.size (fun _ => True) v404 t403) ∧ Aside0 (Below w.heap.size w w'))
      case atStart => exact ⟨(0), (0), (sd), (sd), H', ⟨Nat.le_refl _⟩, ⟨kR HO405⟩, ⟨bl⟩⟩
      case round =>
       clear H'; obtain ⟨x7_1, x8_1, rfl, rfl, HA, HK1, HO_6, HB⟩ := hrel
       cases gk with
       | zero => exact absurd HA.out (by simp [spec_l2Named.l0])
       | succ k1 =>
        have H := HA.out; clear HA; simp only [spec_l2Named.l0] at H; replace H := qe H; obtain ⟨c24b0, H⟩ | ⟨c24b0, H⟩ := H
        ·replace H := qd H; obtain ⟨c25b0, H⟩ := H; have H' := qa H; clear H; obtain ⟨Ao26, co26, eo26⟩ := Kd.R_slice HO_6.out; subst eo26; have p406 : 0 ≤ (x8_1 : Int) := qo; have q406 : x8_1 < (t403.length : Int) := qo; obtain ⟨ad406, e406, hx406_0⟩ := Kd.at_int (Kd.R_reads' HO_6.out).2.2 x8_1 p406 q406; cases e406; replace p406 := eq_true p406; replace q406 := eq_true q406; go_wp2
         go_roundg k1
         case measure => have := HK1.out; omega
         case rel => exact ⟨(wrap64 (x7_1 + (rd t403 x8_1))), (wrap64 (x8_1 + 1)), (sd), (sd), H', ⟨by have := HK1.out; omega⟩, ⟨kR HO_6⟩, ⟨bl⟩⟩
        ·obtain rfl := Option.some.inj H; obtain ⟨Ao27, co27, eo27⟩ := Kd.R_slice HO_6.out; subst eo27; go_wp2; go_ret; exact ⟨er, bl⟩
     ·replace H := qq H; obtain ⟨c28b0, c28b1, H⟩ | ⟨c28, c28b0, c28b1, H⟩ := H
      ·have H' := qa H; clear H
       go_enter Try.func85, Try.ntmps85
       go_wp2_with (first | ((with_reducible refine gate_callee (f := 88) rfl ?_); refine gol (some 14) Try.func88 #[.int .i64 a1] ?_; (with_reducible refine (spec_FactorsOf.calls k a1 t400 _ A3.out).mono ?_); rintro e w29 ⟨v401, rfl, ho0, hb⟩; refine ⟨_, rfl, ?_⟩; have HO402 := qa (Kd.S_lower ho0 (below_size (bl))); replace HB := qa (below_step (bl) hb)) | ((with_reducible refine gate_callee (f := 89) rfl ?_); refine gol (some 16) Try.func89 #[.int .i64 a1] ?_; (with_reducible refine (spec_DivisorsOf.calls k a1 t403 _ A4.out).mono ?_); rintro e w30 ⟨v404, rfl, ho0, hb⟩; refine ⟨_, rfl, ?_⟩; replace HO402 := qa (Kd.S_elder' (kS HO402) (Kd.R_base ho0) hb); have HO405 := qa (Kd.R_lower ho0 (below_size (bl))); replace HB := qa (below_step (bl) hb)))
       go_loopg [9, 10] k (fun kq v9 v10 w' => ∃ (x9_1 : Int) (x10_1 : Int), v9 = .int .i64 x9_1 ∧ v10 = .int .i64 x10_1 ∧ Aside0 (spec_l2Named.l1 kq a1 x9_1 x10_1 = some r) ∧ Aside0 (kq ≤ k) ∧ Aside0 (Below w.heap.size w w'))
       case atStart => exact ⟨(0), (1), (sd), (sd), H', ⟨Nat.le_refl _⟩, ⟨bl⟩⟩
       case round =>
        clear H'; obtain ⟨x9_1, x10_1, rfl, rfl, HA, HK1, HB⟩ := hrel
        cases gk with
        | zero => exact absurd HA.out (by simp [spec_l2Named.l1])
        | succ k1 =>
         have H := HA.out; clear HA; simp only [spec_l2Named.l1] at H; replace H := qe H; obtain ⟨c31b0, H⟩ | ⟨c31b0, H⟩ := H
         ·replace H := qb H; obtain ⟨t407, A32, H⟩ := H
          by_cases c33 : t407 = true
          ·subst c33; replace H := qt H; have H' := qa H; clear H
           go_wp2_with (first | ((with_reducible refine gate_callee (f := 90) rfl ?_); refine gol (some 55) Try.func90 #[.int .i64 x10_1, .int .i64 a1] ?_; (with_reducible refine (spec_ApartOk.calls k1 x10_1 a1 true _ A32.out).mono ?_); rintro e w' ⟨rfl, ⟨nd, rfl⟩⟩; refine ⟨_, rfl, ?_⟩))
           go_roundg k1
           case measure => have := HK1.out; omega
           case rel => exact ⟨(wrap64 (x9_1 + 1)), (wrap64 (x10_1 + 1)), (sd), (sd), H', ⟨by have := HK1.out; omega⟩, ⟨bl⟩⟩
          ·replace c33 := Bool.eq_false_iff.mpr c33; subst c33; replace H := qf H; have H' := qa H; clear H
           go_wp2_with (first | ((with_reducible refine gate_callee (f := 90) rfl ?_); refine gol (some 55) Try.func90 #[.int .i64 x10_1, .int .i64 a1] ?_; (with_reducible refine (spec_ApartOk.calls k1 x10_1 a1 false _ A32.out).mono ?_); rintro e w' ⟨rfl, ⟨nd, rfl⟩⟩; refine ⟨_, rfl, ?_⟩))
           go_roundg k1
           case measure => have := HK1.out; omega
           case rel => exact ⟨(x9_1), (wrap64 (x10_1 + 1)), (sd), (sd), H', ⟨by have := HK1.out; omega⟩, ⟨bl⟩⟩
         ·obtain rfl := Option.some.inj H; go_wp2; go_ret; exact ⟨er, bl⟩
      ·have H' := qa H; clear H
       go_enter Try.func85, Try.ntmps85
       go_wp2_with (first | ((with_reducible refine gate_callee (f := 88) rfl ?_); refine gol (some 14) Try.func88 #[.int .i64 a1] ?_; (with_reducible refine (spec_FactorsOf.calls k a1 t400 _ A3.out).mono ?_); rintro e w34 ⟨v401, rfl, ho0, hb⟩; refine ⟨_, rfl, ?_⟩; have HO402 := qa (Kd.S_lower ho0 (below_size (bl))); replace HB := qa (below_step (bl) hb)) | ((with_reducible refine gate_callee (f := 89) rfl ?_); refine gol (some 16) Try.func89 #[.int .i64 a1] ?_; (with_reducible refine (spec_DivisorsOf.calls k a1 t403 _ A4.out).mono ?_); rintro e w35 ⟨v404, rfl, ho0, hb⟩; refine ⟨_, rfl, ?_⟩; replace HO402 := qa (Kd.S_elder' (kS HO402) (Kd.R_base ho0) hb); have HO405 := qa (Kd.R_lower ho0 (below_size (bl))); replace HB := qa (below_step (bl) hb)))
       go_loopg [11, 12] k (fun kq v11 v12 w' => ∃ (x11_1 : Int) (x12_1 : Int), v11 = .int .i64 x11_1 ∧ v12 = .int .i64 x12_1 ∧ Aside0 (spec_l2Named.l2 kq a0 t400 x11_1 x12_1 = some r) ∧ Aside0 (kq ≤ k) ∧ Aside0 (Kd.S (Kd.slice 3 (Kd.int .i64)) 23 w' w.heap.size (fun _ => True) v401 t400) ∧ Aside0 (Below w.heap.size w w'))
       case atStart => exact ⟨(1), (0), (sd), (sd), H', ⟨Nat.le_refl _⟩, ⟨by (with_reducible repeat (first | apply Kd.S_alloc | apply Kd.S_drewN | apply Kd.S_drew)); exact Kd.S_mono HO402.out (fun _ hk => trivial)⟩, ⟨bl⟩⟩
       case round =>
        clear H'; obtain ⟨x11_1, x12_1, rfl, rfl, HA, HK1, HO_5, HB⟩ := hrel
        cases gk with
        | zero => exact absurd HA.out (by simp [spec_l2Named.l2])
        | succ k1 =>
         have H := HA.out; clear HA; simp only [spec_l2Named.l2] at H; replace H := qe H; obtain ⟨c36b0, H⟩ | ⟨c36b0, H⟩ := H
         ·have HC37 := qa H; clear H; obtain ⟨Ao38, co38, eo38⟩ := Kd.S_slice HO_5.out; subst eo38
          go_upto_region 33 with (fail)
          go_cut [75] (fun v75 wc => ∃ (kq : Nat) (x75_36 : Bool), v75 = .bool x75_36 ∧ Aside0 (spec_l2Named.j3 kq a0 t400 x11_1 x12_1 x75_36 = some r) ∧ Aside0 (kq ≤ k1) ∧ Aside0 (Kd.S (Kd.slice 3 (Kd.int .i64)) 23 wc w.heap.size (fun _ => True) (.slice Ao38 t400.length co38) t400) ∧ Aside0 (Below w.heap.size w wc))
          case first =>
           have H := HC37.out; clear HC37; replace H := qq H; obtain ⟨c39b0, c39b1, H⟩ | ⟨c39, c39b0, c39b1, H⟩ := H
           ·(first | rw [c39b0] | (simp only [i64_w, i32_w]; rw [c39b0]) | skip); replace H := qd H; obtain ⟨c40b0, H⟩ := H; replace H := qn H; obtain ⟨c41, H⟩ := H; have c41b0 : decide (1 < ((rd_L1 t400 x12_1).length : Int)) = true := decide_eq_true c41; have c41b1 : decide (1 < (rd_L1 t400 x12_1).length) = true := decide_eq_true (by omega); clear c41; have H' := qa H; clear H; have p408 : 0 ≤ (x12_1 : Int) := qo; have q408 : x12_1 < (t400.length : Int) := qo; obtain ⟨ad408, A408_0, c408_0, e408, hx408_0, hl408_0, hi408_0⟩ := at_L1 (Kd.S_reads' HO_5.out).2.2 x12_1 p408 q408; cases e408; obtain ⟨ce408, hce408, hMe408, hcc408⟩ := Kd.S_get HO_5.out [] x12_1 p408 (by first | exact q408 | exact qo | (have e_ := (Kd.S_reads' HO_5.out).1; omega)); obtain ⟨ve408_0, rfl, ge408_0⟩ := hMe408; have hv408_0 := hcc408 0 _ rfl; rw [Nat.add_zero, show ((Kd.slice 3 (Kd.int .i64))).sz = 1 from rfl, Nat.mul_one] at hv408_0; replace hv408_0 := Option.some.inj (hv408_0.symm.trans hx408_0); rw [hv408_0] at ge408_0; have HL408_0 := qa (show Kd.R (Kd.int .i64) 3 _ _ _ _ (rd_L1 t400 x12_1) from ge408_0); clear hv408_0 ge408_0; clear hcc408 hce408; have HR408_0 := qa hi408_0; have HC408_0 := qa hl408_0; clear hi408_0 hl408_0; replace p408 := eq_true p408; replace q408 := eq_true q408; have p409 : 0 ≤ (1 : Int) := (by omega); have q409 : 1 < ((rd_L1 t400 x12_1).length : Int) := qo; obtain ⟨ad409, e409, hx409_0⟩ := Kd.at_int (by repeat (first | (with_reducible exact HR408_0.out) | (with_reducible refine Kd.C_alloc ?_ _) | (with_reducible refine Kd.C_drewN ?_ _) | (with_reducible refine Kd.C_drew ?_) | exact HR408_0.out)) 1 p409 q409; cases e409; (try simp only [show (1 : Int).toNat = 1 from rfl, Nat.reduceMul, Nat.reduceEqDiff, Go.Addr.add, ↓reduceIte] at hx409_0); have qi409 : (1 < (rd_L1 t400 x12_1).length) = True := eq_true (by omega); (try rw [show ((1 : Int)).toNat = 1 from rfl] at hx409_0); replace p409 := eq_true p409; replace q409 := eq_true q409; go_wp2; go_meet
            case rel => exact ⟨_, (decide ((rd (rd_L1 t400 x12_1) 1) > 1)), (sd), H', ⟨z22_⟩, ⟨kS HO_5⟩, ⟨bl⟩⟩
           ·(first | rw [c39b0] | (simp only [i64_w, i32_w]; rw [c39b0]) | skip); have H' := qa H; clear H; go_wp2; go_meet
            case rel => exact ⟨_, (false), (sd), H', ⟨z22_⟩, ⟨kS HO_5⟩, ⟨bl⟩⟩
          case rest =>
           clear HC37; obtain ⟨kq, x75_36, rfl, HA, HJ36, HO_5, HB⟩ := hcut
           cases kq with
           | zero => exact absurd HA.out (by simp [spec_l2Named.j3])
           | succ kj36 =>
            have H := HA.out; clear HA; simp only [spec_l2Named.j3] at H
            by_cases c42 : x75_36 = true
            ·subst c42; replace H := qt H; obtain rfl := Option.some.inj H; go_wp2; go_ret; exact ⟨er, bl⟩
            ·replace c42 := Bool.eq_false_iff.mpr c42; subst c42; replace H := qf H; replace H := qd H; obtain ⟨c43b0, H⟩ := H; replace H := qd H; obtain ⟨c44b0, H⟩ := H; replace H := qn H; obtain ⟨c45, H⟩ := H; have c45b0 : decide (1 < ((rd_L1 t400 x12_1).length : Int)) = true := decide_eq_true c45; have c45b1 : decide (1 < (rd_L1 t400 x12_1).length) = true := decide_eq_true (by omega); clear c45; replace H := qq H; obtain ⟨c46b0, c46b1, H⟩ | ⟨c46, c46b0, c46b1, H⟩ := H
             ·have H' := qa H; clear H; have p410 : 0 ≤ (x12_1 : Int) := qo; have q410 : x12_1 < (t400.length : Int) := qo; obtain ⟨ad410, A410_0, c410_0, e410, hx410_0, hl410_0, hi410_0⟩ := at_L1 (Kd.S_reads' HO_5.out).2.2 x12_1 p410 q410; cases e410; obtain ⟨ce410, hce410, hMe410, hcc410⟩ := Kd.S_get HO_5.out [] x12_1 p410 (by first | exact q410 | exact qo | (have e_ := (Kd.S_reads' HO_5.out).1; omega)); obtain ⟨ve410_0, rfl, ge410_0⟩ := hMe410; have hv410_0 := hcc410 0 _ rfl; rw [Nat.add_zero, show ((Kd.slice 3 (Kd.int .i64))).sz = 1 from rfl, Nat.mul_one] at hv410_0; replace hv410_0 := Option.some.inj (hv410_0.symm.trans hx410_0); rw [hv410_0] at ge410_0; have HL410_0 := qa (show Kd.R (Kd.int .i64) 3 _ _ _ _ (rd_L1 t400 x12_1) from ge410_0); clear hv410_0 ge410_0; clear hcc410 hce410; have HR410_0 := qa hi410_0; have HC410_0 := qa hl410_0; clear hi410_0 hl410_0; replace p410 := eq_true p410; replace q410 := eq_true q410; have p411 : 0 ≤ (1 : Int) := (by omega); have q411 : 1 < ((rd_L1 t400 x12_1).length : Int) := qo; obtain ⟨ad411, e411, hx411_0⟩ := Kd.at_int z55_ 1 p411 q411; cases e411; (try simp only [show (1 : Int).toNat = 1 from rfl, Nat.reduceMul, Nat.reduceEqDiff, Go.Addr.add, ↓reduceIte] at hx411_0); have qi411 : (1 < (rd_L1 t400 x12_1).length) = True := eq_true (by omega); (try rw [show ((1 : Int)).toNat = 1 from rfl] at hx411_0); replace p411 := eq_true p411; replace q411 := eq_true q411; go_wp2
              go_roundg kj36
              case measure => have := HK1.out; have := HJ36.out; omega
              case rel => exact ⟨(wrap64 (-x11_1)), (wrap64 (x12_1 + 1)), (sd), (sd), H', ⟨by have := HK1.out; have := HJ36.out; omega⟩, ⟨kS HO_5⟩, ⟨bl⟩⟩
             ·have H' := qa H; clear H; have p410 : 0 ≤ (x12_1 : Int) := qo; have q410 : x12_1 < (t400.length : Int) := qo; obtain ⟨ad410, A410_0, c410_0, e410, hx410_0, hl410_0, hi410_0⟩ := at_L1 (Kd.S_reads' HO_5.out).2.2 x12_1 p410 q410; cases e410; obtain ⟨ce410, hce410, hMe410, hcc410⟩ := Kd.S_get HO_5.out [] x12_1 p410 (by first | exact q410 | exact qo | (have e_ := (Kd.S_reads' HO_5.out).1; omega)); obtain ⟨ve410_0, rfl, ge410_0⟩ := hMe410; have hv410_0 := hcc410 0 _ rfl; rw [Nat.add_zero, show ((Kd.slice 3 (Kd.int .i64))).sz = 1 from rfl, Nat.mul_one] at hv410_0; replace hv410_0 := Option.some.inj (hv410_0.symm.trans hx410_0); rw [hv410_0] at ge410_0; have HL410_0 := qa (show Kd.R (Kd.int .i64) 3 _ _ _ _ (rd_L1 t400 x12_1) from ge410_0); clear hv410_0 ge410_0; clear hcc410 hce410; have HR410_0 := qa hi410_0; have HC410_0 := qa hl410_0; clear hi410_0 hl410_0; replace p410 := eq_true p410; replace q410 := eq_true q410; have p411 : 0 ≤ (1 : Int) := (by omega); have q411 : 1 < ((rd_L1 t400 x12_1).length : Int) := qo; obtain ⟨ad411, e411, hx411_0⟩ := Kd.at_int z55_ 1 p411 q411; cases e411; (try simp only [show (1 : Int).toNat = 1 from rfl, Nat.reduceMul, Nat.reduceEqDiff, Go.Addr.add, ↓reduceIte] at hx411_0); have qi411 : (1 < (rd_L1 t400 x12_1).length) = True := eq_true (by omega); (try rw [show ((1 : Int)).toNat = 1 from rfl] at hx411_0); replace p411 := eq_true p411; replace q411 := eq_true q411; go_wp2
              go_roundg kj36
              case measure => have := HK1.out; have := HJ36.out; omega
              case rel => exact ⟨(x11_1), (wrap64 (x12_1 + 1)), (sd), (sd), H', ⟨by have := HK1.out; have := HJ36.out; omega⟩, ⟨kS HO_5⟩, ⟨bl⟩⟩
         ·obtain rfl := Option.some.inj H; obtain ⟨Ao47, co47, eo47⟩ := Kd.S_slice HO_5.out; subst eo47; go_wp2; go_ret; exact ⟨er, bl⟩

/-! ### spec_NamedRow: function 75 -/
def spec_NamedRow.l0 : Nat → Int → List Int → Int → Option (List Int)
 | 0, _, _, _ => none
 | k + 1, x0, x3, x4 => if x4 ≤ 24 then ((spec_l1In.f x0 0 7).bind fun t415 => (if t415 = true then ((spec_l2Named.f k x0 x4).bind fun t416 => (if x3.length < 17592186044416 then (spec_NamedRow.l0 k x0 (x3 ++ [t416]) (wrap64 (x4 + 1))) else (none))) else (some x3))) else (some x3)
def spec_NamedRow.f (k : Nat) (a0 : Int) : Option (List Int) := spec_NamedRow.l0 k a0 (([] : List Int)) 1
theorem spec_NamedRow.mono_l : ∀ k, (∀ y0 y1 y2, LeO (spec_NamedRow.l0 k y0 y1 y2) (spec_NamedRow.l0 (k + 1) y0 y1 y2))
 | 0 => fun _ _ _ r h => by simp [spec_NamedRow.l0] at h
 | k + 1 => by
  have ih0 := spec_NamedRow.mono_l k
  ·intro y0 y1 y2; unfold spec_NamedRow.l0; have m0 := @spec_l2Named.mono; exact mz
theorem spec_NamedRow.mono : ∀ a0 k, LeO (spec_NamedRow.f k a0) (spec_NamedRow.f (k + 1) a0) := by
 intro a0 k; have ih0 := spec_NamedRow.mono_l k; unfold spec_NamedRow.f; have m0 := @spec_l2Named.mono; exact mz
set_option maxHeartbeats 8000000 in
set_option maxRecDepth 100000 in
theorem spec_NamedRow.calls (k : Nat) (a0 : Int) (r : List Int) (w : World) (h : spec_NamedRow.f k a0 = some r) :
  Calls Try.prog 75 #[.int .i64 a0] w fun e w' => ∃ v0_ : Value, e = .returned (v0_) ∧ Kd.R (Kd.int .i64) 3 w' w.heap.size (fun _ => True) v0_ r ∧ Below w.heap.size w w' := by
 have HB := qa (Below.refl w.heap.size w); have H : (spec_NamedRow.l0 k a0 (([] : List Int)) 1) = some r := h; clear h; obtain ⟨y412, hy_⟩ : ∃ y_ : List Int, y_ = (([] : List Int)) := ⟨_, rfl⟩; replace H : (spec_NamedRow.l0 k a0 y412 1) = some r := yh; have Ny412 := qa hy_; clear hy_; have H' := qa H; clear H
 go_enter Try.func75, Try.ntmps75
 go_wp2_with (first | ((with_reducible refine gate_dst (N := 5) rfl ?_); refine Kd.R_lit (Kd.int .i64) _ 3 ?hg (N := 5) ?hd (xs := ([] : List Int)) (inner := []) (ok := fun _ => True) (okp := fun _ => True) ?hr ?hp (fun _ hk => hk) trivial (Below.refl _ _) (Nat.le_refl _) (by simp) ?_; (case hd => rfl); (case hg => rfl); (case hr => exact gr); (case hp => exact (Reps.none _ _)); intro v413 w2 ho3 hb hg_ hnew_; clear hg_ hnew_; (first | rw [← Ny412.out] at ho3 | (simp only [Int.reduceToNat] at ho3; rw [← Ny412.out] at ho3)); have HO414 := qa (Kd.R_lower ho3 (below_size (bl))); replace HB := qa (below_step (bl) hb); clear hb ho3))
 go_loopg [3, 4] k (fun kq v3 v4 w' => ∃ (x3_1 : List Int) (x4_1 : Int), v4 = .int .i64 x4_1 ∧ Aside0 (spec_NamedRow.l0 kq a0 x3_1 x4_1 = some r) ∧ Aside0 (kq ≤ k) ∧ Aside0 (Kd.R (Kd.int .i64) 3 w' w.heap.size (fun _ => True) v3 x3_1) ∧ Aside0 (Below w.heap.size w w'))
 case atStart => exact ⟨(y412), (1), (sd), H', ⟨Nat.le_refl _⟩, ⟨kR HO414⟩, ⟨bl⟩⟩
 case round =>
  clear H'; obtain ⟨x3_1, x4_1, rfl, HA, HK1, HO_3, HB⟩ := hrel
  cases gk with
  | zero => exact absurd HA.out (by simp [spec_NamedRow.l0])
  | succ k1 =>
   have H := HA.out; clear HA; simp only [spec_NamedRow.l0] at H; replace H := qe H; obtain ⟨c4b0, H⟩ | ⟨c4b0, H⟩ := H
   ·replace H := qb H; obtain ⟨t415, A5, H⟩ := H
    by_cases c6 : t415 = true
    ·subst c6; replace H := qt H; replace H := qb H; obtain ⟨t416, A7, H⟩ := H; replace H := qn H; obtain ⟨c8, H⟩ := H; have LMc8 := qa c8; clear c8; obtain ⟨y417, hy_⟩ : ∃ y_ : List Int, y_ = (x3_1 ++ [t416]) := ⟨_, rfl⟩; replace H : (spec_NamedRow.l0 k1 a0 y417 (wrap64 (x4_1 + 1))) = some r := yh; have Ny417 := qa hy_; clear hy_; have H' := qa H; clear H
     go_wp2_with (first | (go_at_call 78; (with_reducible refine (spec_l1In.calls a0 0 7 true _ A5.out).mono ?_); rintro e w' ⟨rfl, ⟨nd, rfl⟩⟩) | ((with_reducible refine gate_callee (f := 85) rfl ?_); refine gol (some 17) Try.func85 #[.int .i64 a0, .int .i64 x4_1] ?_; (with_reducible refine (spec_l2Named.calls k1 a0 x4_1 t416 _ A7.out).mono ?_); rintro e w9 ⟨rfl, hb⟩; refine ⟨_, rfl, ?_⟩; replace HO_3 := qa (Kd.R_below (kR HO_3) hb); replace HB := qa (below_step (bl) hb)) | ((with_reducible refine gate_builtin (b := .append) (xs := #[.tmp 14, .tmp 18]) rfl ?_); at_builtin; refine Kd.R_append (Kd.int .i64) (w0 := w) w.heap.size rfl (.tmp 14) (.tmp 18) 23 3 (.int .i64 0) 8 rfl Try.underlying23 info3 rfl (by decide) (by omega) u3 x3_1 t416 [.int .i64 t416] (fun _ => True) (fun _ => False) rfl rfl ?aP (fun _ hk => hk.elim) ?aF ?aO ?aB ?aS ?aL ?_; (case aP => exact rfl); (case aB => exact (bl)); (case aF => exact (fun _ _ => trivial)); (case aO => exact (kR HO_3)); (case aS => exact (below_size (bl))); (case aL => have := LMc8.out; omega); intro v418 w10 ho hb hg hat; rw [← Ny417.out] at ho; replace HB := qa (hb); have HO419 := qa (ho); clear HO_3; clear ho hb hg hat))
     go_roundg k1
     case measure => have := HK1.out; omega
     case rel => exact ⟨(y417), (wrap64 (x4_1 + 1)), (sd), H', ⟨by have := HK1.out; omega⟩, ⟨kR HO419⟩, ⟨bl⟩⟩
    ·replace c6 := Bool.eq_false_iff.mpr c6; subst c6; replace H := qf H; obtain rfl := Option.some.inj H
     go_wp2_with (first | (go_at_call 78; (with_reducible refine (spec_l1In.calls a0 0 7 false _ A5.out).mono ?_); rintro e w' ⟨rfl, ⟨nd, rfl⟩⟩))
     go_ret; exact ⟨_, er, kR HO_3, bl⟩
   ·obtain rfl := Option.some.inj H; go_wp2; go_ret; exact ⟨_, er, kR HO_3, bl⟩

end Go.Proofs.Ytmgjidgfhlclmaa.PFnExactDeskRun
