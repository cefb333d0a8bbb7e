-- Written for this claim by a program of this session (wip/myprint.sh), after the kit's print; some functions by hand
import Derived.Test.YtmgjidgfhlclmaaPFnExactDeskRunx0
import Derived.Test.YtmgjidgfhlclmaaWPress
namespace Go.Proofs.Ytmgjidgfhlclmaa.PFnExactDeskRun
open Go.RowKit Go.Proofs.YtmgjidgfhlclmaaW.PrintWords Go.Proofs.YtmgjidgfhlclmaaW.PrintLast Go.Proofs.YtmgjidgfhlclmaaW.PrintMore
attribute [local go_sem] max2_int min2_int max_two min_two max_three min_three max_four min_four   -- for this text's walks alone
set_option linter.unusedVariables false
set_option linter.unusedSimpArgs false

/-! ### laws_szIntS: function 55 -/
def laws_szIntS.f (l0 : List Int) (a1 : Int) : Option (Int) := if (wrap64 (a1 - (l0.length : Int))) < 0 then (some (-1)) else (some (wrap64 (a1 - (l0.length : Int))))
set_option maxHeartbeats 8000000 in
set_option maxRecDepth 100000 in
theorem laws_szIntS.calls (A0 : Option Addr) (c0 : Nat) (l0 : List Int) (a1 : Int) (r : Int) (w : World) (hr0 : Kd.C (Kd.int .i64) w A0 l0.length l0) (hc0 : l0.length ≤ c0) (h : laws_szIntS.f l0 a1 = some r) :
  Calls Try.prog 55 #[.slice A0 l0.length c0, .int .i64 a1] w fun e w' => e = .returned (.int .i64 r) ∧ Drawn0 w w' := by
 have HR0 := qa hr0; have HC0 := qa hc0; clear hr0 hc0; have H : (if (wrap64 (a1 - (l0.length : Int))) < 0 then (some (-1)) else (some (wrap64 (a1 - (l0.length : Int))))) = some r := h; clear h; replace H := qe H; obtain ⟨c3b0, H⟩ | ⟨c3b0, H⟩ := H
 ·obtain rfl := Option.some.inj H
  go_enter Try.func55, Try.ntmps55
  go_wp2; go_ret; exact ⟨sd, dr⟩
 ·obtain rfl := Option.some.inj H
  go_enter Try.func55, Try.ntmps55
  go_wp2; go_ret; exact ⟨sd, dr⟩

/-! ### laws_szIntSS: function 56 -/
def laws_szIntSS.l0 : Nat → List (List Int) → Int → Int → Option (Int)
 | 0, _, _, _ => none
 | k + 1, x0, x1, x5 => if x5 < (x0.length : Int) then (if 0 ≤ x5 then ((laws_szIntS.f (rd_L1 x0 x5) x1).bind fun t102 => (if t102 < 0 then (some (-1)) else (laws_szIntSS.l0 k x0 t102 (wrap64 (x5 + 1))))) else (none)) else (some x1)
def laws_szIntSS.f (k : Nat) (l0 : List (List Int)) (a1 : Int) : Option (Int) := if (wrap64 (a1 - (l0.length : Int))) < 0 then (some (-1)) else (laws_szIntSS.l0 k l0 (wrap64 (a1 - (l0.length : Int))) 0)
set_option maxHeartbeats 8000000 in
set_option maxRecDepth 100000 in
theorem laws_szIntSS.calls (k : Nat) (A0 : Option Addr) (c0 : Nat) (l0 : List (List Int)) (a1 : Int) (r : Int) (w : World) (hr0 : Kd.C (Kd.slice 3 (Kd.int .i64)) w A0 l0.length l0) (hc0 : l0.length ≤ c0) (h : laws_szIntSS.f k l0 a1 = some r) :
  Calls Try.prog 56 #[.slice A0 l0.length c0, .int .i64 a1] w fun e w' => e = .returned (.int .i64 r) ∧ Drawn0 w w' := by
 have HR0 := qa hr0; have HC0 := qa hc0; clear hr0 hc0; have H : (if (wrap64 (a1 - (l0.length : Int))) < 0 then (some (-1)) else (laws_szIntSS.l0 k l0 (wrap64 (a1 - (l0.length : Int))) 0)) = some r := h; clear h; replace H := qe H; obtain ⟨c3b0, H⟩ | ⟨c3b0, H⟩ := H
 ·obtain rfl := Option.some.inj H
  go_enter Try.func56, Try.ntmps56
  go_wp2; go_ret; exact ⟨sd, dr⟩
 ·have H' := qa H; clear H
  go_enter Try.func56, Try.ntmps56
  go_wp2
  go_loopg [1, 5] k (fun kq v1 v5 w' => ∃ (x1_1 : Int) (x5_1 : Int), v1 = .int .i64 x1_1 ∧ v5 = .int .i64 x5_1 ∧ Aside0 (laws_szIntSS.l0 kq l0 x1_1 x5_1 = some r) ∧ Aside0 (kq ≤ k) ∧ Drawn0 w w')
  case atStart => exact ⟨(wrap64 (a1 - (l0.length : Int))), (0), (sd), (sd), H', ⟨Nat.le_refl _⟩, dr⟩
  case round =>
   clear H'; obtain ⟨x1_1, x5_1, rfl, rfl, HA, HK1, ⟨m1, rfl⟩⟩ := hrel
   cases gk with
   | zero => exact absurd HA.out (by simp [laws_szIntSS.l0])
   | succ k1 =>
    have H := HA.out; clear HA; simp only [laws_szIntSS.l0] at H; replace H := qe H; obtain ⟨c4b0, H⟩ | ⟨c4b0, H⟩ := H
    ·replace H := qd H; obtain ⟨c5b0, H⟩ := H; replace H := qb H; obtain ⟨t102, A6, H⟩ := H; replace H := qe H; obtain ⟨c7b0, H⟩ | ⟨c7b0, H⟩ := H
     ·obtain rfl := Option.some.inj H; have p101 : 0 ≤ (x5_1 : Int) := qo; have q101 : x5_1 < (l0.length : Int) := qo; obtain ⟨ad101, A101_0, c101_0, e101, hx101_0, hl101_0, hi101_0⟩ := at_L1 HR0.out x5_1 p101 q101; cases e101; have HR101_0 := qa hi101_0; have HC101_0 := qa hl101_0; clear hi101_0 hl101_0; replace p101 := eq_true p101; replace q101 := eq_true q101
      go_wp2_with (first | ((with_reducible refine gate_callee (f := 55) rfl ?_); refine gol (some 23) Try.func55 #[.slice A101_0 (rd_L1 l0 x5_1).length c101_0, .int .i64 x1_1] ?_; (with_reducible refine (laws_szIntS.calls _ _ (rd_L1 l0 x5_1) x1_1 t102 _ ?side1 ?side2 A6.out).mono ?_); (case side1 => exact cx HR101_0.out); (case side2 => exact HC101_0.out); rintro e w' ⟨rfl, ⟨nd, rfl⟩⟩; refine ⟨_, rfl, ?_⟩))
      go_ret; exact ⟨sd, dr⟩
     ·have H' := qa H; clear H; have p101 : 0 ≤ (x5_1 : Int) := qo; have q101 : x5_1 < (l0.length : Int) := qo; obtain ⟨ad101, A101_0, c101_0, e101, hx101_0, hl101_0, hi101_0⟩ := at_L1 HR0.out x5_1 p101 q101; cases e101; have HR101_0 := qa hi101_0; have HC101_0 := qa hl101_0; clear hi101_0 hl101_0; replace p101 := eq_true p101; replace q101 := eq_true q101
      go_wp2_with (first | ((with_reducible refine gate_callee (f := 55) rfl ?_); refine gol (some 23) Try.func55 #[.slice A101_0 (rd_L1 l0 x5_1).length c101_0, .int .i64 x1_1] ?_; (with_reducible refine (laws_szIntS.calls _ _ (rd_L1 l0 x5_1) x1_1 t102 _ ?side1 ?side2 A6.out).mono ?_); (case side1 => exact cx HR101_0.out); (case side2 => exact HC101_0.out); rintro e w' ⟨rfl, ⟨nd, rfl⟩⟩; refine ⟨_, rfl, ?_⟩))
      go_roundg k1
      case measure => have := HK1.out; omega
      case rel => exact ⟨(t102), (wrap64 (x5_1 + 1)), (sd), (sd), H', ⟨by have := HK1.out; omega⟩, dr⟩
    ·obtain rfl := Option.some.inj H; go_wp2; go_ret; exact ⟨sd, dr⟩

/-! ### laws_szDesk: function 16 -/
def laws_szDesk.f (k : Nat) (l0_0 : List Int) (l0_1 : List (List Int)) (a1 : Int) : Option (Int) := (laws_szIntS.f l0_0 a1).bind fun t104 => (if t104 < 0 then (some (-1)) else ((laws_szIntSS.f k l0_1 t104).bind fun t105 => (if t105 < 0 then (some (-1)) else (some t105))))
set_option maxHeartbeats 8000000 in
set_option maxRecDepth 100000 in
theorem laws_szDesk.calls (k : Nat) (A0_0 : Option Addr) (c0_0 : Nat) (l0_0 : List Int) (A0_1 : Option Addr) (c0_1 : Nat) (l0_1 : List (List Int)) (a1 : Int) (r : Int) (w : World) (hr0_0 : Kd.C (Kd.int .i64) w A0_0 l0_0.length l0_0) (hc0_0 : l0_0.length ≤ c0_0) (hr0_1 : Kd.C (Kd.slice 3 (Kd.int .i64)) w A0_1 l0_1.length l0_1) (hc0_1 : l0_1.length ≤ c0_1) (h : laws_szDesk.f k l0_0 l0_1 a1 = some r) :
  Calls Try.prog 16 #[.agg #[.slice A0_0 l0_0.length c0_0, .slice A0_1 l0_1.length c0_1], .int .i64 a1] w fun e w' => e = .returned (.int .i64 r) ∧ Below w.heap.size w w' := by
 have hu41 := Try.underlying41; have HR0_0 := qa hr0_0; have HC0_0 := qa hc0_0; clear hr0_0 hc0_0; have HR0_1 := qa hr0_1; have HC0_1 := qa hc0_1; clear hr0_1 hc0_1; have HB := qa (Below.refl w.heap.size w); have H : ((laws_szIntS.f l0_0 a1).bind fun t104 => (if t104 < 0 then (some (-1)) else ((laws_szIntSS.f k l0_1 t104).bind fun t105 => (if t105 < 0 then (some (-1)) else (some t105))))) = some r := h; clear h; replace H := qb H; obtain ⟨t104, A3, H⟩ := H; replace H := qe H; obtain ⟨c4b0, H⟩ | ⟨c4b0, H⟩ := H
 ·obtain rfl := Option.some.inj H
  go_enter Try.func16, Try.ntmps16
  go_wp2_with (first | ((with_reducible refine gate_dst (N := 2) rfl ?_); refine bx #[.slice A0_0 l0_0.length c0_0, .slice A0_1 l0_1.length c0_1] 41 ?_; intro gb103 hg w5 hbox hb; have BK103 := qa (hbox); have GW103 := gw hg; have GE103 := gw hg; replace HB := qa (below_step (bl) hb); clear hb hbox hg; obtain ⟨hcz6_0, hcz6_1, hfz6_0, hfz6_1⟩ := qk2 BK103) | ((with_reducible refine gate_callee (f := 55) rfl ?_); refine gol (some 8) Try.func55 #[.slice A0_0 l0_0.length c0_0, .int .i64 a1] ?_; (with_reducible refine (laws_szIntS.calls _ _ l0_0 a1 t104 _ ?side1 ?side2 A3.out).mono ?_); (case side1 => exact cx (Kd.C_below HR0_0.out HB.out)); (case side2 => exact HC0_0.out); rintro e w' ⟨rfl, ⟨nd, rfl⟩⟩; refine ⟨_, rfl, ?_⟩))
  go_ret; exact ⟨er, bl⟩
 ·replace H := qb H; obtain ⟨t105, A7, H⟩ := H; replace H := qe H; obtain ⟨c8b0, H⟩ | ⟨c8b0, H⟩ := H
  ·obtain rfl := Option.some.inj H
   go_enter Try.func16, Try.ntmps16
   go_wp2_with (first | ((with_reducible refine gate_dst (N := 2) rfl ?_); refine bx #[.slice A0_0 l0_0.length c0_0, .slice A0_1 l0_1.length c0_1] 41 ?_; intro gb103 hg w9 hbox hb; have BK103 := qa (hbox); have GW103 := gw hg; have GE103 := gw hg; replace HB := qa (below_step (bl) hb); clear hb hbox hg; obtain ⟨hcz10_0, hcz10_1, hfz10_0, hfz10_1⟩ := qk2 BK103) | ((with_reducible refine gate_callee (f := 55) rfl ?_); refine gol (some 8) Try.func55 #[.slice A0_0 l0_0.length c0_0, .int .i64 a1] ?_; (with_reducible refine (laws_szIntS.calls _ _ l0_0 a1 t104 _ ?side1 ?side2 A3.out).mono ?_); (case side1 => exact cx (Kd.C_below HR0_0.out HB.out)); (case side2 => exact HC0_0.out); rintro e w' ⟨rfl, ⟨nd, rfl⟩⟩; refine ⟨_, rfl, ?_⟩) | ((with_reducible refine gate_callee (f := 56) rfl ?_); refine gol (some 14) Try.func56 #[.slice A0_1 l0_1.length c0_1, .int .i64 t104] ?_; (with_reducible refine (laws_szIntSS.calls k _ _ l0_1 t104 t105 _ ?side1 ?side2 A7.out).mono ?_); (case side1 => exact cx (Kd.C_below HR0_1.out (bl))); (case side2 => exact HC0_1.out); rintro e w' ⟨rfl, ⟨nd, rfl⟩⟩; refine ⟨_, rfl, ?_⟩))
   go_ret; exact ⟨er, bl⟩
  ·obtain rfl := Option.some.inj H
   go_enter Try.func16, Try.ntmps16
   go_wp2_with (first | ((with_reducible refine gate_dst (N := 2) rfl ?_); refine bx #[.slice A0_0 l0_0.length c0_0, .slice A0_1 l0_1.length c0_1] 41 ?_; intro gb103 hg w11 hbox hb; have BK103 := qa (hbox); have GW103 := gw hg; have GE103 := gw hg; replace HB := qa (below_step (bl) hb); clear hb hbox hg; obtain ⟨hcz12_0, hcz12_1, hfz12_0, hfz12_1⟩ := qk2 BK103) | ((with_reducible refine gate_callee (f := 55) rfl ?_); refine gol (some 8) Try.func55 #[.slice A0_0 l0_0.length c0_0, .int .i64 a1] ?_; (with_reducible refine (laws_szIntS.calls _ _ l0_0 a1 t104 _ ?side1 ?side2 A3.out).mono ?_); (case side1 => exact cx (Kd.C_below HR0_0.out HB.out)); (case side2 => exact HC0_0.out); rintro e w' ⟨rfl, ⟨nd, rfl⟩⟩; refine ⟨_, rfl, ?_⟩) | ((with_reducible refine gate_callee (f := 56) rfl ?_); refine gol (some 14) Try.func56 #[.slice A0_1 l0_1.length c0_1, .int .i64 t104] ?_; (with_reducible refine (laws_szIntSS.calls k _ _ l0_1 t104 t105 _ ?side1 ?side2 A7.out).mono ?_); (case side1 => exact cx (Kd.C_below HR0_1.out (bl))); (case side2 => exact HC0_1.out); rintro e w' ⟨rfl, ⟨nd, rfl⟩⟩; refine ⟨_, rfl, ?_⟩))
   go_ret; exact ⟨er, bl⟩

/-! ### laws_toIntS: function 57 -/
def laws_toIntS.l0 : Nat → List Int → List Int → Int → Option (List Int)
 | 0, _, _, _ => none
 | k + 1, x0, x3, x4 => if x4 < (x0.length : Int) then (if 0 ≤ x4 then (if x4 < (x3.length : Int) then (laws_toIntS.l0 k x0 (x3.set (x4 : Int).toNat (rd x0 x4)) (wrap64 (x4 + 1))) else (none)) else (none)) else (some x3)
def laws_toIntS.f (k : Nat) (l0 : List Int) : Option (List Int) := if 0 ≤ (l0.length : Int) then (if ((l0.length : Int) : Int).toNat ≤ 35184372088832 then (laws_toIntS.l0 k l0 (List.replicate ((l0.length : Int) : Int).toNat 0) 0) else (none)) else (none)
set_option maxHeartbeats 8000000 in
set_option maxRecDepth 100000 in
theorem laws_toIntS.calls (k : Nat) (A0 : Option Addr) (c0 : Nat) (l0 : List Int) (r : List Int) (w : World) (hr0 : Kd.C (Kd.int .i64) w A0 l0.length l0) (hc0 : l0.length ≤ c0) (h : laws_toIntS.f k l0 = some r) :
  Calls Try.prog 57 #[.slice A0 l0.length c0] w fun e w' => ∃ v0_ : Value, e = .returned (v0_) ∧ Kd.R (Kd.int .i64) 3 w' w.heap.size (fun _ => True) v0_ r ∧ Below w.heap.size w w' := by
 have HR0 := qa hr0; have HC0 := qa hc0; clear hr0 hc0; have HB := qa (Below.refl w.heap.size w); have H : (if 0 ≤ (l0.length : Int) then (if ((l0.length : Int) : Int).toNat ≤ 35184372088832 then (laws_toIntS.l0 k l0 (List.replicate ((l0.length : Int) : Int).toNat 0) 0) else (none)) else (none)) = some r := h; clear h
 by_cases c2 : 0 ≤ (l0.length : Int)
 ·rw [if_pos c2] at H; have c2b0 := eq_true c2; have c2b1 : decide (0 ≤ (l0.length : Int)) = true := decide_eq_true c2; clear c2; replace H := qn H; obtain ⟨c3, H⟩ := H; have c3b0 := eq_true c3; have c3b1 : decide (((l0.length : Int) : Int).toNat ≤ 35184372088832) = true := decide_eq_true c3; clear c3; obtain ⟨y106, hy_⟩ : ∃ y_ : List Int, y_ = (List.replicate ((l0.length : Int) : Int).toNat 0) := ⟨_, rfl⟩; replace H : (laws_toIntS.l0 k l0 y106 0) = some r := yh; have Ny106 := qa hy_; clear hy_; have H' := qa H; clear H
  go_enter Try.func57, Try.ntmps57
  go_wp2_with (first | ((with_reducible refine gate_dst (N := 7) rfl ?_); refine Kd.R_make (Kd.int .i64) _ 3 rfl (N := 7) rfl 23 _ _ rfl (l0.length : Int) rfl rfl Try.underlying23 (.int .i64 0) 8 info3 rfl (by decide) (by omega) 0 (ok := fun _ => True) (okp := fun _ => True) rfl (fun _ hk => hk) trivial (qo) (Nat.le_trans (Nat.mul_le_mul_right _ (qo : (l0.length : Int).toNat ≤ 35184372088832)) (by omega)) (Below.refl _ _) (Nat.le_refl _) ?_; intro v107 w4 ho5 hb hg_ hnew_; clear hg_ hnew_; (first | rw [← Ny106.out] at ho5 | (simp only [Int.reduceToNat] at ho5; rw [← Ny106.out] at ho5)); have HO108 := qa (Kd.R_lower ho5 (below_size (bl))); replace HB := qa (below_step (bl) hb); clear hb ho5))
  go_loopg [4] k (fun kq v4 w' => ∃ (x3_1 : List Int) (x4_1 : Int), v4 = .int .i64 x4_1 ∧ Aside0 (laws_toIntS.l0 kq l0 x3_1 x4_1 = some r) ∧ Aside0 (kq ≤ k) ∧ Aside0 (Kd.R (Kd.int .i64) 3 w' w.heap.size (fun _ => True) v107 x3_1) ∧ Aside0 (Below w.heap.size w w'))
  case atStart => exact ⟨(y106), (0), (sd), H', ⟨Nat.le_refl _⟩, ⟨kR HO108⟩, ⟨bl⟩⟩
  case round =>
   clear H'; obtain ⟨x3_1, x4_1, rfl, HA, HK1, HO_3, HB⟩ := hrel
   cases gk with
   | zero => exact absurd HA.out (by simp [laws_toIntS.l0])
   | succ k1 =>
    have H := HA.out; clear HA; simp only [laws_toIntS.l0] at H; replace H := qe H; obtain ⟨c6b0, H⟩ | ⟨c6b0, H⟩ := H
    ·replace H := qd H; obtain ⟨c7b0, H⟩ := H; replace H := qd H; obtain ⟨c8b0, H⟩ := H; obtain ⟨y110, hy_⟩ : ∃ y_ : List Int, y_ = (x3_1.set (x4_1 : Int).toNat (rd l0 x4_1)) := ⟨_, rfl⟩; replace H : (laws_toIntS.l0 k1 l0 y110 (wrap64 (x4_1 + 1))) = some r := yh; have Ny110 := qa hy_; clear hy_; have H' := qa H; clear H; have p109 : 0 ≤ (x4_1 : Int) := qo; have q109 : x4_1 < (l0.length : Int) := qo; obtain ⟨ad109, e109, hx109_0⟩ := Kd.at_int HR0.out x4_1 p109 q109; cases e109; (try replace hx109_0 := (HB.out.cell (World.block_lt_of_cell? w _ hx109_0)).trans hx109_0); replace p109 := eq_true p109; replace q109 := eq_true q109; have p9 : 0 ≤ (x4_1 : Int) := qo; have q9 : (x4_1 : Int) < ((x3_1.length : Int) : Int) := qo; obtain ⟨go9, co9, eo9, gb9, gl9, cl9, HG9⟩ := Kd.R_form HO_3.out (by omega); (first | cases eo9 | (injection eo9 with ea_ en_ ec_; (first | subst ea_ | (injection ea_ with ea_; subst ea_)); subst ec_; clear en_)); have GB9 := qa gb9; have GG9 := qa HG9; clear gb9 gl9 HG9; obtain ⟨hx9_0, hf9_0⟩ := Kd.R_celln 0 HO_3.out (x4_1 : Int) p9 q9; replace p9 := eq_true p9; replace q9 := eq_true q9; have HP10 := Kd.R_putg HO_3.out (x4_1 : Int) (rd l0 x4_1)
     go_wp2_with (first | ((with_reducible refine gate_store (t := 3) (p := 20) rfl ?_); refine store_event (t := 3) (p := 20) (v := ?vo_w11) (w1 := (wr.setCell ⟨go9, (x4_1 : Int).toNat, none⟩ (.int .i64 (rd l0 x4_1)))) ?hg ?ho ?hn ?hr ?_; (case ho => rfl); (case hg => rfl); (case hn => rfl); (case hr => exact gr); intro w11 hw; have hg : wr.grownBy w11 (some go9) := (by rw [hw]; exact HP10.2); have hp_ : Kd.R (Kd.int .i64) 3 w11 w.heap.size (fun _ => True) (.slice (some ⟨go9, 0, none⟩) x3_1.length co9) y110 := (by rw [hw, Ny110.out]; exact HP10.1); clear HP10; replace HO_3 := qa (hp_); replace HB := qa ((by rw [hw]; exact below_set (HB.out) GB9.out : Below w.heap.size w w11)); clear hg hw hp_))
     go_roundg k1
     case measure => have := HK1.out; omega
     case rel => exact ⟨(y110), (wrap64 (x4_1 + 1)), (sd), H', ⟨by have := HK1.out; omega⟩, ⟨kR HO_3⟩, ⟨bl⟩⟩
    ·obtain rfl := Option.some.inj H; go_wp2; go_ret; exact ⟨_, er, kR HO_3, bl⟩
 ·rw [if_neg c2] at H; exact absurd H (by simp)

/-! ### laws_toIntSS: function 58 -/
def laws_toIntSS.l0 : Nat → List (List Int) → List (List Int) → Int → Option ((List (List Int)))
 | 0, _, _, _ => none
 | k + 1, x0, x3, x4 => if x4 < (x0.length : Int) then (if 0 ≤ x4 then ((laws_toIntS.f k (rd_L1 x0 x4)).bind fun t115 => (if x4 < (x3.length : Int) then (laws_toIntSS.l0 k x0 (x3.set (x4 : Int).toNat t115) (wrap64 (x4 + 1))) else (none))) else (none)) else (some x3)
def laws_toIntSS.f (k : Nat) (l0 : List (List Int)) : Option ((List (List Int))) := if 0 ≤ (l0.length : Int) then (if ((l0.length : Int) : Int).toNat ≤ 11728124029610 then (laws_toIntSS.l0 k l0 (List.replicate ((l0.length : Int) : Int).toNat []) 0) else (none)) else (none)
set_option maxHeartbeats 8000000 in
set_option maxRecDepth 100000 in
theorem laws_toIntSS.calls (k : Nat) (A0 : Option Addr) (c0 : Nat) (l0 : List (List Int)) (r : List (List Int)) (w : World) (hr0 : Kd.C (Kd.slice 3 (Kd.int .i64)) w A0 l0.length l0) (hc0 : l0.length ≤ c0) (h : laws_toIntSS.f k l0 = some r) :
  Calls Try.prog 58 #[.slice A0 l0.length c0] w fun e w' => ∃ v0_ : Value, e = .returned (v0_) ∧ Kd.S (Kd.slice 3 (Kd.int .i64)) 23 w' w.heap.size (fun _ => True) v0_ r ∧ Below w.heap.size w w' := by
 have HR0 := qa hr0; have HC0 := qa hc0; clear hr0 hc0; have HB := qa (Below.refl w.heap.size w); have H : (if 0 ≤ (l0.length : Int) then (if ((l0.length : Int) : Int).toNat ≤ 11728124029610 then (laws_toIntSS.l0 k l0 (List.replicate ((l0.length : Int) : Int).toNat []) 0) else (none)) else (none)) = some r := h; clear h
 by_cases c2 : 0 ≤ (l0.length : Int)
 ·rw [if_pos c2] at H; have c2b0 := eq_true c2; have c2b1 : decide (0 ≤ (l0.length : Int)) = true := decide_eq_true c2; clear c2; replace H := qn H; obtain ⟨c3, H⟩ := H; have c3b0 := eq_true c3; have c3b1 : decide (((l0.length : Int) : Int).toNat ≤ 11728124029610) = true := decide_eq_true c3; clear c3; obtain ⟨y111, hy_⟩ : ∃ y_ : List (List Int), y_ = (List.replicate ((l0.length : Int) : Int).toNat []) := ⟨_, rfl⟩; replace H : (laws_toIntSS.l0 k l0 y111 0) = some r := yh; have Ny111 := qa hy_; clear hy_; have H' := qa H; clear H
  go_enter Try.func58, Try.ntmps58
  go_wp2_with (first | ((with_reducible refine gate_dst (N := 7) rfl ?_); refine Kd.S_make (Kd.slice 3 (Kd.int .i64)) _ 23 rfl (N := 7) rfl 24 _ _ rfl (l0.length : Int) rfl rfl Try.underlying24 (.slice none 0 0) 24 info23 rfl (by decide) (by omega) [] (ok := fun _ => True) (okp := fun _ => True) ⟨_, rfl, Kd.R_nil _ _ _ _ _⟩ (fun _ hk => hk) trivial (qo) (Nat.le_trans (Nat.mul_le_mul_right _ (qo : (l0.length : Int).toNat ≤ 11728124029610)) (by omega)) (Below.refl _ _) (Nat.le_refl _) ?_; intro v112 w4 ho5 hb hg_ hnew_; clear hg_ hnew_; (first | rw [← Ny111.out] at ho5 | (simp only [Int.reduceToNat] at ho5; rw [← Ny111.out] at ho5)); have HO113 := qa (Kd.S_lower ho5 (below_size (bl))); replace HB := qa (below_step (bl) hb); clear hb ho5))
  go_loopg [4] k (fun kq v4 w' => ∃ (x3_1 : List (List Int)) (x4_1 : Int), v4 = .int .i64 x4_1 ∧ Aside0 (laws_toIntSS.l0 kq l0 x3_1 x4_1 = some r) ∧ Aside0 (kq ≤ k) ∧ Aside0 (Kd.S (Kd.slice 3 (Kd.int .i64)) 23 w' w.heap.size (fun _ => True) v112 x3_1) ∧ Aside0 (Below w.heap.size w w'))
  case atStart => exact ⟨(y111), (0), (sd), H', ⟨Nat.le_refl _⟩, ⟨kS HO113⟩, ⟨bl⟩⟩
  case round =>
   clear H'; obtain ⟨x3_1, x4_1, rfl, HA, HK1, HO_3, HB⟩ := hrel
   cases gk with
   | zero => exact absurd HA.out (by simp [laws_toIntSS.l0])
   | succ k1 =>
    have H := HA.out; clear HA; simp only [laws_toIntSS.l0] at H; replace H := qe H; obtain ⟨c6b0, H⟩ | ⟨c6b0, H⟩ := H
    ·replace H := qd H; obtain ⟨c7b0, H⟩ := H; replace H := qb H; obtain ⟨t115, A8, H⟩ := H; replace H := qd H; obtain ⟨c9b0, H⟩ := H; obtain ⟨y118, hy_⟩ : ∃ y_ : List (List Int), y_ = (x3_1.set (x4_1 : Int).toNat t115) := ⟨_, rfl⟩; replace H : (laws_toIntSS.l0 k1 l0 y118 (wrap64 (x4_1 + 1))) = some r := yh; have Ny118 := qa hy_; clear hy_; have H' := qa H; clear H; have p114 : 0 ≤ (x4_1 : Int) := qo; have q114 : x4_1 < (l0.length : Int) := qo; obtain ⟨ad114, A114_0, c114_0, e114, hx114_0, hl114_0, hi114_0⟩ := at_L1 HR0.out x4_1 p114 q114; cases e114; (try replace hx114_0 := (HB.out.cell (World.block_lt_of_cell? w _ hx114_0)).trans hx114_0); have HR114_0 := qa hi114_0; have HC114_0 := qa hl114_0; clear hi114_0 hl114_0; replace p114 := eq_true p114; replace q114 := eq_true q114
     go_wp2_with (first | ((with_reducible refine gate_callee (f := 57) rfl ?_); refine gol (some 20) Try.func57 #[.slice A114_0 (rd_L1 l0 x4_1).length c114_0] ?_; (with_reducible refine (laws_toIntS.calls k1 _ _ (rd_L1 l0 x4_1) t115 _ ?side1 ?side2 A8.out).mono ?_); (case side1 => exact cx (Kd.C_below HR114_0.out HB.out)); (case side2 => exact HC114_0.out); rintro e w11 ⟨v116, rfl, ho0, hb⟩; refine ⟨_, rfl, ?_⟩; replace HO_3 := qa (Kd.S_elder' (kS HO_3) (Kd.R_base ho0) hb); have HO117 := qa (Kd.R_lower ho0 (below_size (bl))); replace HB := qa (below_step (bl) hb); have p10 : 0 ≤ (x4_1 : Int) := qo; have q10 : (x4_1 : Int) < ((x3_1.length : Int) : Int) := qo; obtain ⟨go10, co10, eo10, gb10, gl10, cl10, HG10⟩ := Kd.S_form HO_3.out (by omega); (first | cases eo10 | (injection eo10 with ea_ en_ ec_; (first | subst ea_ | (injection ea_ with ea_; subst ea_)); subst ec_; clear en_)); have GB10 := qa gb10; have GG10 := qa HG10; clear gb10 gl10 HG10; obtain ⟨_, ce10, hcl10, hM10, hcc10, hfr10, _, _⟩ := Kd.S_elem HO_3.out [] (x4_1 : Int) p10 q10; obtain ⟨ve10_0, rfl, ge10_0⟩ := hM10; have hx10_0 := hcc10 0 _ rfl; have hf10_0 := hfr10 0; (try simp only [show ((Kd.slice 3 (Kd.int .i64))).sz = 1 from rfl, Nat.mul_one, Nat.add_zero] at hx10_0); (try simp only [show ((Kd.slice 3 (Kd.int .i64))).sz = 1 from rfl, Nat.mul_one, Nat.add_zero] at hf10_0); replace p10 := eq_true p10; replace q10 := eq_true q10; have n_ := qa (Kd.S_mono (ok' := (fun k_ => some k_ ≠ (v116 : Value).ownBlock)) HO_3.out (fun k_ hk => hk.2)); clear HO_3; have HO_3 := n_; clear n_; have HX12 := qa (show Kd.S (Kd.slice 3 (Kd.int .i64)) 23 w11 w.heap.size (fun k_ => ((fun _ => True)) k_ ∧ ¬ ((fun k_ => some k_ = (v116 : Value).ownBlock)) k_) (.slice (some ⟨go10, 0, none⟩) x3_1.length co10) x3_1 from (by (with_reducible repeat (first | apply Kd.S_alloc | apply Kd.S_drewN | apply Kd.S_drew)); exact Kd.S_mono HO_3.out (fun k_ hk => ⟨trivial, fun e_ => hk e_⟩))); obtain ⟨oki12, ce12, hcl12, hM12, hcc12, hfr12, hoki12, hH12⟩ := Kd.S_elem HX12.out [] (x4_1 : Int) (qo) (by have h_ : (x4_1 : Int) < ((x3_1.length : Int) : Int) := qo; first | exact h_ | (have e_ := (Kd.S_reads' HO_3.out).1; omega) | simpa using h_); obtain ⟨ve12_0, rfl, ge12_0⟩ := hM12; have HP12 := Kd.S_seg hH12 (qo) (by have h_ : (x4_1 : Int) < ((x3_1.length : Int) : Int) := qo; first | exact h_ | (have e_ := (Kd.S_reads' HO_3.out).1; omega) | simpa using h_) (seg := [v116]) (j := 0) (show 1 ≤ 1 from by decide) (x' := t115) (Kd.M_row (Kd.R_mono (Kd.R_tight rfl (Kd.R_mono (ok' := fun k_ => ((fun _ => True)) k_ ∧ k_ ≠ go10) (Kd.R_apart' (HO117.out) (Kd.S_typed HO_3.out) (by decide)) (fun k_ hk => ⟨trivial, fun e_ => (hk.2) (by rw [e_]; rfl)⟩))) (fun _ h_ => Or.inr (h_)))) (fun _ hk => hk) (fun k_ hk_ => ((Kd.R_mono (ok' := fun k_ => ((fun _ => True)) k_ ∧ k_ ≠ go10) (Kd.R_apart' (HO117.out) (Kd.S_typed HO_3.out) (by decide)) (fun k_ hk => ⟨trivial, fun e_ => (hk.2) (by rw [e_]; rfl)⟩))).1 k_ hk_.symm); have hx12_0 := hcc12 0 _ rfl; (try simp only [show ((Kd.slice 3 (Kd.int .i64))).sz = 1 from rfl, Nat.mul_one, Nat.add_zero] at hx12_0); have hf12_0 := hfr12 0; (try simp only [show ((Kd.slice 3 (Kd.int .i64))).sz = 1 from rfl, Nat.mul_one, Nat.add_zero] at hf12_0); (try simp only [show ((Kd.slice 3 (Kd.int .i64))).sz = 1 from rfl, Nat.mul_one, Nat.add_zero] at HP12)) | ((with_reducible refine gate_store (t := 23) (p := 21) rfl ?_); refine store_event (t := 23) (p := 21) (v := ?vo_w13) (w1 := (w11.setCell ⟨go10, (x4_1 : Int).toNat, none⟩ (v116))) ?hg ?ho ?hn ?hr ?_; (case ho => rfl); (case hg => rfl); (case hn => rfl); (case hr => first | (go_simp; done) | (go_simp; rfl) | (obtain ⟨aq_, cq_, eq_⟩ := Kd.R_slice HO117.out; (try subst eq_); first | (go_simp; done) | (go_simp; rfl))); intro w13 hw; have hg : w11.grownBy w13 (some go10) := (by rw [hw]; exact HP12.2); have hp_ : Kd.S (Kd.slice 3 (Kd.int .i64)) 23 w13 w.heap.size (fun _ => True) (.slice (some ⟨go10, 0, none⟩) x3_1.length co10) y118 := (by rw [hw, Ny118.out]; exact HP12.1); clear HP12; replace HO_3 := qa (hp_); replace HB := qa ((by rw [hw]; exact below_set (HB.out) GB10.out : Below w.heap.size w w13)); clear HO117; clear hg hw hp_))
     go_roundg k1
     case measure => have := HK1.out; omega
     case rel => exact ⟨(y118), (wrap64 (x4_1 + 1)), (sd), H', ⟨by have := HK1.out; omega⟩, ⟨kS HO_3⟩, ⟨bl⟩⟩
    ·obtain rfl := Option.some.inj H; go_wp2; go_ret; exact ⟨_, er, kS HO_3, bl⟩
 ·rw [if_neg c2] at H; exact absurd H (by simp)

/-! ### laws_toDesk: function 17 -/
def laws_toDesk.f (k : Nat) (l0_0 : List Int) (l0_1 : List (List Int)) : Option (List Int × (List (List Int))) := (laws_toIntS.f k l0_0).bind fun t122 => ((laws_toIntSS.f k l0_1).bind fun t125 => (some (t122, t125)))
set_option maxHeartbeats 8000000 in
set_option maxRecDepth 100000 in
theorem laws_toDesk.calls (k : Nat) (A0_0 : Option Addr) (c0_0 : Nat) (l0_0 : List Int) (A0_1 : Option Addr) (c0_1 : Nat) (l0_1 : List (List Int)) (r1 : List Int) (r2 : List (List Int)) (w : World) (hr0_0 : Kd.C (Kd.int .i64) w A0_0 l0_0.length l0_0) (hc0_0 : l0_0.length ≤ c0_0) (hr0_1 : Kd.C (Kd.slice 3 (Kd.int .i64)) w A0_1 l0_1.length l0_1) (hc0_1 : l0_1.length ≤ c0_1) (h : laws_toDesk.f k l0_0 l0_1 = some (r1, r2)) :
  Calls Try.prog 17 #[.agg #[.slice A0_0 l0_0.length c0_0, .slice A0_1 l0_1.length c0_1]] w fun e w' => ∃ v0_ v1_ : Value, e = .returned (.agg #[v0_, v1_]) ∧ Kd.R (Kd.int .i64) 3 w' w.heap.size (fun _ => True) v0_ r1 ∧ Kd.S (Kd.slice 3 (Kd.int .i64)) 23 w' w.heap.size (fun k_ => some k_ ≠ (v0_ : Value).ownBlock) v1_ r2 ∧ Below w.heap.size w w' := by
 have hu41 := Try.underlying41; have hu26 := Try.underlying26; have HR0_0 := qa hr0_0; have HC0_0 := qa hc0_0; clear hr0_0 hc0_0; have HR0_1 := qa hr0_1; have HC0_1 := qa hc0_1; clear hr0_1 hc0_1; have HB := qa (Below.refl w.heap.size w); have H : ((laws_toIntS.f k l0_0).bind fun t122 => ((laws_toIntSS.f k l0_1).bind fun t125 => (some (t122, t125)))) = some (r1, r2) := h; clear h; replace H := qb H; obtain ⟨t122, A2, H⟩ := H; replace H := qb H; obtain ⟨t125, A3, H⟩ := H; simp only [Option.some.injEq, Prod.mk.injEq] at H; obtain ⟨rfl, rfl⟩ := H
 go_enter Try.func17, Try.ntmps17
 go_wp2_with (first | ((with_reducible refine gate_dst (N := 1) rfl ?_); refine bx #[.slice A0_0 l0_0.length c0_0, .slice A0_1 l0_1.length c0_1] 41 ?_; intro gb119 hg w4 hbox hb; have BK119 := qa (hbox); have GW119 := gw hg; have GE119 := gw hg; replace HB := qa (below_step (bl) hb); clear hb hbox hg) | ((with_reducible refine gate_dst (N := 2) rfl ?_); refine bx #[.slice none 0 0, .slice none 0 0] 26 ?_; intro gb120 hg w5 hbox hb; have BK120 := qa (hbox); have GW120 := gw hg; have GE120 := gw hg; replace HB := qa (below_step (bl) hb); have NB119_120 := qnl hg BK119; have NB120_119 := qng hg BK119; replace BK119 := qbb BK119 hb; clear hb hbox hg) | ((with_reducible refine gate_dst (N := 3) rfl ?_); refine bx #[.slice none 0 0, .slice none 0 0] 26 ?_; intro gb121 hg w6 hbox hb; have BK121 := qa (hbox); have GW121 := gw hg; have GE121 := gw hg; replace HB := qa (below_step (bl) hb); have NB119_121 := qnl hg BK119; have NB121_119 := qng hg BK119; replace BK119 := qbb BK119 hb; have NB120_121 := qnl hg BK120; have NB121_120 := qng hg BK120; replace BK120 := qbb BK120 hb; clear hb hbox hg; have hnb7 := NB119_120.out; have hnc7 := NB120_119.out; have hnb8 := NB119_121.out; have hnc8 := NB121_119.out; obtain ⟨hcz9_0, hcz9_1, hfz9_0, hfz9_1⟩ := qk2 BK119) | ((with_reducible refine gate_callee (f := 57) rfl ?_); refine gol (some 6) Try.func57 #[.slice A0_0 l0_0.length c0_0] ?_; (with_reducible refine (laws_toIntS.calls k _ _ l0_0 t122 _ ?side1 ?side2 A2.out).mono ?_); (case side1 => exact cx (Kd.C_below HR0_0.out HB.out)); (case side2 => exact HC0_0.out); rintro e w10 ⟨v123, rfl, ho0, hb⟩; refine ⟨_, rfl, ?_⟩; have HO124 := qa (Kd.R_lower ho0 (below_size (bl))); replace BK119 := qbb BK119 hb; replace BK120 := qbb BK120 hb; replace BK121 := qbb BK121 hb; replace HB := qa (below_step (bl) hb); obtain ⟨Ao11, co11, eo11⟩ := Kd.R_slice HO124.out; subst eo11; have hnb12 := NB121_120.out; have hnc12 := NB120_121.out; obtain ⟨hcz13_0, hcz13_1, hfz13_0, hfz13_1⟩ := qk2 BK121; obtain ⟨hcz14_0, hcz14_1, hfz14_0, hfz14_1⟩ := qk2 BK119) | ((with_reducible refine gate_callee (f := 58) rfl ?_); refine gol (some 10) Try.func58 #[.slice A0_1 l0_1.length c0_1] ?_; (with_reducible refine (laws_toIntSS.calls k _ _ l0_1 t125 _ ?side1 ?side2 A3.out).mono ?_); (case side1 => exact Kd.C_below HR0_1.out (bl)); (case side2 => exact HC0_1.out); rintro e w15 ⟨v126, rfl, ho0, hb⟩; refine ⟨_, rfl, ?_⟩; have HO127 := qa (Kd.S_lower (Kd.S_new' ho0 (Kd.R_lt (kFR HO124 BK121 (fun _ h_ => h_.1)))) (below_size (bl))); replace HO124 := qa (Kd.R_below (kFR HO124 BK121 (fun _ h_ => h_.1)) hb); replace BK119 := qbb BK119 hb; replace BK120 := qbb BK120 hb; replace BK121 := qa (blk_below (g := gb121) (o := .cells #[.slice Ao11 t122.length co11, .slice none 0 0] 26 (0, 0)) (kP BK121) hb); replace HB := qa (below_step (bl) hb); obtain ⟨Ao16, co16, eo16⟩ := Kd.S_slice HO127.out; subst eo16; obtain ⟨hcz17_0, hcz17_1, hfz17_0, hfz17_1⟩ := qk2 BK121; obtain ⟨hcz18_0, hcz18_1, hfz18_0, hfz18_1⟩ := qk2 BK120))
 refine bodyPost_ret (results_cell_row rfl _ _ gb120 26 #[.slice Ao11 t122.length co11, .slice Ao16 t125.length co16] (0, 0) _ rfl (by (with_reducible repeat (first | refine blk_drewN ?_ _ | refine blk_drew ?_ | refine blk_alloc ?_ _)); refine blk_put (cs := #[.slice Ao11 t122.length co11, .slice none 0 0]) ?_ 1 _ rfl; (with_reducible repeat (first | refine blk_drewN ?_ _ | refine blk_drew ?_ | refine blk_alloc ?_ _)); refine blk_put (cs := #[.slice none 0 0, .slice none 0 0]) ?_ 0 _ rfl; (with_reducible repeat (first | refine blk_drewN ?_ _ | refine blk_drew ?_ | refine blk_alloc ?_ _)); refine blk_far ?_ NB120_121.out _; (with_reducible repeat (first | refine blk_drewN ?_ _ | refine blk_drew ?_ | refine blk_alloc ?_ _)); exact BK120.out) Try.underlying26 rfl (by kernel_rfl)) rfl ?_; exact ⟨_, _, er, kGR HO124.out BK121 BK120 (fun _ hk => trivial), kGS HO127.out BK121 BK120 (fun _ hk => hk.1.1.2), bl⟩

/-! ### laws_eqIntS: function 59 -/
def laws_eqIntS.l0 : Nat → List Int → List Int → Int → Option (Bool)
 | 0, _, _, _ => none
 | k + 1, x0, x1, x5 => if x5 < (x0.length : Int) then (if 0 ≤ x5 then (if x5 < (x1.length : Int) then (if (rd x0 x5) = (rd x1 x5) then (laws_eqIntS.l0 k x0 x1 (wrap64 (x5 + 1))) else (some false)) else (none)) else (none)) else (some true)
def laws_eqIntS.f (k : Nat) (l0 : List Int) (l1 : List Int) : Option (Bool) := if (l0.length : Int) = (l1.length : Int) then (laws_eqIntS.l0 k l0 l1 0) else (some false)
set_option maxHeartbeats 8000000 in
set_option maxRecDepth 100000 in
theorem laws_eqIntS.calls (k : Nat) (A0 : Option Addr) (c0 : Nat) (l0 : List Int) (A1 : Option Addr) (c1 : Nat) (l1 : List Int) (r : Bool) (w : World) (hr0 : Kd.C (Kd.int .i64) w A0 l0.length l0) (hc0 : l0.length ≤ c0) (hr1 : Kd.C (Kd.int .i64) w A1 l1.length l1) (hc1 : l1.length ≤ c1) (h : laws_eqIntS.f k l0 l1 = some r) :
  Calls Try.prog 59 #[.slice A0 l0.length c0, .slice A1 l1.length c1] w fun e w' => e = .returned (.bool r) ∧ Drawn0 w w' := by
 have HR0 := qa hr0; have HC0 := qa hc0; clear hr0 hc0; have HR1 := qa hr1; have HC1 := qa hc1; clear hr1 hc1; have H : (if (l0.length : Int) = (l1.length : Int) then (laws_eqIntS.l0 k l0 l1 0) else (some false)) = some r := h; clear h
 by_cases c3 : (l0.length : Int) = (l1.length : Int)
 ·rw [if_pos c3] at H; have c3b0 : ((l0.length : Int) == (l1.length : Int)) = true := beq_iff_eq.mpr c3; have c3b1 : ((l0.length : Int) != (l1.length : Int)) = false := bne_eq_false_iff_eq.mpr c3; (have c3b2 : (l0.length == l1.length) = true := by first | simpa using c3 | (simp at c3 ⊢; omega)); clear c3; have H' := qa H; clear H
  go_enter Try.func59, Try.ntmps59
  go_wp2
  repeat (go_quiet (fail); try go_wp2)
  go_loopg [5] k (fun kq v5 w' => ∃ (x5_1 : Int), v5 = .int .i64 x5_1 ∧ Aside0 (laws_eqIntS.l0 kq l0 l1 x5_1 = some r) ∧ Aside0 (kq ≤ k) ∧ Drawn0 w w')
  case atStart => exact ⟨(0), (sd), H', ⟨Nat.le_refl _⟩, dr⟩
  case round =>
   clear H'; obtain ⟨x5_1, rfl, HA, HK1, ⟨m1, rfl⟩⟩ := hrel
   cases gk with
   | zero => exact absurd HA.out (by simp [laws_eqIntS.l0])
   | succ k1 =>
    have H := HA.out; clear HA; simp only [laws_eqIntS.l0] at H; replace H := qe H; obtain ⟨c4b0, H⟩ | ⟨c4b0, H⟩ := H
    ·replace H := qd H; obtain ⟨c5b0, H⟩ := H; replace H := qd H; obtain ⟨c6b0, H⟩ := H; replace H := qq H; obtain ⟨c7b0, c7b1, H⟩ | ⟨c7, c7b0, c7b1, H⟩ := H
     ·have H' := qa H; clear H; have p128 : 0 ≤ (x5_1 : Int) := qo; have q128 : x5_1 < (l0.length : Int) := qo; obtain ⟨ad128, e128, hx128_0⟩ := Kd.at_int HR0.out x5_1 p128 q128; cases e128; replace p128 := eq_true p128; replace q128 := eq_true q128; have p129 : 0 ≤ (x5_1 : Int) := qo; have q129 : x5_1 < (l1.length : Int) := qo; obtain ⟨ad129, e129, hx129_0⟩ := Kd.at_int HR1.out x5_1 p129 q129; cases e129; replace p129 := eq_true p129; replace q129 := eq_true q129; go_wp2
      repeat (go_quiet (fail); try go_wp2)
      go_roundg k1
      case measure => have := HK1.out; omega
      case rel => exact ⟨(wrap64 (x5_1 + 1)), (sd), H', ⟨by have := HK1.out; omega⟩, dr⟩
     ·obtain rfl := Option.some.inj H; have p128 : 0 ≤ (x5_1 : Int) := qo; have q128 : x5_1 < (l0.length : Int) := qo; obtain ⟨ad128, e128, hx128_0⟩ := Kd.at_int HR0.out x5_1 p128 q128; cases e128; replace p128 := eq_true p128; replace q128 := eq_true q128; have p129 : 0 ≤ (x5_1 : Int) := qo; have q129 : x5_1 < (l1.length : Int) := qo; obtain ⟨ad129, e129, hx129_0⟩ := Kd.at_int HR1.out x5_1 p129 q129; cases e129; replace p129 := eq_true p129; replace q129 := eq_true q129; go_wp2
      repeat (go_quiet (fail); try go_wp2)
      go_ret; exact ⟨sd, dr⟩
    ·obtain rfl := Option.some.inj H; go_wp2
     repeat (go_quiet (fail); try go_wp2)
     go_ret; exact ⟨sd, dr⟩
 ·rw [if_neg c3] at H; have c3b0 : ((l0.length : Int) == (l1.length : Int)) = false := beq_eq_false_iff_ne.mpr c3; have c3b1 : ((l0.length : Int) != (l1.length : Int)) = true := bne_iff_ne.mpr c3; (have c3b2 : (l0.length == l1.length) = false := by first | simpa using c3 | (simp at c3 ⊢; omega)); obtain rfl := Option.some.inj H
  go_enter Try.func59, Try.ntmps59
  go_wp2
  repeat (go_quiet (fail); try go_wp2)
  go_ret; exact ⟨sd, dr⟩

/-! ### laws_eqIntSS: function 60 -/
def laws_eqIntSS.l0 : Nat → List (List Int) → List (List Int) → Int → Option (Bool)
 | 0, _, _, _ => none
 | k + 1, x0, x1, x5 => if x5 < (x0.length : Int) then (if 0 ≤ x5 then (if x5 < (x1.length : Int) then ((laws_eqIntS.f k (rd_L1 x0 x5) (rd_L1 x1 x5)).bind fun t132 => (if t132 = true then (laws_eqIntSS.l0 k x0 x1 (wrap64 (x5 + 1))) else (some false))) else (none)) else (none)) else (some true)
def laws_eqIntSS.f (k : Nat) (l0 : List (List Int)) (l1 : List (List Int)) : Option (Bool) := if (l0.length : Int) = (l1.length : Int) then (laws_eqIntSS.l0 k l0 l1 0) else (some false)
set_option maxHeartbeats 8000000 in
set_option maxRecDepth 100000 in
theorem laws_eqIntSS.calls (k : Nat) (A0 : Option Addr) (c0 : Nat) (l0 : List (List Int)) (A1 : Option Addr) (c1 : Nat) (l1 : List (List Int)) (r : Bool) (w : World) (hr0 : Kd.C (Kd.slice 3 (Kd.int .i64)) w A0 l0.length l0) (hc0 : l0.length ≤ c0) (hr1 : Kd.C (Kd.slice 3 (Kd.int .i64)) w A1 l1.length l1) (hc1 : l1.length ≤ c1) (h : laws_eqIntSS.f k l0 l1 = some r) :
  Calls Try.prog 60 #[.slice A0 l0.length c0, .slice A1 l1.length c1] w fun e w' => e = .returned (.bool r) ∧ Drawn0 w w' := by
 have HR0 := qa hr0; have HC0 := qa hc0; clear hr0 hc0; have HR1 := qa hr1; have HC1 := qa hc1; clear hr1 hc1; have H : (if (l0.length : Int) = (l1.length : Int) then (laws_eqIntSS.l0 k l0 l1 0) else (some false)) = some r := h; clear h
 by_cases c3 : (l0.length : Int) = (l1.length : Int)
 ·rw [if_pos c3] at H; have c3b0 : ((l0.length : Int) == (l1.length : Int)) = true := beq_iff_eq.mpr c3; have c3b1 : ((l0.length : Int) != (l1.length : Int)) = false := bne_eq_false_iff_eq.mpr c3; (have c3b2 : (l0.length == l1.length) = true := by first | simpa using c3 | (simp at c3 ⊢; omega)); clear c3; have H' := qa H; clear H
  go_enter Try.func60, Try.ntmps60
  go_wp2
  repeat (go_quiet (fail); try go_wp2)
  go_loopg [5] k (fun kq v5 w' => ∃ (x5_1 : Int), v5 = .int .i64 x5_1 ∧ Aside0 (laws_eqIntSS.l0 kq l0 l1 x5_1 = some r) ∧ Aside0 (kq ≤ k) ∧ Drawn0 w w')
  case atStart => exact ⟨(0), (sd), H', ⟨Nat.le_refl _⟩, dr⟩
  case round =>
   clear H'; obtain ⟨x5_1, rfl, HA, HK1, ⟨m1, rfl⟩⟩ := hrel
   cases gk with
   | zero => exact absurd HA.out (by simp [laws_eqIntSS.l0])
   | succ k1 =>
    have H := HA.out; clear HA; simp only [laws_eqIntSS.l0] at H; replace H := qe H; obtain ⟨c4b0, H⟩ | ⟨c4b0, H⟩ := H
    ·replace H := qd H; obtain ⟨c5b0, H⟩ := H; replace H := qd H; obtain ⟨c6b0, H⟩ := H; replace H := qb H; obtain ⟨t132, A7, H⟩ := H
     by_cases c8 : t132 = true
     ·subst c8; replace H := qt H; have H' := qa H; clear H; have p130 : 0 ≤ (x5_1 : Int) := qo; have q130 : x5_1 < (l0.length : Int) := qo; obtain ⟨ad130, A130_0, c130_0, e130, hx130_0, hl130_0, hi130_0⟩ := at_L1 HR0.out x5_1 p130 q130; cases e130; have HR130_0 := qa hi130_0; have HC130_0 := qa hl130_0; clear hi130_0 hl130_0; replace p130 := eq_true p130; replace q130 := eq_true q130; have p131 : 0 ≤ (x5_1 : Int) := qo; have q131 : x5_1 < (l1.length : Int) := qo; obtain ⟨ad131, A131_0, c131_0, e131, hx131_0, hl131_0, hi131_0⟩ := at_L1 HR1.out x5_1 p131 q131; cases e131; have HR131_0 := qa hi131_0; have HC131_0 := qa hl131_0; clear hi131_0 hl131_0; replace p131 := eq_true p131; replace q131 := eq_true q131
      go_wp2_with (first | (go_at_call 59; (with_reducible refine (laws_eqIntS.calls k1 _ _ (rd_L1 l0 x5_1) _ _ (rd_L1 l1 x5_1) true _ ?side1 ?side2 ?side3 ?side4 A7.out).mono ?_); (case side1 => exact cx HR130_0.out); (case side2 => exact HC130_0.out); (case side3 => exact cx HR131_0.out); (case side4 => exact HC131_0.out); rintro e w' ⟨rfl, ⟨nd, rfl⟩⟩; (try exact dn)))
      repeat (go_quiet (first | (go_at_call 59; (with_reducible refine (laws_eqIntS.calls k1 _ _ (rd_L1 l0 x5_1) _ _ (rd_L1 l1 x5_1) true _ ?side1 ?side2 ?side3 ?side4 A7.out).mono ?_); (case side1 => exact cx HR130_0.out); (case side2 => exact HC130_0.out); (case side3 => exact cx HR131_0.out); (case side4 => exact HC131_0.out); rintro e w' ⟨rfl, ⟨nd, rfl⟩⟩; (try exact dn))); try go_wp2_with (first | (go_at_call 59; (with_reducible refine (laws_eqIntS.calls k1 _ _ (rd_L1 l0 x5_1) _ _ (rd_L1 l1 x5_1) true _ ?side1 ?side2 ?side3 ?side4 A7.out).mono ?_); (case side1 => exact cx HR130_0.out); (case side2 => exact HC130_0.out); (case side3 => exact cx HR131_0.out); (case side4 => exact HC131_0.out); rintro e w' ⟨rfl, ⟨nd, rfl⟩⟩; (try exact dn))))
      go_roundg k1
      case measure => have := HK1.out; omega
      case rel => exact ⟨(wrap64 (x5_1 + 1)), (sd), H', ⟨by have := HK1.out; omega⟩, dr⟩
     ·replace c8 := Bool.eq_false_iff.mpr c8; subst c8; replace H := qf H; obtain rfl := Option.some.inj H; have p130 : 0 ≤ (x5_1 : Int) := qo; have q130 : x5_1 < (l0.length : Int) := qo; obtain ⟨ad130, A130_0, c130_0, e130, hx130_0, hl130_0, hi130_0⟩ := at_L1 HR0.out x5_1 p130 q130; cases e130; have HR130_0 := qa hi130_0; have HC130_0 := qa hl130_0; clear hi130_0 hl130_0; replace p130 := eq_true p130; replace q130 := eq_true q130; have p131 : 0 ≤ (x5_1 : Int) := qo; have q131 : x5_1 < (l1.length : Int) := qo; obtain ⟨ad131, A131_0, c131_0, e131, hx131_0, hl131_0, hi131_0⟩ := at_L1 HR1.out x5_1 p131 q131; cases e131; have HR131_0 := qa hi131_0; have HC131_0 := qa hl131_0; clear hi131_0 hl131_0; replace p131 := eq_true p131; replace q131 := eq_true q131
      go_wp2_with (first | (go_at_call 59; (with_reducible refine (laws_eqIntS.calls k1 _ _ (rd_L1 l0 x5_1) _ _ (rd_L1 l1 x5_1) false _ ?side1 ?side2 ?side3 ?side4 A7.out).mono ?_); (case side1 => exact cx HR130_0.out); (case side2 => exact HC130_0.out); (case side3 => exact cx HR131_0.out); (case side4 => exact HC131_0.out); rintro e w' ⟨rfl, ⟨nd, rfl⟩⟩; (try exact dn)))
      repeat (go_quiet (first | (go_at_call 59; (with_reducible refine (laws_eqIntS.calls k1 _ _ (rd_L1 l0 x5_1) _ _ (rd_L1 l1 x5_1) false _ ?side1 ?side2 ?side3 ?side4 A7.out).mono ?_); (case side1 => exact cx HR130_0.out); (case side2 => exact HC130_0.out); (case side3 => exact cx HR131_0.out); (case side4 => exact HC131_0.out); rintro e w' ⟨rfl, ⟨nd, rfl⟩⟩; (try exact dn))); try go_wp2_with (first | (go_at_call 59; (with_reducible refine (laws_eqIntS.calls k1 _ _ (rd_L1 l0 x5_1) _ _ (rd_L1 l1 x5_1) false _ ?side1 ?side2 ?side3 ?side4 A7.out).mono ?_); (case side1 => exact cx HR130_0.out); (case side2 => exact HC130_0.out); (case side3 => exact cx HR131_0.out); (case side4 => exact HC131_0.out); rintro e w' ⟨rfl, ⟨nd, rfl⟩⟩; (try exact dn))))
      go_ret; exact ⟨sd, dr⟩
    ·obtain rfl := Option.some.inj H; go_wp2
     repeat (go_quiet (fail); try go_wp2)
     go_ret; exact ⟨sd, dr⟩
 ·rw [if_neg c3] at H; have c3b0 : ((l0.length : Int) == (l1.length : Int)) = false := beq_eq_false_iff_ne.mpr c3; have c3b1 : ((l0.length : Int) != (l1.length : Int)) = true := bne_iff_ne.mpr c3; (have c3b2 : (l0.length == l1.length) = false := by first | simpa using c3 | (simp at c3 ⊢; omega)); obtain rfl := Option.some.inj H
  go_enter Try.func60, Try.ntmps60
  go_wp2
  repeat (go_quiet (fail); try go_wp2)
  go_ret; exact ⟨sd, dr⟩

end Go.Proofs.Ytmgjidgfhlclmaa.PFnExactDeskRun
