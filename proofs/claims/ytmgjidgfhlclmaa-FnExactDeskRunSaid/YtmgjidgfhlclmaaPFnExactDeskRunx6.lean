-- Written for this claim by a program of this session (wip/myprint.sh), after the kit's print; some functions by hand
import Derived.Test.YtmgjidgfhlclmaaPFnExactDeskRunx0
import Derived.Test.YtmgjidgfhlclmaaPFnExactDeskRunx4
import Derived.Test.YtmgjidgfhlclmaaPFnExactDeskRunx5
import Derived.Test.YtmgjidgfhlclmaaWPress
namespace Go.Proofs.Ytmgjidgfhlclmaa.PFnExactDeskRun
open Go.RowKit Go.Proofs.YtmgjidgfhlclmaaW.PrintWords Go.Proofs.YtmgjidgfhlclmaaW.PrintLast Go.Proofs.YtmgjidgfhlclmaaW.PrintMore
attribute [local go_sem] max2_int min2_int max_two min_two max_three min_three max_four min_four   -- for this text's walks alone
set_option linter.unusedVariables false
set_option linter.unusedSimpArgs false

/-! ### impl_sign: function 53 -/
def impl_sign.l0 : Nat → Int → List (List Int) → Int → Int → Option (Int)
 | 0, _, _, _, _ => none
 | k + 1, x3, x7, x8, x9 => if x9 < x8 then (if 0 ≤ x9 then (if x9 < (x7.length : Int) then (if 1 < ((rd_L1 x7 x9).length : Int) then (if (rd (rd_L1 x7 x9) 1) > 1 then (some 0) else (impl_sign.l0 k (wrap64 (-x3)) x7 x8 (wrap64 (x9 + 1)))) else (none)) else (none)) else (none)) else (some x3)
def impl_sign.f (k : Nat) (a0 : Int) : Option (Int) := (impl_factors.f k a0).bind fun t187 => (impl_sign.l0 k 1 t187 (t187.length : Int) 0)
theorem impl_sign.mono_l : ∀ k, (∀ y0 y1 y2 y3, LeO (impl_sign.l0 k y0 y1 y2 y3) (impl_sign.l0 (k + 1) y0 y1 y2 y3))
 | 0 => fun _ _ _ _ r h => by simp [impl_sign.l0] at h
 | k + 1 => by
  have ih0 := impl_sign.mono_l k
  ·intro y0 y1 y2 y3; unfold impl_sign.l0; have m0 := @impl_factors.mono; exact mz
theorem impl_sign.mono : ∀ a0 k, LeO (impl_sign.f k a0) (impl_sign.f (k + 1) a0) := by
 intro a0 k; have ih0 := impl_sign.mono_l k; unfold impl_sign.f; have m0 := @impl_factors.mono; exact mz
set_option maxHeartbeats 8000000 in
set_option maxRecDepth 100000 in
theorem impl_sign.calls (k : Nat) (a0 : Int) (r : Int) (w : World) (h : impl_sign.f k a0 = some r) :
  Calls Try.prog 53 #[.int .i64 a0] w fun e w' => e = .returned (.int .i64 r) ∧ Below w.heap.size w w' := by
 have HB := qa (Below.refl w.heap.size w); have H : ((impl_factors.f k a0).bind fun t187 => (impl_sign.l0 k 1 t187 (t187.length : Int) 0)) = some r := h; clear h; replace H := qb H; obtain ⟨t187, A2, H⟩ := H; have H' := qa H; clear H
 go_enter Try.func53, Try.ntmps53
 go_wp2_with (first | ((with_reducible refine gate_callee (f := 54) rfl ?_); refine gol (some 7) Try.func54 #[.int .i64 a0] ?_; (with_reducible refine (impl_factors.calls k a0 t187 _ A2.out).mono ?_); rintro e w3 ⟨v188, rfl, ho0, hb⟩; refine ⟨_, rfl, ?_⟩; have HO189 := qa (Kd.S_lower ho0 (below_size (bl))); replace HB := qa (below_step (bl) hb); obtain ⟨Ao4, co4, eo4⟩ := Kd.S_slice HO189.out; subst eo4))
 go_loopg [3, 9] k (fun kq v3 v9 w' => ∃ (x3_1 : Int) (x9_1 : Int), v3 = .int .i64 x3_1 ∧ v9 = .int .i64 x9_1 ∧ Aside0 (impl_sign.l0 kq x3_1 t187 (t187.length : Int) x9_1 = some r) ∧ Aside0 (kq ≤ k) ∧ Aside0 (Kd.S (Kd.slice 3 (Kd.int .i64)) 23 w' w.heap.size (fun _ => True) (.slice Ao4 t187.length co4) t187) ∧ Aside0 (Below w.heap.size w w'))
 case atStart => exact ⟨(1), (0), (sd), (sd), H', ⟨Nat.le_refl _⟩, ⟨kS HO189⟩, ⟨bl⟩⟩
 case round =>
  clear H'; obtain ⟨x3_1, x9_1, rfl, rfl, HA, HK1, HO_7, HB⟩ := hrel
  cases gk with
  | zero => exact absurd HA.out (by simp [impl_sign.l0])
  | succ k1 =>
   have H := HA.out; clear HA; simp only [impl_sign.l0] at H; replace H := qe H; obtain ⟨c5b0, H⟩ | ⟨c5b0, H⟩ := H
   ·replace H := qd H; obtain ⟨c6b0, H⟩ := H; replace H := qd H; obtain ⟨c7b0, H⟩ := H; replace H := qn H; obtain ⟨c8, H⟩ := H; have c8b0 : decide (1 < ((rd_L1 t187 x9_1).length : Int)) = true := decide_eq_true c8; have c8b1 : decide (1 < (rd_L1 t187 x9_1).length) = true := decide_eq_true (by omega); clear c8
    by_cases c9 : (rd (rd_L1 t187 x9_1) 1) > 1
    ·rw [if_pos c9] at H; have c9b0 : decide (1 < (rd (rd_L1 t187 x9_1) 1)) = true := decide_eq_true c9; clear c9; obtain rfl := Option.some.inj H; have p190 : 0 ≤ (x9_1 : Int) := qo; have q190 : x9_1 < (t187.length : Int) := qo; obtain ⟨ad190, A190_0, c190_0, e190, hx190_0, hl190_0, hi190_0⟩ := at_L1 (Kd.S_reads' HO_7.out).2.2 x9_1 p190 q190; cases e190; obtain ⟨ce190, hce190, hMe190, hcc190⟩ := Kd.S_get HO_7.out [] x9_1 p190 (by first | exact q190 | exact qo | (have e_ := (Kd.S_reads' HO_7.out).1; omega)); obtain ⟨ve190_0, rfl, ge190_0⟩ := hMe190; have hv190_0 := hcc190 0 _ rfl; rw [Nat.add_zero, show ((Kd.slice 3 (Kd.int .i64))).sz = 1 from rfl, Nat.mul_one] at hv190_0; replace hv190_0 := Option.some.inj (hv190_0.symm.trans hx190_0); rw [hv190_0] at ge190_0; have HL190_0 := qa (show Kd.R (Kd.int .i64) 3 _ _ _ _ (rd_L1 t187 x9_1) from ge190_0); clear hv190_0 ge190_0; clear hcc190 hce190; have HR190_0 := qa hi190_0; have HC190_0 := qa hl190_0; clear hi190_0 hl190_0; replace p190 := eq_true p190; replace q190 := eq_true q190; have p191 : 0 ≤ (1 : Int) := (by omega); have q191 : 1 < ((rd_L1 t187 x9_1).length : Int) := qo; obtain ⟨ad191, e191, hx191_0⟩ := Kd.at_int z57_ 1 p191 q191; cases e191; (try simp only [show (1 : Int).toNat = 1 from rfl, Nat.reduceMul, Nat.reduceEqDiff, Go.Addr.add, ↓reduceIte] at hx191_0); have qi191 : (1 < (rd_L1 t187 x9_1).length) = True := eq_true (by omega); (try rw [show ((1 : Int)).toNat = 1 from rfl] at hx191_0); replace p191 := eq_true p191; replace q191 := eq_true q191; go_wp2; go_ret; exact ⟨er, bl⟩
    ·rw [if_neg c9] at H; have c9b0 : decide (1 < (rd (rd_L1 t187 x9_1) 1)) = false := decide_eq_false c9; clear c9; have H' := qa H; clear H; have p190 : 0 ≤ (x9_1 : Int) := qo; have q190 : x9_1 < (t187.length : Int) := qo; obtain ⟨ad190, A190_0, c190_0, e190, hx190_0, hl190_0, hi190_0⟩ := at_L1 (Kd.S_reads' HO_7.out).2.2 x9_1 p190 q190; cases e190; obtain ⟨ce190, hce190, hMe190, hcc190⟩ := Kd.S_get HO_7.out [] x9_1 p190 (by first | exact q190 | exact qo | (have e_ := (Kd.S_reads' HO_7.out).1; omega)); obtain ⟨ve190_0, rfl, ge190_0⟩ := hMe190; have hv190_0 := hcc190 0 _ rfl; rw [Nat.add_zero, show ((Kd.slice 3 (Kd.int .i64))).sz = 1 from rfl, Nat.mul_one] at hv190_0; replace hv190_0 := Option.some.inj (hv190_0.symm.trans hx190_0); rw [hv190_0] at ge190_0; have HL190_0 := qa (show Kd.R (Kd.int .i64) 3 _ _ _ _ (rd_L1 t187 x9_1) from ge190_0); clear hv190_0 ge190_0; clear hcc190 hce190; have HR190_0 := qa hi190_0; have HC190_0 := qa hl190_0; clear hi190_0 hl190_0; replace p190 := eq_true p190; replace q190 := eq_true q190; have p191 : 0 ≤ (1 : Int) := (by omega); have q191 : 1 < ((rd_L1 t187 x9_1).length : Int) := qo; obtain ⟨ad191, e191, hx191_0⟩ := Kd.at_int z57_ 1 p191 q191; cases e191; (try simp only [show (1 : Int).toNat = 1 from rfl, Nat.reduceMul, Nat.reduceEqDiff, Go.Addr.add, ↓reduceIte] at hx191_0); have qi191 : (1 < (rd_L1 t187 x9_1).length) = True := eq_true (by omega); (try rw [show ((1 : Int)).toNat = 1 from rfl] at hx191_0); replace p191 := eq_true p191; replace q191 := eq_true q191; go_wp2
     go_roundg k1
     case measure => have := HK1.out; omega
     case rel => exact ⟨(wrap64 (-x3_1)), (wrap64 (x9_1 + 1)), (sd), (sd), H', ⟨by have := HK1.out; omega⟩, ⟨kS HO_7⟩, ⟨bl⟩⟩
   ·obtain rfl := Option.some.inj H; go_wp2; go_ret; exact ⟨er, bl⟩

/-! ### impl_NamedRow_1: function 50 -/
def impl_NamedRow_1.l0 : Nat → Int → List (List Int) → Int → Int → Option (Int)
 | 0, _, _, _, _ => none
 | k + 1, x4, x36, x37, x38 => if x38 < x37 then (if 0 ≤ x38 then (if x38 < (x36.length : Int) then (if 1 < ((rd_L1 x36 x38).length : Int) then (if (Int.tmod (rd (rd_L1 x36 x38) 1) 2) = 0 then (impl_NamedRow_1.l0 k x4 x36 x37 (wrap64 (x38 + 1))) else (impl_NamedRow_1.l0 k (wrap64 (-x4)) x36 x37 (wrap64 (x38 + 1)))) else (none)) else (none)) else (none)) else (some x4)
def impl_NamedRow_1.f (k : Nat) (a0 : Int) (a1 : Int) : Option (Int) := if a1 = 0 then (if a0 > 1 then (some 0) else (some 1)) else (if a1 = 1 then (some 1) else (if a1 = 2 then (some a0) else (if a1 = 3 then ((impl_divisors.f k a0).bind fun t192 => (some (t192.length : Int))) else (if a1 = 4 then ((impl_divisors.f k a0).bind fun t195 => ((impl_sum.f k t195).bind fun t198 => (some t198))) else (if a1 = 5 then ((impl_phi.f k a0).bind fun t199 => (some t199)) else (if a1 = 6 then ((impl_sign.f k a0).bind fun t200 => (some t200)) else ((impl_factors.f k a0).bind fun t201 => (impl_NamedRow_1.l0 k 1 t201 (t201.length : Int) 0))))))))
theorem impl_NamedRow_1.mono_l : ∀ k, (∀ y0 y1 y2 y3, LeO (impl_NamedRow_1.l0 k y0 y1 y2 y3) (impl_NamedRow_1.l0 (k + 1) y0 y1 y2 y3))
 | 0 => fun _ _ _ _ r h => by simp [impl_NamedRow_1.l0] at h
 | k + 1 => by
  have ih0 := impl_NamedRow_1.mono_l k
  ·intro y0 y1 y2 y3; unfold impl_NamedRow_1.l0; have m0 := @impl_divisors.mono; have m1 := @impl_factors.mono; have m2 := @impl_phi.mono; have m3 := @impl_sign.mono; have m4 := @impl_sum.mono; exact mz
theorem impl_NamedRow_1.mono : ∀ a0 a1 k, LeO (impl_NamedRow_1.f k a0 a1) (impl_NamedRow_1.f (k + 1) a0 a1) := by
 intro a0 a1 k; have ih0 := impl_NamedRow_1.mono_l k; unfold impl_NamedRow_1.f; have m0 := @impl_divisors.mono; have m1 := @impl_factors.mono; have m2 := @impl_phi.mono; have m3 := @impl_sign.mono; have m4 := @impl_sum.mono; exact mz
set_option maxHeartbeats 8000000 in
set_option maxRecDepth 100000 in
theorem impl_NamedRow_1.calls (k : Nat) (a0 : Int) (a1 : Int) (r : Int) (B : Nat) (w : World) (hcap : w.cell? ⟨B, 0, none⟩ = some (.int .i64 a1)) (h : impl_NamedRow_1.f k a0 a1 = some r) :
  Calls Try.prog 50 #[.int .i64 a0, .pointer (some ⟨B, 0, none⟩)] w fun e w' => e = .returned (.int .i64 r) ∧ Below w.heap.size w w' := by
 have HB := qa (Below.refl w.heap.size w); have H : (if a1 = 0 then (if a0 > 1 then (some 0) else (some 1)) else (if a1 = 1 then (some 1) else (if a1 = 2 then (some a0) else (if a1 = 3 then ((impl_divisors.f k a0).bind fun t192 => (some (t192.length : Int))) else (if a1 = 4 then ((impl_divisors.f k a0).bind fun t195 => ((impl_sum.f k t195).bind fun t198 => (some t198))) else (if a1 = 5 then ((impl_phi.f k a0).bind fun t199 => (some t199)) else (if a1 = 6 then ((impl_sign.f k a0).bind fun t200 => (some t200)) else ((impl_factors.f k a0).bind fun t201 => (impl_NamedRow_1.l0 k 1 t201 (t201.length : Int) 0))))))))) = some r := h; clear h; replace H := qq H; obtain ⟨c3b0, c3b1, H⟩ | ⟨c3, c3b0, c3b1, H⟩ := H
 ·by_cases c4 : a0 > 1
  ·rw [if_pos c4] at H; have c4b0 : decide (1 < a0) = true := decide_eq_true c4; clear c4; obtain rfl := Option.some.inj H
   go_enter Try.func50, Try.ntmps50
   go_wp2; go_ret; exact ⟨er, bl⟩
  ·rw [if_neg c4] at H; have c4b0 : decide (1 < a0) = false := decide_eq_false c4; clear c4; obtain rfl := Option.some.inj H
   go_enter Try.func50, Try.ntmps50
   go_wp2; go_ret; exact ⟨er, bl⟩
 ·replace H := qq H; obtain ⟨c5b0, c5b1, H⟩ | ⟨c5, c5b0, c5b1, H⟩ := H
  ·obtain rfl := Option.some.inj H
   go_enter Try.func50, Try.ntmps50
   go_wp2; go_ret; exact ⟨er, bl⟩
  ·replace H := qq H; obtain ⟨c6b0, c6b1, H⟩ | ⟨c6, c6b0, c6b1, H⟩ := H
   ·obtain rfl := Option.some.inj H
    go_enter Try.func50, Try.ntmps50
    go_wp2; go_ret; exact ⟨er, bl⟩
   ·replace H := qq H; obtain ⟨c7b0, c7b1, H⟩ | ⟨c7, c7b0, c7b1, H⟩ := H
    ·replace H := qb H; obtain ⟨t192, A8, H⟩ := H; obtain rfl := Option.some.inj H
     go_enter Try.func50, Try.ntmps50
     go_wp2_with (first | ((with_reducible refine gate_callee (f := 49) rfl ?_); refine gol (some 20) Try.func49 #[.int .i64 a0] ?_; (with_reducible refine (impl_divisors.calls k a0 t192 _ A8.out).mono ?_); rintro e w9 ⟨v193, rfl, ho0, hb⟩; refine ⟨_, rfl, ?_⟩; have HO194 := qa (Kd.R_lower ho0 (below_size (bl))); replace HB := qa (below_step (bl) hb); obtain ⟨Ao10, co10, eo10⟩ := Kd.R_slice HO194.out; subst eo10))
     go_ret; exact ⟨er, bl⟩
    ·replace H := qq H; obtain ⟨c11b0, c11b1, H⟩ | ⟨c11, c11b0, c11b1, H⟩ := H
     ·replace H := qb H; obtain ⟨t195, A12, H⟩ := H; replace H := qb H; obtain ⟨t198, A13, H⟩ := H; obtain rfl := Option.some.inj H
      go_enter Try.func50, Try.ntmps50
      go_wp2_with (first | ((with_reducible refine gate_callee (f := 49) rfl ?_); refine gol (some 25) Try.func49 #[.int .i64 a0] ?_; (with_reducible refine (impl_divisors.calls k a0 t195 _ A12.out).mono ?_); rintro e w14 ⟨v196, rfl, ho0, hb⟩; refine ⟨_, rfl, ?_⟩; have HO197 := qa (Kd.R_lower ho0 (below_size (bl))); replace HB := qa (below_step (bl) hb); obtain ⟨Ao15, co15, eo15⟩ := Kd.R_slice HO197.out; subst eo15) | ((with_reducible refine gate_callee (f := 51) rfl ?_); refine gol (some 26) Try.func51 #[.slice Ao15 t195.length co15] ?_; (with_reducible refine (impl_sum.calls k _ _ t195 t198 _ ?side1 ?side2 A13.out).mono ?_); (case side1 => exact cx (Kd.R_reads' HO197.out).2.2); (case side2 => exact (Kd.R_reads' HO197.out).2.1); rintro e w' ⟨rfl, ⟨nd, rfl⟩⟩; refine ⟨_, rfl, ?_⟩))
      go_ret; exact ⟨er, bl⟩
     ·replace H := qq H; obtain ⟨c16b0, c16b1, H⟩ | ⟨c16, c16b0, c16b1, H⟩ := H
      ·replace H := qb H; obtain ⟨t199, A17, H⟩ := H; obtain rfl := Option.some.inj H
       go_enter Try.func50, Try.ntmps50
       go_wp2_with (first | ((with_reducible refine gate_callee (f := 52) rfl ?_); refine gol (some 30) Try.func52 #[.int .i64 a0] ?_; (with_reducible refine (impl_phi.calls k a0 t199 _ A17.out).mono ?_); rintro e w18 ⟨rfl, hb⟩; refine ⟨_, rfl, ?_⟩; replace HB := qa (below_step (bl) hb)))
       go_ret; exact ⟨er, bl⟩
      ·replace H := qq H; obtain ⟨c19b0, c19b1, H⟩ | ⟨c19, c19b0, c19b1, H⟩ := H
       ·replace H := qb H; obtain ⟨t200, A20, H⟩ := H; obtain rfl := Option.some.inj H
        go_enter Try.func50, Try.ntmps50
        go_wp2_with (first | ((with_reducible refine gate_callee (f := 53) rfl ?_); refine gol (some 34) Try.func53 #[.int .i64 a0] ?_; (with_reducible refine (impl_sign.calls k a0 t200 _ A20.out).mono ?_); rintro e w21 ⟨rfl, hb⟩; refine ⟨_, rfl, ?_⟩; replace HB := qa (below_step (bl) hb)))
        go_ret; exact ⟨er, bl⟩
       ·replace H := qb H; obtain ⟨t201, A22, H⟩ := H; have H' := qa H; clear H
        go_enter Try.func50, Try.ntmps50
        go_wp2_with (first | ((with_reducible refine gate_callee (f := 54) rfl ?_); refine gol (some 36) Try.func54 #[.int .i64 a0] ?_; (with_reducible refine (impl_factors.calls k a0 t201 _ A22.out).mono ?_); rintro e w23 ⟨v202, rfl, ho0, hb⟩; refine ⟨_, rfl, ?_⟩; have HO203 := qa (Kd.S_lower ho0 (below_size (bl))); replace HB := qa (below_step (bl) hb); obtain ⟨Ao24, co24, eo24⟩ := Kd.S_slice HO203.out; subst eo24))
        go_loopg [4, 38] k (fun kq v4 v38 w' => ∃ (x4_1 : Int) (x38_1 : Int), v4 = .int .i64 x4_1 ∧ v38 = .int .i64 x38_1 ∧ Aside0 (impl_NamedRow_1.l0 kq x4_1 t201 (t201.length : Int) x38_1 = some r) ∧ Aside0 (kq ≤ k) ∧ Aside0 (Kd.S (Kd.slice 3 (Kd.int .i64)) 23 w' w.heap.size (fun _ => True) (.slice Ao24 t201.length co24) t201) ∧ Aside0 (Below w.heap.size w w'))
        case atStart => exact ⟨(1), (0), (sd), (sd), H', ⟨Nat.le_refl _⟩, ⟨kS HO203⟩, ⟨bl⟩⟩
        case round =>
         clear H'; obtain ⟨x4_1, x38_1, rfl, rfl, HA, HK1, HO_36, HB⟩ := hrel
         cases gk with
         | zero => exact absurd HA.out (by simp [impl_NamedRow_1.l0])
         | succ k1 =>
          have H := HA.out; clear HA; simp only [impl_NamedRow_1.l0] at H; replace H := qe H; obtain ⟨c25b0, H⟩ | ⟨c25b0, H⟩ := H
          ·replace H := qd H; obtain ⟨c26b0, H⟩ := H; replace H := qd H; obtain ⟨c27b0, H⟩ := H; replace H := qn H; obtain ⟨c28, H⟩ := H; have c28b0 : decide (1 < ((rd_L1 t201 x38_1).length : Int)) = true := decide_eq_true c28; have c28b1 : decide (1 < (rd_L1 t201 x38_1).length) = true := decide_eq_true (by omega); clear c28; replace H := qq H; obtain ⟨c29b0, c29b1, H⟩ | ⟨c29, c29b0, c29b1, H⟩ := H
           ·have H' := qa H; clear H; have p204 : 0 ≤ (x38_1 : Int) := qo; have q204 : x38_1 < (t201.length : Int) := qo; obtain ⟨ad204, A204_0, c204_0, e204, hx204_0, hl204_0, hi204_0⟩ := at_L1 (Kd.S_reads' HO_36.out).2.2 x38_1 p204 q204; cases e204; obtain ⟨ce204, hce204, hMe204, hcc204⟩ := Kd.S_get HO_36.out [] x38_1 p204 (by first | exact q204 | exact qo | (have e_ := (Kd.S_reads' HO_36.out).1; omega)); obtain ⟨ve204_0, rfl, ge204_0⟩ := hMe204; have hv204_0 := hcc204 0 _ rfl; rw [Nat.add_zero, show ((Kd.slice 3 (Kd.int .i64))).sz = 1 from rfl, Nat.mul_one] at hv204_0; replace hv204_0 := Option.some.inj (hv204_0.symm.trans hx204_0); rw [hv204_0] at ge204_0; have HL204_0 := qa (show Kd.R (Kd.int .i64) 3 _ _ _ _ (rd_L1 t201 x38_1) from ge204_0); clear hv204_0 ge204_0; clear hcc204 hce204; have HR204_0 := qa hi204_0; have HC204_0 := qa hl204_0; clear hi204_0 hl204_0; replace p204 := eq_true p204; replace q204 := eq_true q204; have p205 : 0 ≤ (1 : Int) := (by omega); have q205 : 1 < ((rd_L1 t201 x38_1).length : Int) := qo; obtain ⟨ad205, e205, hx205_0⟩ := Kd.at_int z56_ 1 p205 q205; cases e205; (try simp only [show (1 : Int).toNat = 1 from rfl, Nat.reduceMul, Nat.reduceEqDiff, Go.Addr.add, ↓reduceIte] at hx205_0); have qi205 : (1 < (rd_L1 t201 x38_1).length) = True := eq_true (by omega); (try rw [show ((1 : Int)).toNat = 1 from rfl] at hx205_0); replace p205 := eq_true p205; replace q205 := eq_true q205; go_wp2
            go_roundg k1
            case measure => have := HK1.out; omega
            case rel => exact ⟨(x4_1), (wrap64 (x38_1 + 1)), (sd), (sd), H', ⟨by have := HK1.out; omega⟩, ⟨kS HO_36⟩, ⟨bl⟩⟩
           ·have H' := qa H; clear H; have p204 : 0 ≤ (x38_1 : Int) := qo; have q204 : x38_1 < (t201.length : Int) := qo; obtain ⟨ad204, A204_0, c204_0, e204, hx204_0, hl204_0, hi204_0⟩ := at_L1 (Kd.S_reads' HO_36.out).2.2 x38_1 p204 q204; cases e204; obtain ⟨ce204, hce204, hMe204, hcc204⟩ := Kd.S_get HO_36.out [] x38_1 p204 (by first | exact q204 | exact qo | (have e_ := (Kd.S_reads' HO_36.out).1; omega)); obtain ⟨ve204_0, rfl, ge204_0⟩ := hMe204; have hv204_0 := hcc204 0 _ rfl; rw [Nat.add_zero, show ((Kd.slice 3 (Kd.int .i64))).sz = 1 from rfl, Nat.mul_one] at hv204_0; replace hv204_0 := Option.some.inj (hv204_0.symm.trans hx204_0); rw [hv204_0] at ge204_0; have HL204_0 := qa (show Kd.R (Kd.int .i64) 3 _ _ _ _ (rd_L1 t201 x38_1) from ge204_0); clear hv204_0 ge204_0; clear hcc204 hce204; have HR204_0 := qa hi204_0; have HC204_0 := qa hl204_0; clear hi204_0 hl204_0; replace p204 := eq_true p204; replace q204 := eq_true q204; have p205 : 0 ≤ (1 : Int) := (by omega); have q205 : 1 < ((rd_L1 t201 x38_1).length : Int) := qo; obtain ⟨ad205, e205, hx205_0⟩ := Kd.at_int z56_ 1 p205 q205; cases e205; (try simp only [show (1 : Int).toNat = 1 from rfl, Nat.reduceMul, Nat.reduceEqDiff, Go.Addr.add, ↓reduceIte] at hx205_0); have qi205 : (1 < (rd_L1 t201 x38_1).length) = True := eq_true (by omega); (try rw [show ((1 : Int)).toNat = 1 from rfl] at hx205_0); replace p205 := eq_true p205; replace q205 := eq_true q205; go_wp2
            go_roundg k1
            case measure => have := HK1.out; omega
            case rel => exact ⟨(wrap64 (-x4_1)), (wrap64 (x38_1 + 1)), (sd), (sd), H', ⟨by have := HK1.out; omega⟩, ⟨kS HO_36⟩, ⟨bl⟩⟩
          ·obtain rfl := Option.some.inj H; go_wp2; go_ret; exact ⟨er, bl⟩

-- CALLS: impl.NamedRow$1
/-! ### impl_NamedRow: by hand -/
def impl_rowBy_NamedRow.l0 : Nat → Int → List Int → Int → Option (List Int)
 | 0, _, _, _ => none
 | k + 1, a0, x3, x8 => if x8 < 24 then (if 0 ≤ x8 then ((impl_NamedRow_1.f k (wrap64 (x8 + 1)) a0).bind fun t => (if x8 < (x3.length : Int) then (impl_rowBy_NamedRow.l0 k a0 (x3.set (x8 : Int).toNat t) (wrap64 (x8 + 1))) else (none))) else (none)) else (some x3)
theorem impl_rowBy_NamedRow.mono_l : ∀ k, ∀ z0 y0 y1, LeO (impl_rowBy_NamedRow.l0 k z0 y0 y1) (impl_rowBy_NamedRow.l0 (k + 1) z0 y0 y1)
 | 0 => fun _ _ _ r h => by simp [impl_rowBy_NamedRow.l0] at h
 | k + 1 => by
  have ih := impl_rowBy_NamedRow.mono_l k; intro z0 y0 y1; unfold impl_rowBy_NamedRow.l0; refine LeO.ite (LeO.ite (LeO.bind (impl_NamedRow_1.mono _ _ _) (fun _ => LeO.ite (ih _ _ _) (LeO.refl _))) (LeO.refl _)) (LeO.refl _)
theorem impl_rowBy_NamedRow.len : ∀ k z0 (x : List Int) i r, impl_rowBy_NamedRow.l0 k z0 x i = some r → r.length = x.length
 | 0, _, _, _, _, h => by simp [impl_rowBy_NamedRow.l0] at h
 | k + 1, z0, x, i, r, h => by
  simp only [impl_rowBy_NamedRow.l0] at h
  split at h
  ·split at h
   ·obtain ⟨t, _, h⟩ := Option.bind_eq_some_iff.mp h; replace h : (if i < (x.length : Int) then (impl_rowBy_NamedRow.l0 k z0 (x.set (i : Int).toNat t) (wrap64 (i + 1))) else (none)) = some r := h
    split at h
    ·rw [impl_rowBy_NamedRow.len k _ _ _ _ h, List.length_set]
    ·simp at h
   ·simp at h
  ·obtain rfl := Option.some.inj h
   rfl
set_option maxHeartbeats 8000000 in
set_option maxRecDepth 100000 in
theorem impl_rowBy_NamedRow.calls (k : Nat) (a0 : Int) (r : List Int) (B : Nat) (w : World) (h0 : B < w.heap.size) (h1 : w.cell? ⟨B, 0, none⟩ = some (.int .i64 a0)) (H : impl_rowBy_NamedRow.l0 k a0 (List.replicate (24 : Int).toNat 0) 0 = some r) :
  Calls Try.prog 47 #[.func (.func 50) #[] #[.pointer (some ⟨B, 0, none⟩)]] w fun e w' => ∃ v0_ : Value, e = .returned (v0_) ∧ Kd.R (Kd.int .i64) 3 w' w.heap.size (fun _ => True) v0_ r ∧ Below w.heap.size w w' := by
 have HH0 := qa h0; have HH1 := qa h1; clear h0 h1; have HB := qa (Below.refl w.heap.size w); have H' := qa H; clear H
 go_enter Try.func47, Try.ntmps47
 go_wp2_with (first | ((with_reducible refine gate_dst (N := 5) rfl ?_); refine Kd.R_make (Kd.int .i64) _ 3 rfl (N := 5) rfl 23 _ _ rfl (24 : Int) rfl rfl Try.underlying23 (.int .i64 0) 8 info3 rfl (by decide) (by omega) 0 (ok := fun _ => True) (okp := fun _ => True) rfl (fun _ hk => hk) trivial (by decide) (by decide) (Below.refl _ _) (Nat.le_refl _) ?_; intro v113 w4 ho5 hb hg_ hnew_; clear hg_ hnew_; have HO114 := qa (Kd.R_lower ho5 (below_size (bl))); replace HB := qa (below_step (bl) hb); clear hb ho5; obtain ⟨go4, co4, eo4, gb4, gl4, cl4, HG4⟩ := Kd.R_form HO114.out (by simp); rw [List.length_replicate, show (24 : Int).toNat = 24 from rfl] at eo4; subst eo4; clear gb4 gl4 HG4))
 go_loopg [8] k (fun kq v8 w' => ∃ (x3_1 : List Int) (x8_1 : Int), v8 = .int .i64 x8_1 ∧ Aside0 (x3_1.length = 24) ∧ Aside0 (impl_rowBy_NamedRow.l0 kq a0 x3_1 x8_1 = some r) ∧ Aside0 (kq ≤ k) ∧ Aside0 (Kd.R (Kd.int .i64) 3 w' w.heap.size (fun _ => True) (.slice (some ⟨go4, 0, none⟩) 24 co4) x3_1) ∧ Aside0 (Below w.heap.size w w'))
 case atStart => exact ⟨_, (0), (sd), ⟨List.length_replicate ..⟩, H', ⟨Nat.le_refl _⟩, ⟨kR HO114⟩, ⟨bl⟩⟩
 case round =>
  clear H' HO114; obtain ⟨x3_1, x8_1, rfl, HL, HA, HK1, HO_3, HB⟩ := hrel
  cases gk with
  | zero => exact absurd HA.out (by simp [impl_rowBy_NamedRow.l0])
  | succ k1 =>
   have H := HA.out; clear HA; simp only [impl_rowBy_NamedRow.l0] at H
   by_cases c6 : x8_1 < 24
   ·rw [if_pos c6] at H; have c6b0 : decide (x8_1 < 24) = true := decide_eq_true c6; replace H := qn H; obtain ⟨c7, H⟩ := H; replace H := qb H; obtain ⟨t121, A8, H⟩ := H; (have q9' : x8_1 < (x3_1.length : Int) := by have := HL.out; omega); rw [if_pos q9'] at H; have H' := qa H; clear H; have c7b : decide (0 ≤ x8_1) = true := decide_eq_true c7; have C7 := qa c7; have C6 := qa c6; have Q9 := qa q9'; clear q9'; replace c7 := eq_true c7; replace c6 := eq_true c6
    go_wp2_with (first | (go_at_call 50; (with_reducible refine (impl_NamedRow_1.calls k1 (wrap64 (x8_1 + 1)) a0 t121 B _ ((HB.out.cell (p := ⟨B, 0, none⟩) HH0.out).trans HH1.out) A8.out).mono ?_); rintro e w11 ⟨rfl, hb⟩; replace HO_3 := qa (Kd.R_below HO_3.out hb); replace HB := qa (below_step (bl) hb); clear hb; obtain ⟨hx9_0, hf9_0⟩ := Kd.R_celln 0 HO_3.out (x8_1 : Int) C7.out (by have := C6.out; omega); have GB9 := qa (Kd.R_base HO_3.out go4 rfl); have HP10 := Kd.R_putg HO_3.out (x8_1 : Int) t121) | ((with_reducible refine gate_store (t := 3) (p := 17) rfl ?_); refine store_event (t := 3) (p := 17) (v := ?vo_w11) (w1 := (w11.setCell ⟨go4, (x8_1 : Int).toNat, none⟩ (.int .i64 t121))) ?hg ?ho ?hn ?hr ?_; (case ho => rfl); (case hg => rfl); (case hn => rfl); (case hr => exact gr); intro w13 hw; have hp_ : Kd.R (Kd.int .i64) 3 w13 w.heap.size (fun _ => True) (.slice (some ⟨go4, 0, none⟩) 24 co4) (x3_1.set (x8_1 : Int).toNat t121) := (by rw [hw]; exact HP10.1); clear HP10; replace HO_3 := qa (hp_); replace HB := qa ((by rw [hw]; exact below_set (HB.out) GB9.out : Below w.heap.size w w13)); clear hw hp_))
    go_roundg k1
    case measure => have := HK1.out; omega
    case rel => exact ⟨_, (wrap64 (x8_1 + 1)), (sd), ⟨by rw [List.length_set]; exact HL.out⟩, H', ⟨by have := HK1.out; omega⟩, ⟨kR HO_3⟩, ⟨bl⟩⟩
   ·rw [if_neg c6] at H; have c6b0 : decide (x8_1 < 24) = false := decide_eq_false c6; clear c6; obtain rfl := Option.some.inj H; go_wp2; go_ret; exact ⟨_, sd, kR HO_3, bl⟩
def impl_NamedRow.f (k : Nat) (a0 : Int) : Option (List Int) := if a0 < 0 then (some []) else (if a0 ≥ 8 then (some []) else (impl_rowBy_NamedRow.l0 k a0 (List.replicate (24 : Int).toNat 0) 0))
theorem impl_NamedRow.mono : ∀ a0 k, LeO (impl_NamedRow.f k a0) (impl_NamedRow.f (k + 1) a0) := by
 intro a0 k; unfold impl_NamedRow.f; exact LeO.ite (LeO.refl _) (LeO.ite (LeO.refl _) (impl_rowBy_NamedRow.mono_l k _ _ _))
set_option maxHeartbeats 8000000 in
set_option maxRecDepth 100000 in
theorem impl_NamedRow.calls2 (k : Nat) (a0 : Int) (r : List Int) (w : World) (h : impl_NamedRow.f k a0 = some r) :
  Calls Try.prog 14 #[.int .i64 a0] w fun e w' => ∃ v0_ : Value, e = .returned (v0_) ∧ Kd.R (Kd.int .i64) 3 w' w.heap.size (fun _ => True) v0_ r ∧ Below w.heap.size w w' ∧ (r = [] → v0_ = .slice none 0 0) := by
 (have hmf : ∀ (fn : Fn) (first cap : Array Value) (w : World), (Instr.makeFunc fn first cap).run Try.prog w = .ok (.func fn first cap) w := fun _ _ _ _ => rfl); unfold impl_NamedRow.f at h
 by_cases c1 : a0 < 0
 ·rw [if_pos c1] at h; have c1b : decide (a0 < 0) = true := decide_eq_true c1; clear c1; obtain rfl := Option.some.inj h; clear h
  go_enter Try.func14, Try.ntmps14
  go_wp2_with fail
  go_ret; exact ⟨_, sd, Kd.R_nil _ _ _ _ _, z20_, fun _ => rfl⟩
 ·rw [if_neg c1] at h; have c1b : decide (a0 < 0) = false := decide_eq_false c1; clear c1
  by_cases c2 : a0 ≥ 8
  ·rw [if_pos c2] at h; have c2b : decide (a0 ≥ 8) = true := decide_eq_true c2; have c2c : decide (8 ≤ a0) = true := decide_eq_true c2; clear c2; obtain rfl := Option.some.inj h; clear h
   go_enter Try.func14, Try.ntmps14
   go_wp2_with fail
   go_ret; exact ⟨_, sd, Kd.R_nil _ _ _ _ _, z20_, fun _ => rfl⟩
  ·rw [if_neg c2] at h; have c2b : decide (a0 ≥ 8) = false := decide_eq_false c2; have c2c : decide (8 ≤ a0) = false := decide_eq_false c2; clear c2; have H' := qa h; clear h
   go_enter Try.func14, Try.ntmps14
   go_wp2_with (first | (go_at_call 47; (with_reducible refine (impl_rowBy_NamedRow.calls k a0 r _ _ ?c1 ?c2 H'.out).mono ?_)))
   case c1 => simp
   case c2 => simp [World.cell?_alloc_at]
   rintro e w6 ⟨v6, rfl, ho, hb⟩; have HO := qa (Kd.R_lower ho (below_size z18_)); have HB := qa (below_step z18_ hb); have hl := impl_rowBy_NamedRow.len k _ _ _ _ H'.out; rw [List.length_replicate] at hl; have HL := qa hl; clear hl ho hb H'; go_wp2; go_ret; exact ⟨_, sd, z54_, bl, fun h0 => by have := HL.out; rw [h0] at this; simp at this⟩
theorem impl_NamedRow.calls (k : Nat) (a0 : Int) (r : List Int) (w : World) (h : impl_NamedRow.f k a0 = some r) :
  Calls Try.prog 14 #[.int .i64 a0] w fun e w' => ∃ v0_ : Value, e = .returned (v0_) ∧ Kd.R (Kd.int .i64) 3 w' w.heap.size (fun _ => True) v0_ r ∧ Below w.heap.size w w' :=
 (impl_NamedRow.calls2 k a0 r w h).mono fun e w' ⟨v, h1, h2, h3, _⟩ => ⟨v, h1, h2, h3⟩

/-! ### slices_Clone_int_int: by hand, of rows that have something -/
def slices_Clone_int_int.f (k : Nat) (l0 : List Int) : Option (List Int) := if 0 < l0.length then (if l0.length < 17592186044416 then some l0 else none) else none
theorem slices_Clone_int_int.nil_in (w : World) (d : Nat) (a : Option Addr) (l c : Nat) : (Op.equalIn (d + 1) 23 (.slice a l c) (.slice none 0 0)).run Try.prog w = .ok a.isNone w := by
 cases a <;> simp [Op.equalIn, run_underlying Try.underlying23]
theorem slices_Clone_int_int.nil_eq (w : World) (a : Option Addr) (l c : Nat) : (binOp .eql 23 (.slice a l c) (.slice none 0 0)).run Try.prog w = .ok (.bool a.isNone) w := by
 have h : (Op.equal 23 (.slice a l c) (.slice none 0 0)).run Try.prog w = .ok a.isNone w := slices_Clone_int_int.nil_in w 9999 a l c
 simp [binOp, h]
set_option maxHeartbeats 8000000 in
set_option maxRecDepth 100000 in
theorem slices_Clone_int_int.calls (k : Nat) (A0 : Option Addr) (c0 : Nat) (l0 : List Int) (r : List Int) (w : World) (hr0 : Kd.C (Kd.int .i64) w A0 l0.length l0) (hc0 : l0.length ≤ c0) (h : slices_Clone_int_int.f k l0 = some r) :
  Calls Try.prog 37 #[.slice A0 l0.length c0] w fun e w' => ∃ v0_ : Value, e = .returned (v0_) ∧ Kd.R (Kd.int .i64) 3 w' w.heap.size (fun _ => True) v0_ r ∧ Below w.heap.size w w' := by
 unfold slices_Clone_int_int.f at h
 by_cases c1 : 0 < l0.length
 ·rw [if_pos c1] at h
  by_cases c2 : l0.length < 17592186044416
  ·rw [if_pos c2] at h; obtain rfl := Option.some.inj h; clear h; obtain ⟨ad0, hA, _⟩ := hr0.2.2 c1; subst hA; have HR0_0 := qa hr0; have LMc2 := qa c2; clear hr0 hc0 c1 c2; have HB := qa (Below.refl w.heap.size w); have hnilq := slices_Clone_int_int.nil_eq
   go_enter Try.func37, Try.ntmps37
   go_wp2_with (first | ((with_reducible refine gate_dst (N := 5) rfl ?_); refine Kd.R_lit (Kd.int .i64) _ 3 ?hg (N := 5) ?hd (xs := ([] : List Int)) (inner := []) (ok := fun _ => True) (okp := fun _ => True) ?hr ?hp (fun _ hk => hk) trivial (Below.refl _ _) (Nat.le_refl _) (by simp) ?_; (case hd => rfl); (case hg => rfl); (case hr => exact gr); (case hp => exact (Reps.none _ _)); intro v113 w5 ho6 hb hg_ hnew_; clear hg_ hnew_; have n0_ := qa (Kd.R_lower ho6 (below_size (bl))); have n3_ := qa (below_step (bl) hb); clear HB; have HO114 := n0_; have HB := n3_; clear n0_ n3_; clear hb ho6) | ((with_reducible refine gate_builtin (b := .append) (xs := #[.tmp 5, .tmp 6]) rfl ?_); at_builtin; refine Kd.R_append_rows (Kd.int .i64) (w0 := w) w.heap.size rfl (.tmp 5) (.tmp 6) 23 3 (.int .i64 0) 8 rfl Try.underlying23 info3 rfl (by decide) (by omega) v113 ([] : List Int) l0 _ _ _ (fun _ => True) (fun _ => False) rfl rfl ?aO ?aR (fun _ _ h => h) (fun _ h => h.elim) ?aF ?aB ?aS ?aL ?_; (case aR => exact cx (Kd.C_below HR0_0.out HB.out)); (case aB => exact (bl)); (case aF => exact (fun _ _ => trivial)); (case aO => exact (kR HO114)); (case aS => exact (below_size (bl))); (case aL => have := LMc2.out; simp; omega); intro v116 w9 ho hb hg hat; rw [List.nil_append] at ho; have n2_ := qa (hb); have n3_ := qa (ho); clear HB; clear HO114; have HB := n2_; have HO117 := n3_; clear n2_ n3_; clear ho hb hg hat))
   go_ret; exact ⟨_, sd, kR HO117, bl⟩
  ·rw [if_neg c2] at h; cases h
 ·rw [if_neg c1] at h; cases h

end Go.Proofs.Ytmgjidgfhlclmaa.PFnExactDeskRun
