-- Written for this claim by a program of this session (wip/myprint.sh), after the kit's print; some functions by hand
import Derived.Test.YtmgjidgfhlclmaaPFnExactDeskRunx0
import Derived.Test.YtmgjidgfhlclmaaPFnExactDeskRunx10
import Derived.Test.YtmgjidgfhlclmaaPFnExactDeskRunx11
import Derived.Test.YtmgjidgfhlclmaaWPress
namespace Go.Proofs.Ytmgjidgfhlclmaa.PFnExactDeskRun
open Go.RowKit Go.Proofs.YtmgjidgfhlclmaaW.PrintWords Go.Proofs.YtmgjidgfhlclmaaW.PrintLast Go.Proofs.YtmgjidgfhlclmaaW.PrintMore
attribute [local go_sem] max2_int min2_int max_two min_two max_three min_three max_four min_four   -- for this text's walks alone
set_option linter.unusedVariables false
set_option linter.unusedSimpArgs false

/-! ### spec_TimesOf: function 74 -/
mutual
def spec_TimesOf.j0 : Nat → List Int → List Int → Bool → Option (List Int × Bool)
 | 0, _, _, _ => none
 | k + 1, x0, x1, x14 => if x14 = true then (some ((([] : List Int)), false)) else (spec_TimesOf.l0 k x0 x1 0)
def spec_TimesOf.l0 : Nat → List Int → List Int → Int → Option (List Int × Bool)
 | 0, _, _, _ => none
 | k + 1, x0, x1, x6 => if x6 < 24 then (if 0 ≤ x6 then (if x6 < (x0.length : Int) then ((spec_l1In.f (rd x0 x6) (-10000) 10000).bind fun t372 => (if t372 = true then (if x6 < (x1.length : Int) then ((spec_l1In.f (rd x1 x6) (-10000) 10000).bind fun t374 => (if t374 = true then (spec_TimesOf.l0 k x0 x1 (wrap64 (x6 + 1))) else (some ((([] : List Int)), false)))) else (none)) else (some ((([] : List Int)), false)))) else (none)) else (none)) else ((spec_l2Times.f k x0 x1).bind fun t368 => (some (t368, true)))
end
def spec_TimesOf.f (k : Nat) (l0 : List Int) (l1 : List Int) : Option (List Int × Bool) := (spec_RowOk.f k l0).bind fun t363 => (if t363 = true then ((spec_RowOk.f k l1).bind fun t364 => (spec_TimesOf.j0 k l0 l1 (!t364))) else (spec_TimesOf.j0 k l0 l1 true))
theorem spec_TimesOf.mono_l : ∀ k, (∀ y0 y1 y2, LeO (spec_TimesOf.j0 k y0 y1 y2) (spec_TimesOf.j0 (k + 1) y0 y1 y2)) ∧ (∀ y0 y1 y2, LeO (spec_TimesOf.l0 k y0 y1 y2) (spec_TimesOf.l0 (k + 1) y0 y1 y2))
 | 0 => ⟨fun _ _ _ r h => by simp [spec_TimesOf.j0] at h, fun _ _ _ r h => by simp [spec_TimesOf.l0] at h⟩
 | k + 1 => by
  obtain ⟨ih0, ih1⟩ := spec_TimesOf.mono_l k; refine ⟨?_, ?_⟩
  ·intro y0 y1 y2; unfold spec_TimesOf.j0; have m0 := @spec_RowOk.mono; have m1 := @spec_l2Times.mono; exact mz
  ·intro y0 y1 y2; unfold spec_TimesOf.l0; have m0 := @spec_RowOk.mono; have m1 := @spec_l2Times.mono; exact mz
theorem spec_TimesOf.mono : ∀ a0 a1 k, LeO (spec_TimesOf.f k a0 a1) (spec_TimesOf.f (k + 1) a0 a1) := by
 intro a0 a1 k; obtain ⟨ih0, ih1⟩ := spec_TimesOf.mono_l k; unfold spec_TimesOf.f; have m0 := @spec_RowOk.mono; have m1 := @spec_l2Times.mono; exact mz
set_option maxHeartbeats 8000000 in
set_option maxRecDepth 100000 in
theorem spec_TimesOf.calls (k : Nat) (A0 : Option Addr) (c0 : Nat) (l0 : List Int) (A1 : Option Addr) (c1 : Nat) (l1 : List Int) (r1 : List Int) (r2 : Bool) (w : World) (hr0 : Kd.C (Kd.int .i64) w A0 l0.length l0) (hc0 : l0.length ≤ c0) (hr1 : Kd.C (Kd.int .i64) w A1 l1.length l1) (hc1 : l1.length ≤ c1) (h : spec_TimesOf.f k l0 l1 = some (r1, r2)) :
  Calls Try.prog 74 #[.slice A0 l0.length c0, .slice A1 l1.length c1] w fun e w' => ∃ v0_ : Value, e = .returned (.tuple #[v0_, .bool r2]) ∧ Kd.R (Kd.int .i64) 3 w' w.heap.size (fun _ => True) v0_ r1 ∧ Below w.heap.size w w' := by
 have HR0 := qa hr0; have HC0 := qa hc0; clear hr0 hc0; have HR1 := qa hr1; have HC1 := qa hc1; clear hr1 hc1; have HB := qa (Below.refl w.heap.size w); have H : ((spec_RowOk.f k l0).bind fun t363 => (if t363 = true then ((spec_RowOk.f k l1).bind fun t364 => (spec_TimesOf.j0 k l0 l1 (!t364))) else (spec_TimesOf.j0 k l0 l1 true))) = some (r1, r2) := h; clear h; have HC3 := qa H; clear H
 go_enter Try.func74, Try.ntmps74
 go_upto_region 1 with (fail)
 go_cut [14] (fun v14 wc => ∃ (kq : Nat) (x14_2 : Bool), v14 = .bool x14_2 ∧ Aside0 (spec_TimesOf.j0 kq l0 l1 x14_2 = some (r1, r2)) ∧ Aside0 (kq ≤ k) ∧ Aside0 (Below w.heap.size w wc))
 case first =>
  have H := HC3.out; clear HC3; replace H := qb H; obtain ⟨t363, A4, H⟩ := H
  by_cases c5 : t363 = true
  ·subst c5; replace H := qt H; replace H := qb H; obtain ⟨t364, A6, H⟩ := H; have H' := qa H; clear H
   go_wp2_with (first | ((with_reducible refine gate_callee (f := 67) rfl ?_); refine gol (some 8) Try.func67 #[.slice A0 l0.length c0] ?_; (with_reducible refine (spec_RowOk.calls k _ _ l0 true _ ?side1 ?side2 A4.out).mono ?_); (case side1 => exact cx (Kd.C_below HR0.out HB.out)); (case side2 => exact HC0.out); rintro e w' ⟨rfl, ⟨nd, rfl⟩⟩; refine ⟨_, rfl, ?_⟩) | (go_at_call 67; (with_reducible refine (spec_RowOk.calls k _ _ l1 t364 _ ?side1 ?side2 A6.out).mono ?_); (case side1 => exact cx (Kd.C_below HR1.out (bl))); (case side2 => exact HC1.out); rintro e w' ⟨rfl, ⟨nd, rfl⟩⟩))
   go_meet
   case rel => exact ⟨_, (!t364), (sd), H', ⟨by first | omega | exact Nat.le_refl _⟩, ⟨bl⟩⟩
  ·replace c5 := Bool.eq_false_iff.mpr c5; subst c5; replace H := qf H; have H' := qa H; clear H
   go_wp2_with (first | ((with_reducible refine gate_callee (f := 67) rfl ?_); refine gol (some 8) Try.func67 #[.slice A0 l0.length c0] ?_; (with_reducible refine (spec_RowOk.calls k _ _ l0 false _ ?side1 ?side2 A4.out).mono ?_); (case side1 => exact cx (Kd.C_below HR0.out HB.out)); (case side2 => exact HC0.out); rintro e w' ⟨rfl, ⟨nd, rfl⟩⟩; refine ⟨_, rfl, ?_⟩))
   go_meet
   case rel => exact ⟨_, (true), (sd), H', ⟨by first | omega | exact Nat.le_refl _⟩, ⟨bl⟩⟩
 case rest =>
  clear HC3; obtain ⟨kq, x14_2, rfl, HA, HJ2, HB⟩ := hcut
  cases kq with
  | zero => exact absurd HA.out (by simp [spec_TimesOf.j0])
  | succ kj2 =>
   have H := HA.out; clear HA; simp only [spec_TimesOf.j0] at H
   by_cases c7 : x14_2 = true
   ·subst c7; replace H := qt H; obtain ⟨y365, hy_⟩ : ∃ y_ : List Int, y_ = (([] : List Int)) := ⟨_, rfl⟩; replace H : (some (y365, false)) = some (r1, r2) := yh; have Ny365 := qa hy_; clear hy_; simp only [Option.some.injEq, Prod.mk.injEq] at H; obtain ⟨rfl, rfl⟩ := H
    go_wp2_with (first | ((with_reducible refine gate_dst (N := 15) rfl ?_); refine Kd.R_lit (Kd.int .i64) _ 3 ?hg (N := 15) ?hd (xs := ([] : List Int)) (inner := []) (ok := fun _ => True) (okp := fun _ => True) ?hr ?hp (fun _ hk => hk) trivial (Below.refl _ _) (Nat.le_refl _) (by simp) ?_; (case hd => rfl); (case hg => rfl); (case hr => exact gr); (case hp => exact (Reps.none _ _)); intro v366 w8 ho9 hb hg_ hnew_; clear hg_ hnew_; (first | rw [← Ny365.out] at ho9 | (simp only [Int.reduceToNat] at ho9; rw [← Ny365.out] at ho9)); have HO367 := qa (Kd.R_lower ho9 (below_size (bl))); replace HB := qa (below_step (bl) hb); clear hb ho9))
    go_ret2; exact ⟨_, er, kR HO367, bl⟩
   ·replace c7 := Bool.eq_false_iff.mpr c7; subst c7; replace H := qf H; have H' := qa H; clear H; go_wp2
    go_loopg [6] kj2 (fun kq v6 w' => ∃ (x6_2 : Int), v6 = .int .i64 x6_2 ∧ Aside0 (spec_TimesOf.l0 kq l0 l1 x6_2 = some (r1, r2)) ∧ Aside0 (kq ≤ kj2) ∧ Aside0 (Below w.heap.size w w'))
    case atStart => exact ⟨(0), (sd), H', ⟨Nat.le_refl _⟩, ⟨bl⟩⟩
    case round =>
     clear H'; obtain ⟨x6_2, rfl, HA, HK2, HB⟩ := hrel
     cases gk with
     | zero => exact absurd HA.out (by simp [spec_TimesOf.l0])
     | succ k2 =>
      have H := HA.out; clear HA; simp only [spec_TimesOf.l0] at H; replace H := qe H; obtain ⟨c10b0, H⟩ | ⟨c10b0, H⟩ := H
      ·replace H := qd H; obtain ⟨c11b0, H⟩ := H; replace H := qd H; obtain ⟨c12b0, H⟩ := H; replace H := qb H; obtain ⟨t372, A13, H⟩ := H
       by_cases c14 : t372 = true
       ·subst c14; replace H := qt H; replace H := qd H; obtain ⟨c15b0, H⟩ := H; replace H := qb H; obtain ⟨t374, A16, H⟩ := H
        by_cases c17 : t374 = true
        ·subst c17; replace H := qt H; have H' := qa H; clear H; have p371 : 0 ≤ (x6_2 : Int) := qo; have q371 : x6_2 < (l0.length : Int) := qo; obtain ⟨ad371, e371, hx371_0⟩ := Kd.at_int HR0.out x6_2 p371 q371; cases e371; (try replace hx371_0 := (HB.out.cell (World.block_lt_of_cell? w _ hx371_0)).trans hx371_0); replace p371 := eq_true p371; replace q371 := eq_true q371
         go_wp2_with (first | ((with_reducible refine gate_callee (f := 78) rfl ?_); refine gol (some 24) Try.func78 #[.int .i64 (rd l0 x6_2), .int .i64 (-10000), .int .i64 10000] ?_; (with_reducible refine (spec_l1In.calls (rd l0 x6_2) (-10000) 10000 true _ A13.out).mono ?_); rintro e w' ⟨rfl, ⟨nd, rfl⟩⟩; refine ⟨_, rfl, ?_⟩; have p373 : 0 ≤ (x6_2 : Int) := qo; have q373 : x6_2 < (l1.length : Int) := qo; obtain ⟨ad373, e373, hx373_0⟩ := Kd.at_int HR1.out x6_2 p373 q373; cases e373; replace hx373_0 := (HB.out.cell (World.block_lt_of_cell? w _ hx373_0)).trans hx373_0; replace p373 := eq_true p373; replace q373 := eq_true q373) | (go_at_call 78; (with_reducible refine (spec_l1In.calls (rd l1 x6_2) (-10000) 10000 true _ A16.out).mono ?_); rintro e w' ⟨rfl, ⟨nd, rfl⟩⟩))
         go_roundg k2
         case measure => have := HJ2.out; have := HK2.out; omega
         case rel => exact ⟨(wrap64 (x6_2 + 1)), (sd), H', ⟨by have := HJ2.out; have := HK2.out; omega⟩, ⟨bl⟩⟩
        ·replace c17 := Bool.eq_false_iff.mpr c17; subst c17; replace H := qf H; obtain ⟨y375, hy_⟩ : ∃ y_ : List Int, y_ = (([] : List Int)) := ⟨_, rfl⟩; replace H : (some (y375, false)) = some (r1, r2) := yh; have Ny375 := qa hy_; clear hy_; simp only [Option.some.injEq, Prod.mk.injEq] at H; obtain ⟨rfl, rfl⟩ := H; have p371 : 0 ≤ (x6_2 : Int) := qo; have q371 : x6_2 < (l0.length : Int) := qo; obtain ⟨ad371, e371, hx371_0⟩ := Kd.at_int HR0.out x6_2 p371 q371; cases e371; (try replace hx371_0 := (HB.out.cell (World.block_lt_of_cell? w _ hx371_0)).trans hx371_0); replace p371 := eq_true p371; replace q371 := eq_true q371
         go_wp2_with (first | ((with_reducible refine gate_callee (f := 78) rfl ?_); refine gol (some 24) Try.func78 #[.int .i64 (rd l0 x6_2), .int .i64 (-10000), .int .i64 10000] ?_; (with_reducible refine (spec_l1In.calls (rd l0 x6_2) (-10000) 10000 true _ A13.out).mono ?_); rintro e w' ⟨rfl, ⟨nd, rfl⟩⟩; refine ⟨_, rfl, ?_⟩; have p373 : 0 ≤ (x6_2 : Int) := qo; have q373 : x6_2 < (l1.length : Int) := qo; obtain ⟨ad373, e373, hx373_0⟩ := Kd.at_int HR1.out x6_2 p373 q373; cases e373; replace hx373_0 := (HB.out.cell (World.block_lt_of_cell? w _ hx373_0)).trans hx373_0; replace p373 := eq_true p373; replace q373 := eq_true q373) | (go_at_call 78; (with_reducible refine (spec_l1In.calls (rd l1 x6_2) (-10000) 10000 false _ A16.out).mono ?_); rintro e w' ⟨rfl, ⟨nd, rfl⟩⟩) | ((with_reducible refine gate_dst (N := 34) rfl ?_); refine Kd.R_lit (Kd.int .i64) _ 3 ?hg (N := 34) ?hd (xs := ([] : List Int)) (inner := []) (ok := fun _ => True) (okp := fun _ => True) ?hr ?hp (fun _ hk => hk) trivial (Below.refl _ _) (Nat.le_refl _) (by simp) ?_; (case hd => rfl); (case hg => rfl); (case hr => exact gr); (case hp => exact (Reps.none _ _)); intro v376 w18 ho19 hb hg_ hnew_; clear hg_ hnew_; (first | rw [← Ny375.out] at ho19 | (simp only [Int.reduceToNat] at ho19; rw [← Ny375.out] at ho19)); have HO377 := qa (Kd.R_lower ho19 (below_size (bl))); replace HB := qa (below_step (bl) hb); clear hb ho19))
         go_ret2; exact ⟨_, er, kR HO377, bl⟩
       ·replace c14 := Bool.eq_false_iff.mpr c14; subst c14; replace H := qf H; obtain ⟨y378, hy_⟩ : ∃ y_ : List Int, y_ = (([] : List Int)) := ⟨_, rfl⟩; replace H : (some (y378, false)) = some (r1, r2) := yh; have Ny378 := qa hy_; clear hy_; simp only [Option.some.injEq, Prod.mk.injEq] at H; obtain ⟨rfl, rfl⟩ := H; have p371 : 0 ≤ (x6_2 : Int) := qo; have q371 : x6_2 < (l0.length : Int) := qo; obtain ⟨ad371, e371, hx371_0⟩ := Kd.at_int HR0.out x6_2 p371 q371; cases e371; (try replace hx371_0 := (HB.out.cell (World.block_lt_of_cell? w _ hx371_0)).trans hx371_0); replace p371 := eq_true p371; replace q371 := eq_true q371
        go_wp2_with (first | ((with_reducible refine gate_callee (f := 78) rfl ?_); refine gol (some 24) Try.func78 #[.int .i64 (rd l0 x6_2), .int .i64 (-10000), .int .i64 10000] ?_; (with_reducible refine (spec_l1In.calls (rd l0 x6_2) (-10000) 10000 false _ A13.out).mono ?_); rintro e w' ⟨rfl, ⟨nd, rfl⟩⟩; refine ⟨_, rfl, ?_⟩) | ((with_reducible refine gate_dst (N := 34) rfl ?_); refine Kd.R_lit (Kd.int .i64) _ 3 ?hg (N := 34) ?hd (xs := ([] : List Int)) (inner := []) (ok := fun _ => True) (okp := fun _ => True) ?hr ?hp (fun _ hk => hk) trivial (Below.refl _ _) (Nat.le_refl _) (by simp) ?_; (case hd => rfl); (case hg => rfl); (case hr => exact gr); (case hp => exact (Reps.none _ _)); intro v379 w20 ho21 hb hg_ hnew_; clear hg_ hnew_; (first | rw [← Ny378.out] at ho21 | (simp only [Int.reduceToNat] at ho21; rw [← Ny378.out] at ho21)); have HO380 := qa (Kd.R_lower ho21 (below_size (bl))); replace HB := qa (below_step (bl) hb); clear hb ho21))
        go_ret2; exact ⟨_, er, kR HO380, bl⟩
      ·replace H := qb H; obtain ⟨t368, A22, H⟩ := H; simp only [Option.some.injEq, Prod.mk.injEq] at H; obtain ⟨rfl, rfl⟩ := H
       go_wp2_with (first | ((with_reducible refine gate_callee (f := 84) rfl ?_); refine gol (some 37) Try.func84 #[.slice A0 l0.length c0, .slice A1 l1.length c1] ?_; (with_reducible refine (spec_l2Times.calls k2 _ _ l0 _ _ l1 t368 _ ?side1 ?side2 ?side3 ?side4 A22.out).mono ?_); (case side1 => exact cx (Kd.C_below HR0.out HB.out)); (case side2 => exact HC0.out); (case side3 => exact cx (Kd.C_below HR1.out HB.out)); (case side4 => exact HC1.out); rintro e w23 ⟨v369, rfl, ho0, hb⟩; refine ⟨_, rfl, ?_⟩; have HO370 := qa (Kd.R_lower ho0 (below_size (bl))); replace HB := qa (below_step (bl) hb)))
       go_ret2; exact ⟨_, er, kR HO370, bl⟩

/-! ### spec_FactorsOf: function 88 -/
mutual
def spec_FactorsOf.l0 : Nat → Int → List (List Int) → Int → Int → Option ((List (List Int)))
 | 0, _, _, _, _ => none
 | k + 1, x0, x3, x4, x5 => if x5 ≤ x4 then ((spec_l1In.f x0 1 10000).bind fun t384 => (spec_FactorsOf.j1 k x0 x3 x4 x5 t384)) else (spec_FactorsOf.j1 k x0 x3 x4 x5 false)
def spec_FactorsOf.j1 : Nat → Int → List (List Int) → Int → Int → Bool → Option ((List (List Int)))
 | 0, _, _, _, _, _ => none
 | k + 1, x0, x3, x4, x5, x15 => if x15 = true then (spec_FactorsOf.l1 k x0 x3 x4 x5 0) else (some x3)
def spec_FactorsOf.l1 : Nat → Int → List (List Int) → Int → Int → Int → Option ((List (List Int)))
 | 0, _, _, _, _, _ => none
 | k + 1, x0, x3, x4, x5, x6 => if x5 = 0 then (none) else (if (Int.tmod x4 x5) = 0 then (spec_FactorsOf.l1 k x0 x3 (wrap64 (Int.tdiv x4 x5)) x5 (wrap64 (x6 + 1))) else (if x6 > 0 then (if x3.length < 5864062014805 then (spec_FactorsOf.l0 k x0 (x3 ++ [(([x5, x6] : List Int))]) x4 (wrap64 (x5 + 1))) else (none)) else (spec_FactorsOf.l0 k x0 x3 x4 (wrap64 (x5 + 1)))))
end
def spec_FactorsOf.f (k : Nat) (a0 : Int) : Option ((List (List Int))) := spec_FactorsOf.l0 k a0 (([] : List (List Int))) a0 2
theorem spec_FactorsOf.mono_l : ∀ k, (∀ y0 y1 y2 y3, LeO (spec_FactorsOf.l0 k y0 y1 y2 y3) (spec_FactorsOf.l0 (k + 1) y0 y1 y2 y3)) ∧ (∀ y0 y1 y2 y3 y4, LeO (spec_FactorsOf.j1 k y0 y1 y2 y3 y4) (spec_FactorsOf.j1 (k + 1) y0 y1 y2 y3 y4)) ∧ (∀ y0 y1 y2 y3 y4, LeO (spec_FactorsOf.l1 k y0 y1 y2 y3 y4) (spec_FactorsOf.l1 (k + 1) y0 y1 y2 y3 y4))
 | 0 => ⟨fun _ _ _ _ r h => by simp [spec_FactorsOf.l0] at h, fun _ _ _ _ _ r h => by simp [spec_FactorsOf.j1] at h, fun _ _ _ _ _ r h => by simp [spec_FactorsOf.l1] at h⟩
 | k + 1 => by
  obtain ⟨ih0, ih1, ih2⟩ := spec_FactorsOf.mono_l k; refine ⟨?_, ?_, ?_⟩
  ·intro y0 y1 y2 y3; unfold spec_FactorsOf.l0; exact mz
  ·intro y0 y1 y2 y3 y4; unfold spec_FactorsOf.j1; exact mz
  ·intro y0 y1 y2 y3 y4; unfold spec_FactorsOf.l1; exact mz
theorem spec_FactorsOf.mono : ∀ a0 k, LeO (spec_FactorsOf.f k a0) (spec_FactorsOf.f (k + 1) a0) := by
 intro a0 k; obtain ⟨ih0, ih1, ih2⟩ := spec_FactorsOf.mono_l k; unfold spec_FactorsOf.f; exact mz
set_option maxHeartbeats 8000000 in
set_option maxRecDepth 100000 in
theorem spec_FactorsOf.calls (k : Nat) (a0 : Int) (r : List (List Int)) (w : World) (h : spec_FactorsOf.f k a0 = some r) :
  Calls Try.prog 88 #[.int .i64 a0] w fun e w' => ∃ v0_ : Value, e = .returned (v0_) ∧ Kd.S (Kd.slice 3 (Kd.int .i64)) 23 w' w.heap.size (fun _ => True) v0_ r ∧ Below w.heap.size w w' := by
 have HB := qa (Below.refl w.heap.size w); have H : (spec_FactorsOf.l0 k a0 (([] : List (List Int))) a0 2) = some r := h; clear h; obtain ⟨y381, hy_⟩ : ∃ y_ : List (List Int), y_ = (([] : List (List Int))) := ⟨_, rfl⟩; replace H : (spec_FactorsOf.l0 k a0 y381 a0 2) = some r := yh; have Ny381 := qa hy_; clear hy_; have H' := qa H; clear H
 go_enter Try.func88, Try.ntmps88
 go_wp2_with (first | ((with_reducible refine gate_dst (N := 7) rfl ?_); refine Kd.S_lit (Kd.slice 3 (Kd.int .i64)) _ 23 ?hg (N := 7) ?hd (xs := ([] : List (List Int))) (inner := []) (ok := fun _ => True) (okp := fun _ => True) ?hr ?hp (fun _ hk => hk) trivial (Below.refl _ _) (Nat.le_refl _) (by simp) ?_; (case hd => rfl); (case hg => rfl); (case hr => exact gr); (case hp => exact (Reps.none _ _)); intro v382 w2 ho3 hb hg_ hnew_; clear hg_ hnew_; (first | rw [← Ny381.out] at ho3 | (simp only [Int.reduceToNat] at ho3; rw [← Ny381.out] at ho3)); have HO383 := qa (Kd.S_lower ho3 (below_size (bl))); replace HB := qa (below_step (bl) hb); clear hb ho3))
 go_loopg [3, 4, 5] k (fun kq v3 v4 v5 w' => ∃ (x3_1 : List (List Int)) (x4_1 : Int) (x5_1 : Int), v4 = .int .i64 x4_1 ∧ v5 = .int .i64 x5_1 ∧ Aside0 (spec_FactorsOf.l0 kq a0 x3_1 x4_1 x5_1 = some r) ∧ Aside0 (kq ≤ k) ∧ Aside0 (Kd.S (Kd.slice 3 (Kd.int .i64)) 23 w' w.heap.size (fun _ => True) v3 x3_1) ∧ Aside0 (Below w.heap.size w w'))
 case atStart => exact ⟨(y381), (a0), (2), (sd), (sd), H', ⟨Nat.le_refl _⟩, ⟨kS HO383⟩, ⟨bl⟩⟩
 case round =>
  clear H'; obtain ⟨x3_1, x4_1, x5_1, rfl, rfl, HA, HK1, HO_3, HB⟩ := hrel
  cases gk with
  | zero => exact absurd HA.out (by simp [spec_FactorsOf.l0])
  | succ k1 =>
   have H := HA.out; clear HA; simp only [spec_FactorsOf.l0] at H; have HC4 := qa H; clear H
   go_upto_region 4 with (fail)
   go_cut [15] (fun v15 wc => ∃ (kq : Nat) (x15_3 : Bool), v15 = .bool x15_3 ∧ Aside0 (spec_FactorsOf.j1 kq a0 x3_1 x4_1 x5_1 x15_3 = some r) ∧ Aside0 (kq ≤ k1) ∧ Aside0 (Kd.S (Kd.slice 3 (Kd.int .i64)) 23 wc w.heap.size (fun _ => True) u3 x3_1) ∧ Aside0 (Below w.heap.size w wc))
   case first =>
    have H := HC4.out; clear HC4; replace H := qe H; obtain ⟨c5b0, H⟩ | ⟨c5b0, H⟩ := H
    ·(first | rw [c5b0] | (simp only [i64_w, i32_w]; rw [c5b0]) | skip); replace H := qb H; obtain ⟨t384, A6, H⟩ := H; have H' := qa H; clear H
     go_wp2_with (first | (go_at_call 78; (with_reducible refine (spec_l1In.calls a0 1 10000 t384 _ A6.out).mono ?_); rintro e w' ⟨rfl, ⟨nd, rfl⟩⟩))
     go_meet
     case rel => exact ⟨_, (t384), (sd), H', ⟨z22_⟩, ⟨kS HO_3⟩, ⟨bl⟩⟩
    ·(first | rw [c5b0] | (simp only [i64_w, i32_w]; rw [c5b0]) | skip); have H' := qa H; clear H; go_wp2; go_meet
     case rel => exact ⟨_, (false), (sd), H', ⟨z22_⟩, ⟨kS HO_3⟩, ⟨bl⟩⟩
   case rest =>
    clear HC4; obtain ⟨kq, x15_3, rfl, HA, HJ3, HO_3, HB⟩ := hcut
    cases kq with
    | zero => exact absurd HA.out (by simp [spec_FactorsOf.j1])
    | succ kj3 =>
     have H := HA.out; clear HA; simp only [spec_FactorsOf.j1] at H
     by_cases c7 : x15_3 = true
     ·subst c7; replace H := qt H; have H' := qa H; clear H; go_wp2
      go_loopg [4, 6] kj3 (fun kq v4 v6 w' => ∃ (x4_3 : Int) (x6_3 : Int), v4 = .int .i64 x4_3 ∧ v6 = .int .i64 x6_3 ∧ Aside0 (spec_FactorsOf.l1 kq a0 x3_1 x4_3 x5_1 x6_3 = some r) ∧ Aside0 (kq ≤ kj3) ∧ Aside0 (Kd.S (Kd.slice 3 (Kd.int .i64)) 23 w' w.heap.size (fun _ => True) u3 x3_1) ∧ Aside0 (Below w.heap.size w w'))
      case atStart => exact ⟨(x4_1), (0), (sd), (sd), H', ⟨Nat.le_refl _⟩, ⟨kS HO_3⟩, ⟨bl⟩⟩
      case round =>
       clear H'; obtain ⟨x4_3, x6_3, rfl, rfl, HA, HK3, HO_3, HB⟩ := hrel
       cases gk with
       | zero => exact absurd HA.out (by simp [spec_FactorsOf.l1])
       | succ k3 =>
        have H := HA.out; clear HA; simp only [spec_FactorsOf.l1] at H
        by_cases c8 : x5_1 = 0
        ·rw [if_pos c8] at H; exact absurd H (by simp)
        ·rw [if_neg c8] at H; have c8b0 : (x5_1 == 0) = false := beq_eq_false_iff_ne.mpr c8; have c8b1 : (x5_1 != 0) = true := bne_iff_ne.mpr c8; replace H := qq H; obtain ⟨c9b0, c9b1, H⟩ | ⟨c9, c9b0, c9b1, H⟩ := H
         ·have H' := qa H; clear H; go_wp2
          go_roundg k3
          case measure => have := HK1.out; have := HJ3.out; have := HK3.out; omega
          case rel => exact ⟨(wrap64 (Int.tdiv x4_3 x5_1)), (wrap64 (x6_3 + 1)), (sd), (sd), H', ⟨by have := HK1.out; have := HJ3.out; have := HK3.out; omega⟩, ⟨kS HO_3⟩, ⟨bl⟩⟩
         ·by_cases c10 : x6_3 > 0
          ·rw [if_pos c10] at H; have c10b0 : decide (0 < x6_3) = true := decide_eq_true c10; clear c10; obtain ⟨y385, hy_⟩ : ∃ y_ : List Int, y_ = (([x5_1, x6_3] : List Int)) := ⟨_, rfl⟩; replace H : (if x3_1.length < 5864062014805 then (spec_FactorsOf.l0 k3 a0 (x3_1 ++ [y385]) x4_3 (wrap64 (x5_1 + 1))) else (none)) = some r := yh; have Ny385 := qa hy_; clear hy_; replace H := qn H; obtain ⟨c11, H⟩ := H; have LMc11 := qa c11; clear c11; obtain ⟨y388, hy_⟩ : ∃ y_ : List (List Int), y_ = (x3_1 ++ [y385]) := ⟨_, rfl⟩; replace H : (spec_FactorsOf.l0 k3 a0 y388 x4_3 (wrap64 (x5_1 + 1))) = some r := yh; have Ny388 := qa hy_; clear hy_; have H' := qa H; clear H
           go_wp2_with (first | ((with_reducible refine gate_dst (N := 32) rfl ?_); refine Kd.R_lit (Kd.int .i64) _ 3 ?hg (N := 32) ?hd (xs := ([x5_1, x6_3] : List Int)) (inner := [.int .i64 x5_1, .int .i64 x6_3]) (ok := fun _ => True) (okp := fun _ => True) ?hr ?hp (fun _ hk => hk) trivial (Below.refl _ _) (Nat.le_refl _) (by simp) ?_; (case hd => rfl); (case hg => rfl); (case hr => exact gr); (case hp => exact (Reps.one (show Kd.M (Kd.int .i64) _ _ _ x5_1 [.int .i64 x5_1] from rfl) (Reps.one (show Kd.M (Kd.int .i64) _ _ _ x6_3 [.int .i64 x6_3] from rfl) (Reps.none _ _)))); intro v386 w12 ho13 hb hg_ hnew_; clear hg_ hnew_; (first | rw [← Ny385.out] at ho13 | (simp only [Int.reduceToNat] at ho13; rw [← Ny385.out] at ho13)); replace HO_3 := qa (Kd.S_elder' (kS HO_3) (Kd.R_base ho13) hb); have HO387 := qa (Kd.R_lower ho13 (below_size (bl))); replace HB := qa (below_step (bl) hb); clear hb ho13; obtain ⟨Ao15, co15, eo15⟩ := Kd.R_slice HO387.out; subst eo15) | ((with_reducible refine gate_builtin (b := .append) (xs := #[.tmp 29, .tmp 33]) rfl ?_); at_builtin; refine Kd.S_append (Kd.slice 3 (Kd.int .i64)) (w0 := w) w.heap.size rfl (.tmp 29) (.tmp 33) 24 23 (.slice none 0 0) 24 rfl Try.underlying24 info23 rfl (by decide) (by omega) u3 x3_1 y385 [.slice Ao15 y385.length co15] (fun _ => True) (fun k_ => some k_ = (.slice Ao15 y385.length co15 : Value).ownBlock) rfl rfl ?aP (fun k_ hk_ => ((Kd.R_mono (ok' := fun k_ => ((fun _ => True)) k_ ∧ some k_ ≠ (u3 : Value).ownBlock) (Kd.R_apart' (HO387.out) (Kd.S_typed HO_3.out) (by decide)) (fun k_ hk => ⟨trivial, hk.2⟩))).1 k_ hk_.symm) ?aF ?aO ?aB ?aS ?aL ?_; (case aP => exact Kd.M_row (Kd.R_mono (Kd.R_tight rfl (Kd.R_mono (ok' := fun k_ => ((fun _ => True)) k_ ∧ some k_ ≠ (u3 : Value).ownBlock) (Kd.R_apart' (HO387.out) (Kd.S_typed HO_3.out) (by decide)) (fun k_ hk => ⟨trivial, hk.2⟩))) (fun _ h_ => h_))); (case aB => exact (bl)); (case aF => exact (fun _ _ => trivial)); (case aO => exact z68_); (case aS => exact (below_size (bl))); (case aL => have := LMc11.out; omega); intro v389 w14 ho hb hg hat; rw [← Ny388.out] at ho; replace HB := qa (hb); have HO390 := qa (ho); clear HO_3 HO387; clear ho hb hg hat))
           go_roundg k3
           case measure => have := HK1.out; have := HJ3.out; have := HK3.out; omega
           case rel => exact ⟨(y388), (x4_3), (wrap64 (x5_1 + 1)), (sd), (sd), H', ⟨by have := HK1.out; have := HJ3.out; have := HK3.out; omega⟩, ⟨kS HO390⟩, ⟨bl⟩⟩
          ·rw [if_neg c10] at H; have c10b0 : decide (0 < x6_3) = false := decide_eq_false c10; clear c10; have H' := qa H; clear H; go_wp2
           go_roundg k3
           case measure => have := HK1.out; have := HJ3.out; have := HK3.out; omega
           case rel => exact ⟨(x3_1), (x4_3), (wrap64 (x5_1 + 1)), (sd), (sd), H', ⟨by have := HK1.out; have := HJ3.out; have := HK3.out; omega⟩, ⟨kS HO_3⟩, ⟨bl⟩⟩
     ·replace c7 := Bool.eq_false_iff.mpr c7; subst c7; replace H := qf H; obtain rfl := Option.some.inj H; go_wp2; go_ret; exact ⟨_, er, kS HO_3, bl⟩

/-! ### spec_DivisorsOf: function 89 -/
mutual
def spec_DivisorsOf.l0 : Nat → Int → List Int → Int → Option (List Int)
 | 0, _, _, _ => none
 | k + 1, x0, x3, x4 => if x4 ≤ x0 then (spec_DivisorsOf.j1 k x0 x3 x4 (decide (x0 ≤ 10000))) else (spec_DivisorsOf.j1 k x0 x3 x4 false)
def spec_DivisorsOf.j1 : Nat → Int → List Int → Int → Bool → Option (List Int)
 | 0, _, _, _, _ => none
 | k + 1, x0, x3, x4, x12 => if x12 = true then (if x4 = 0 then (none) else (if (Int.tmod x0 x4) = 0 then (if x3.length < 17592186044416 then (spec_DivisorsOf.l0 k x0 (x3 ++ [x4]) (wrap64 (x4 + 1))) else (none)) else (spec_DivisorsOf.l0 k x0 x3 (wrap64 (x4 + 1))))) else (some x3)
end
def spec_DivisorsOf.f (k : Nat) (a0 : Int) : Option (List Int) := spec_DivisorsOf.l0 k a0 (([] : List Int)) 1
theorem spec_DivisorsOf.mono_l : ∀ k, (∀ y0 y1 y2, LeO (spec_DivisorsOf.l0 k y0 y1 y2) (spec_DivisorsOf.l0 (k + 1) y0 y1 y2)) ∧ (∀ y0 y1 y2 y3, LeO (spec_DivisorsOf.j1 k y0 y1 y2 y3) (spec_DivisorsOf.j1 (k + 1) y0 y1 y2 y3))
 | 0 => ⟨fun _ _ _ r h => by simp [spec_DivisorsOf.l0] at h, fun _ _ _ _ r h => by simp [spec_DivisorsOf.j1] at h⟩
 | k + 1 => by
  obtain ⟨ih0, ih1⟩ := spec_DivisorsOf.mono_l k; refine ⟨?_, ?_⟩
  ·intro y0 y1 y2; unfold spec_DivisorsOf.l0; exact mz
  ·intro y0 y1 y2 y3; unfold spec_DivisorsOf.j1; exact mz
theorem spec_DivisorsOf.mono : ∀ a0 k, LeO (spec_DivisorsOf.f k a0) (spec_DivisorsOf.f (k + 1) a0) := by
 intro a0 k; obtain ⟨ih0, ih1⟩ := spec_DivisorsOf.mono_l k; unfold spec_DivisorsOf.f; exact mz
set_option maxHeartbeats 8000000 in
set_option maxRecDepth 100000 in
theorem spec_DivisorsOf.calls (k : Nat) (a0 : Int) (r : List Int) (w : World) (h : spec_DivisorsOf.f k a0 = some r) :
  Calls Try.prog 89 #[.int .i64 a0] w fun e w' => ∃ v0_ : Value, e = .returned (v0_) ∧ Kd.R (Kd.int .i64) 3 w' w.heap.size (fun _ => True) v0_ r ∧ Below w.heap.size w w' := by
 have HB := qa (Below.refl w.heap.size w); have H : (spec_DivisorsOf.l0 k a0 (([] : List Int)) 1) = some r := h; clear h; obtain ⟨y391, hy_⟩ : ∃ y_ : List Int, y_ = (([] : List Int)) := ⟨_, rfl⟩; replace H : (spec_DivisorsOf.l0 k a0 y391 1) = some r := yh; have Ny391 := qa hy_; clear hy_; have H' := qa H; clear H
 go_enter Try.func89, Try.ntmps89
 go_wp2_with (first | ((with_reducible refine gate_dst (N := 5) rfl ?_); refine Kd.R_lit (Kd.int .i64) _ 3 ?hg (N := 5) ?hd (xs := ([] : List Int)) (inner := []) (ok := fun _ => True) (okp := fun _ => True) ?hr ?hp (fun _ hk => hk) trivial (Below.refl _ _) (Nat.le_refl _) (by simp) ?_; (case hd => rfl); (case hg => rfl); (case hr => exact gr); (case hp => exact (Reps.none _ _)); intro v392 w2 ho3 hb hg_ hnew_; clear hg_ hnew_; (first | rw [← Ny391.out] at ho3 | (simp only [Int.reduceToNat] at ho3; rw [← Ny391.out] at ho3)); have HO393 := qa (Kd.R_lower ho3 (below_size (bl))); replace HB := qa (below_step (bl) hb); clear hb ho3))
 go_loopg [3, 4] k (fun kq v3 v4 w' => ∃ (x3_1 : List Int) (x4_1 : Int), v4 = .int .i64 x4_1 ∧ Aside0 (spec_DivisorsOf.l0 kq a0 x3_1 x4_1 = some r) ∧ Aside0 (kq ≤ k) ∧ Aside0 (Kd.R (Kd.int .i64) 3 w' w.heap.size (fun _ => True) v3 x3_1) ∧ Aside0 (Below w.heap.size w w'))
 case atStart => exact ⟨(y391), (1), (sd), H', ⟨Nat.le_refl _⟩, ⟨kR HO393⟩, ⟨bl⟩⟩
 case round =>
  clear H'; obtain ⟨x3_1, x4_1, rfl, HA, HK1, HO_3, HB⟩ := hrel
  cases gk with
  | zero => exact absurd HA.out (by simp [spec_DivisorsOf.l0])
  | succ k1 =>
   have H := HA.out; clear HA; simp only [spec_DivisorsOf.l0] at H; have HC4 := qa H; clear H
   go_upto_region 3 with (fail)
   go_cut [12] (fun v12 wc => ∃ (kq : Nat) (x12_3 : Bool), v12 = .bool x12_3 ∧ Aside0 (spec_DivisorsOf.j1 kq a0 x3_1 x4_1 x12_3 = some r) ∧ Aside0 (kq ≤ k1) ∧ Aside0 (Kd.R (Kd.int .i64) 3 wc w.heap.size (fun _ => True) u3 x3_1) ∧ Aside0 (Below w.heap.size w wc))
   case first =>
    have H := HC4.out; clear HC4; replace H := qe H; obtain ⟨c5b0, H⟩ | ⟨c5b0, H⟩ := H
    ·(first | rw [c5b0] | (simp only [i64_w, i32_w]; rw [c5b0]) | skip); have H' := qa H; clear H; go_wp2; go_meet
     case rel => exact ⟨_, (decide (a0 ≤ 10000)), (sd), H', ⟨z22_⟩, ⟨kR HO_3⟩, ⟨bl⟩⟩
    ·(first | rw [c5b0] | (simp only [i64_w, i32_w]; rw [c5b0]) | skip); have H' := qa H; clear H; go_wp2; go_meet
     case rel => exact ⟨_, (false), (sd), H', ⟨z22_⟩, ⟨kR HO_3⟩, ⟨bl⟩⟩
   case rest =>
    clear HC4; obtain ⟨kq, x12_3, rfl, HA, HJ3, HO_3, HB⟩ := hcut
    cases kq with
    | zero => exact absurd HA.out (by simp [spec_DivisorsOf.j1])
    | succ kj3 =>
     have H := HA.out; clear HA; simp only [spec_DivisorsOf.j1] at H
     by_cases c6 : x12_3 = true
     ·subst c6; replace H := qt H
      by_cases c7 : x4_1 = 0
      ·rw [if_pos c7] at H; exact absurd H (by simp)
      ·rw [if_neg c7] at H; have c7b0 : (x4_1 == 0) = false := beq_eq_false_iff_ne.mpr c7; have c7b1 : (x4_1 != 0) = true := bne_iff_ne.mpr c7; replace H := qq H; obtain ⟨c8b0, c8b1, H⟩ | ⟨c8, c8b0, c8b1, H⟩ := H
       ·replace H := qn H; obtain ⟨c9, H⟩ := H; have LMc9 := qa c9; clear c9; obtain ⟨y394, hy_⟩ : ∃ y_ : List Int, y_ = (x3_1 ++ [x4_1]) := ⟨_, rfl⟩; replace H : (spec_DivisorsOf.l0 kj3 a0 y394 (wrap64 (x4_1 + 1))) = some r := yh; have Ny394 := qa hy_; clear hy_; have H' := qa H; clear H
        go_wp2_with (first | ((with_reducible refine gate_builtin (b := .append) (xs := #[.tmp 19, .tmp 21]) rfl ?_); at_builtin; refine Kd.R_append (Kd.int .i64) (w0 := w) w.heap.size rfl (.tmp 19) (.tmp 21) 23 3 (.int .i64 0) 8 rfl Try.underlying23 info3 rfl (by decide) (by omega) u3 x3_1 x4_1 [.int .i64 x4_1] (fun _ => True) (fun _ => False) rfl rfl ?aP (fun _ hk => hk.elim) ?aF ?aO ?aB ?aS ?aL ?_; (case aP => exact rfl); (case aB => exact (bl)); (case aF => exact (fun _ _ => trivial)); (case aO => exact (kR HO_3)); (case aS => exact (below_size (bl))); (case aL => have := LMc9.out; omega); intro v395 w10 ho hb hg hat; rw [← Ny394.out] at ho; replace HB := qa (hb); have HO396 := qa (ho); clear HO_3; clear ho hb hg hat))
        go_roundg kj3
        case measure => have := HK1.out; have := HJ3.out; omega
        case rel => exact ⟨(y394), (wrap64 (x4_1 + 1)), (sd), H', ⟨by have := HK1.out; have := HJ3.out; omega⟩, ⟨kR HO396⟩, ⟨bl⟩⟩
       ·have H' := qa H; clear H; go_wp2
        go_roundg kj3
        case measure => have := HK1.out; have := HJ3.out; omega
        case rel => exact ⟨(x3_1), (wrap64 (x4_1 + 1)), (sd), H', ⟨by have := HK1.out; have := HJ3.out; omega⟩, ⟨kR HO_3⟩, ⟨bl⟩⟩
     ·replace c6 := Bool.eq_false_iff.mpr c6; subst c6; replace H := qf H; obtain rfl := Option.some.inj H; go_wp2; go_ret; exact ⟨_, er, kR HO_3, bl⟩

/-! ### spec_CommonOf: function 94 -/
mutual
def spec_CommonOf.j0 : Nat → Int → Int → Bool → Option (Int)
 | 0, _, _, _ => none
 | k + 1, x0, x1, x13 => if x13 = true then (some (-1)) else (spec_CommonOf.l0 k x0 x1)
def spec_CommonOf.l0 : Nat → Int → Int → Option (Int)
 | 0, _, _ => none
 | k + 1, x0, x1 => if x1 > 0 then (if x1 = 0 then (none) else (spec_CommonOf.l0 k x1 (Int.tmod x0 x1))) else (some x0)
end
def spec_CommonOf.f (k : Nat) (a0 : Int) (a1 : Int) : Option (Int) := (spec_l1In.f a0 1 10000).bind fun t397 => (if t397 = true then ((spec_l1In.f a1 1 10000).bind fun t398 => (spec_CommonOf.j0 k a0 a1 (!t398))) else (spec_CommonOf.j0 k a0 a1 true))
theorem spec_CommonOf.mono_l : ∀ k, (∀ y0 y1 y2, LeO (spec_CommonOf.j0 k y0 y1 y2) (spec_CommonOf.j0 (k + 1) y0 y1 y2)) ∧ (∀ y0 y1, LeO (spec_CommonOf.l0 k y0 y1) (spec_CommonOf.l0 (k + 1) y0 y1))
 | 0 => ⟨fun _ _ _ r h => by simp [spec_CommonOf.j0] at h, fun _ _ r h => by simp [spec_CommonOf.l0] at h⟩
 | k + 1 => by
  obtain ⟨ih0, ih1⟩ := spec_CommonOf.mono_l k; refine ⟨?_, ?_⟩
  ·intro y0 y1 y2; unfold spec_CommonOf.j0; exact mz
  ·intro y0 y1; unfold spec_CommonOf.l0; exact mz
theorem spec_CommonOf.mono : ∀ a0 a1 k, LeO (spec_CommonOf.f k a0 a1) (spec_CommonOf.f (k + 1) a0 a1) := by
 intro a0 a1 k; obtain ⟨ih0, ih1⟩ := spec_CommonOf.mono_l k; unfold spec_CommonOf.f; exact mz
set_option maxHeartbeats 8000000 in
set_option maxRecDepth 100000 in
theorem spec_CommonOf.calls (k : Nat) (a0 : Int) (a1 : Int) (r : Int) (w : World) (h : spec_CommonOf.f k a0 a1 = some r) :
  Calls Try.prog 94 #[.int .i64 a0, .int .i64 a1] w fun e w' => e = .returned (.int .i64 r) ∧ Drawn0 w w' := by
 have H : ((spec_l1In.f a0 1 10000).bind fun t397 => (if t397 = true then ((spec_l1In.f a1 1 10000).bind fun t398 => (spec_CommonOf.j0 k a0 a1 (!t398))) else (spec_CommonOf.j0 k a0 a1 true))) = some r := h; clear h; have HC3 := qa H; clear H
 go_enter Try.func94, Try.ntmps94
 go_upto_region 1 with (fail)
 go_cut [13] (fun v13 wc => ∃ (kq : Nat) (x13_2 : Bool), v13 = .bool x13_2 ∧ Aside0 (spec_CommonOf.j0 kq a0 a1 x13_2 = some r) ∧ Aside0 (kq ≤ k) ∧ Drawn0 w wc)
 case first =>
  have H := HC3.out; clear HC3; replace H := qb H; obtain ⟨t397, A4, H⟩ := H
  by_cases c5 : t397 = true
  ·subst c5; replace H := qt H; replace H := qb H; obtain ⟨t398, A6, H⟩ := H; have H' := qa H; clear H
   go_wp2_with (first | ((with_reducible refine gate_callee (f := 78) rfl ?_); refine gol (some 7) Try.func78 #[.int .i64 a0, .int .i64 1, .int .i64 10000] ?_; (with_reducible refine (spec_l1In.calls a0 1 10000 true _ A4.out).mono ?_); rintro e w' ⟨rfl, ⟨nd, rfl⟩⟩; refine ⟨_, rfl, ?_⟩) | (go_at_call 78; (with_reducible refine (spec_l1In.calls a1 1 10000 t398 _ A6.out).mono ?_); rintro e w' ⟨rfl, ⟨nd, rfl⟩⟩))
   go_meet
   case rel => exact ⟨_, (!t398), (sd), H', ⟨by first | omega | exact Nat.le_refl _⟩, dr⟩
  ·replace c5 := Bool.eq_false_iff.mpr c5; subst c5; replace H := qf H; have H' := qa H; clear H
   go_wp2_with (first | ((with_reducible refine gate_callee (f := 78) rfl ?_); refine gol (some 7) Try.func78 #[.int .i64 a0, .int .i64 1, .int .i64 10000] ?_; (with_reducible refine (spec_l1In.calls a0 1 10000 false _ A4.out).mono ?_); rintro e w' ⟨rfl, ⟨nd, rfl⟩⟩; refine ⟨_, rfl, ?_⟩))
   go_meet
   case rel => exact ⟨_, (true), (sd), H', ⟨by first | omega | exact Nat.le_refl _⟩, dr⟩
 case rest =>
  clear HC3; obtain ⟨kq, x13_2, rfl, HA, HJ2, ⟨mc2, rfl⟩⟩ := hcut
  cases kq with
  | zero => exact absurd HA.out (by simp [spec_CommonOf.j0])
  | succ kj2 =>
   have H := HA.out; clear HA; simp only [spec_CommonOf.j0] at H
   by_cases c7 : x13_2 = true
   ·subst c7; replace H := qt H; obtain rfl := Option.some.inj H; go_wp2; go_ret; exact ⟨sd, dr⟩
   ·replace c7 := Bool.eq_false_iff.mpr c7; subst c7; replace H := qf H; have H' := qa H; clear H; go_wp2
    go_loopg [0, 1] kj2 (fun kq v0 v1 w' => ∃ (x0_2 : Int) (x1_2 : Int), v0 = .int .i64 x0_2 ∧ v1 = .int .i64 x1_2 ∧ Aside0 (spec_CommonOf.l0 kq x0_2 x1_2 = some r) ∧ Aside0 (kq ≤ kj2) ∧ Drawn0 w w')
    case atStart => exact ⟨(a0), (a1), (sd), (sd), H', ⟨Nat.le_refl _⟩, dr⟩
    case round =>
     clear H'; obtain ⟨x0_2, x1_2, rfl, rfl, HA, HK2, ⟨m2, rfl⟩⟩ := hrel
     cases gk with
     | zero => exact absurd HA.out (by simp [spec_CommonOf.l0])
     | succ k2 =>
      have H := HA.out; clear HA; simp only [spec_CommonOf.l0] at H
      by_cases c8 : x1_2 > 0
      ·rw [if_pos c8] at H; have c8b0 : decide (0 < x1_2) = true := decide_eq_true c8; clear c8
       by_cases c9 : x1_2 = 0
       ·rw [if_pos c9] at H; exact absurd H (by simp)
       ·rw [if_neg c9] at H; have c9b0 : (x1_2 == 0) = false := beq_eq_false_iff_ne.mpr c9; have c9b1 : (x1_2 != 0) = true := bne_iff_ne.mpr c9; have H' := qa H; clear H; go_wp2
        go_roundg k2
        case measure => have := HJ2.out; have := HK2.out; omega
        case rel => exact ⟨(x1_2), (Int.tmod x0_2 x1_2), (sd), (sd), H', ⟨by have := HJ2.out; have := HK2.out; omega⟩, dr⟩
      ·rw [if_neg c8] at H; have c8b0 : decide (0 < x1_2) = false := decide_eq_false c8; clear c8; obtain rfl := Option.some.inj H; go_wp2; go_ret; exact ⟨sd, dr⟩

end Go.Proofs.Ytmgjidgfhlclmaa.PFnExactDeskRun
