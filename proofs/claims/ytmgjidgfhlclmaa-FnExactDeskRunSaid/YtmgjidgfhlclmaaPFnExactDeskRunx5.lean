-- Written for this claim by a program of this session (wip/myprint.sh), after the kit's print; some functions by hand
import Derived.Test.YtmgjidgfhlclmaaPFnExactDeskRunx0
import Derived.Test.YtmgjidgfhlclmaaPFnExactDeskRunx4
import Derived.Test.YtmgjidgfhlclmaaWPress
namespace Go.Proofs.Ytmgjidgfhlclmaa.PFnExactDeskRun
open Go.RowKit Go.Proofs.YtmgjidgfhlclmaaW.PrintWords Go.Proofs.YtmgjidgfhlclmaaW.PrintLast Go.Proofs.YtmgjidgfhlclmaaW.PrintMore
attribute [local go_sem] max2_int min2_int max_two min_two max_three min_three max_four min_four   -- for this text's walks alone
set_option linter.unusedVariables false
set_option linter.unusedSimpArgs false

-- CALLS: impl.divisors impl.small
/-! ### impl_TimesOf: by hand -/
def impl_TimesOf_1.l0 : Nat → Int → List Int → List Int → List Int → Int → Int → Option Int
 | 0, _, _, _, _, _, _ => none
 | k + 1, n, f, g, ds, x5, x11 => if x11 < (ds.length : Int) then (if 0 ≤ x11 then (if (rd ds x11) = 0 then (none) else (if 0 ≤ (wrap64 ((rd ds x11) - 1)) then (if (wrap64 ((rd ds x11) - 1)) < (f.length : Int) then (if 0 ≤ (wrap64 ((wrap64 (Int.tdiv n (rd ds x11))) - 1)) then (if (wrap64 ((wrap64 (Int.tdiv n (rd ds x11))) - 1)) < (g.length : Int) then (impl_TimesOf_1.l0 k n f g ds (wrap64 (x5 + (wrap64 ((rd f (wrap64 ((rd ds x11) - 1))) * (rd g (wrap64 ((wrap64 (Int.tdiv n (rd ds x11))) - 1))))))) (wrap64 (x11 + 1))) else (none)) else (none)) else (none)) else (none))) else (none)) else (some x5)
def impl_TimesOf_1.f (k : Nat) (n : Int) (f g : List Int) : Option Int := (impl_divisors.f k n).bind fun ds => impl_TimesOf_1.l0 k n f g ds 0 0
theorem impl_TimesOf_1.mono_l : ∀ k, ∀ y0 y1 y2 y3 y4 y5, LeO (impl_TimesOf_1.l0 k y0 y1 y2 y3 y4 y5) (impl_TimesOf_1.l0 (k + 1) y0 y1 y2 y3 y4 y5)
 | 0 => fun _ _ _ _ _ _ r h => by simp [impl_TimesOf_1.l0] at h
 | k + 1 => by
  have ih := impl_TimesOf_1.mono_l k; intro y0 y1 y2 y3 y4 y5; unfold impl_TimesOf_1.l0; exact LeO.ite (LeO.ite (LeO.ite (LeO.refl _) (LeO.ite (LeO.ite (LeO.ite (LeO.ite (ih _ _ _ _ _ _) (LeO.refl _)) (LeO.refl _)) (LeO.refl _)) (LeO.refl _))) (LeO.refl _)) (LeO.refl _)
theorem impl_TimesOf_1.mono : ∀ n f g k, LeO (impl_TimesOf_1.f k n f g) (impl_TimesOf_1.f (k + 1) n f g) := by
 intro n f g k; unfold impl_TimesOf_1.f; exact LeO.bind (impl_divisors.mono _ _) (fun _ => impl_TimesOf_1.mono_l k _ _ _ _ _ _)
set_option maxHeartbeats 8000000 in
set_option maxRecDepth 100000 in
theorem impl_TimesOf_1.calls (k : Nat) (n : Int) (l1 l2 : List Int) (r : Int) (B1 B2 : Nat) (A1 A2 : Option Addr) (c1 c2 : Nat) (w : World) (hcap1 : w.cell? ⟨B1, 0, none⟩ = some (.slice A1 l1.length c1)) (hcap2 : w.cell? ⟨B2, 0, none⟩ = some (.slice A2 l2.length c2)) (hr1 : Kd.C (Kd.int .i64) w A1 l1.length l1) (hr2 : Kd.C (Kd.int .i64) w A2 l2.length l2) (h : impl_TimesOf_1.f k n l1 l2 = some r) :
  Calls Try.prog 48 #[.int .i64 n, .pointer (some ⟨B1, 0, none⟩), .pointer (some ⟨B2, 0, none⟩)] w fun e w' => e = .returned (.int .i64 r) ∧ Below w.heap.size w w' := by
 have HB := qa (Below.refl w.heap.size w); have H := h; clear h; unfold impl_TimesOf_1.f at H; replace H := qb H; obtain ⟨t136, A4, H⟩ := H; have H' := qa H; clear H; have CAP1 := qa hcap1; have CAP2 := qa hcap2; have HR1 := qa hr1; have HR2 := qa hr2; clear hcap1 hcap2 hr1 hr2
 go_enter Try.func48, Try.ntmps48
 go_wp2_with (first | ((with_reducible refine gate_callee (f := 49) rfl ?_); refine gol (some 9) Try.func49 #[.int .i64 n] ?_; (with_reducible refine (impl_divisors.calls k n t136 _ A4.out).mono ?_); rintro e w5 ⟨v137, rfl, ho0, hb⟩; refine ⟨_, rfl, ?_⟩; have HO138 := qa (Kd.R_lower ho0 (below_size (bl))); replace HB := qa (below_step (bl) hb); obtain ⟨Ao6, co6, eo6⟩ := Kd.R_slice HO138.out; subst eo6))
 go_loopg [5, 11] k (fun kq v5 v11 w' => ∃ (x5_1 : Int) (x11_1 : Int), v5 = .int .i64 x5_1 ∧ v11 = .int .i64 x11_1 ∧ Aside0 (impl_TimesOf_1.l0 kq n l1 l2 t136 x5_1 x11_1 = some r) ∧ Aside0 (kq ≤ k) ∧ Aside0 (Kd.R (Kd.int .i64) 3 w' w.heap.size (fun _ => True) (.slice Ao6 t136.length co6) t136) ∧ Aside0 (Below w.heap.size w w'))
 case atStart => exact ⟨(0), (0), (sd), (sd), H', ⟨Nat.le_refl _⟩, ⟨kR HO138⟩, ⟨bl⟩⟩
 case round =>
  clear H'; obtain ⟨x5_1, x11_1, rfl, rfl, HA, HK1, HO_11, HB⟩ := hrel
  cases gk with
  | zero => exact absurd HA.out (by simp [impl_TimesOf_1.l0])
  | succ k1 =>
   have H := HA.out; clear HA; simp only [impl_TimesOf_1.l0] at H
   by_cases c7 : x11_1 < (t136.length : Int)
   ·rw [if_pos c7] at H; have c7b0 : decide (x11_1 < (t136.length : Int)) = true := decide_eq_true c7; replace H := qn H; obtain ⟨c8, H⟩ := H
    by_cases c10 : (rd t136 x11_1) = 0
    ·rw [if_pos c10] at H; exact absurd H (by simp)
    ·rw [if_neg c10] at H; have c10b0 : ((rd t136 x11_1) == 0) = false := beq_eq_false_iff_ne.mpr c10; have c10b1 : ((rd t136 x11_1) != 0) = true := bne_iff_ne.mpr c10
     split at H
     ·rename_i d1
      split at H
      ·rename_i d2
       split at H
       ·rename_i d3
        split at H
        ·rename_i d4
         have H' := qa H; clear H; obtain ⟨ad139, e139, hx139_0⟩ := Kd.at_int (Kd.R_reads' HO_11.out).2.2 x11_1 c8 c7; cases e139; obtain ⟨ad1, e1, hx1⟩ := Kd.at_int (Kd.C_below HR1.out HB.out) _ d1 d2; obtain ⟨ad2, e2, hx2⟩ := Kd.at_int (Kd.C_below HR2.out HB.out) _ d3 d4; (have hcr1 : wr.cell? ⟨B1, 0, none⟩ = some (.slice (some ad1) l1.length c1) := by rw [← e1]; exact (HB.out.cell (World.block_lt_of_cell? w _ CAP1.out)).trans CAP1.out); (have hcr2 : wr.cell? ⟨B2, 0, none⟩ = some (.slice (some ad2) l2.length c2) := by rw [← e2]; exact (HB.out.cell (World.block_lt_of_cell? w _ CAP2.out)).trans CAP2.out); clear e1 e2; simp only [← i64_w] at hx1 hx2 d1 d2 d3 d4; replace c7 := eq_true c7; replace c8 := eq_true c8; replace d1 := eq_true d1; replace d2 := eq_true d2; replace d3 := eq_true d3; replace d4 := eq_true d4
         go_wp2_with fail
         go_quiet (fail)
         go_wp2
         go_roundg k1
         case measure => have := HK1.out; omega
         case rel => exact ⟨(wrap64 (x5_1 + (wrap64 ((rd l1 (wrap64 ((rd t136 x11_1) - 1))) * (rd l2 (wrap64 ((wrap64 (Int.tdiv n (rd t136 x11_1))) - 1))))))), (wrap64 (x11_1 + 1)), z62_, z62_, H', ⟨by have := HK1.out; omega⟩, ⟨kR HO_11⟩, ⟨bl⟩⟩
        ·exact absurd H (by simp)
       ·exact absurd H (by simp)
      ·exact absurd H (by simp)
     ·exact absurd H (by simp)
   ·rw [if_neg c7] at H; have c7b0 : decide (x11_1 < (t136.length : Int)) = false := decide_eq_false c7; clear c7; obtain rfl := Option.some.inj H; go_wp2; go_ret; exact ⟨sd, bl⟩
def impl_rowBy_TimesOf.l0 : Nat → List Int → List Int → List Int → Int → Option (List Int)
 | 0, _, _, _, _ => none
 | k + 1, l0, l1, x3, x8 => if x8 < 24 then (if 0 ≤ x8 then ((impl_TimesOf_1.f k (wrap64 (x8 + 1)) l0 l1).bind fun t => (if x8 < (x3.length : Int) then (impl_rowBy_TimesOf.l0 k l0 l1 (x3.set (x8 : Int).toNat t) (wrap64 (x8 + 1))) else (none))) else (none)) else (some x3)
theorem impl_rowBy_TimesOf.mono_l : ∀ k, ∀ z0 z1 y0 y1, LeO (impl_rowBy_TimesOf.l0 k z0 z1 y0 y1) (impl_rowBy_TimesOf.l0 (k + 1) z0 z1 y0 y1)
 | 0 => fun _ _ _ _ r h => by simp [impl_rowBy_TimesOf.l0] at h
 | k + 1 => by
  have ih := impl_rowBy_TimesOf.mono_l k; intro z0 z1 y0 y1; unfold impl_rowBy_TimesOf.l0; refine LeO.ite (LeO.ite (LeO.bind (impl_TimesOf_1.mono _ _ _ _) (fun _ => LeO.ite (ih _ _ _ _) (LeO.refl _))) (LeO.refl _)) (LeO.refl _)
theorem impl_rowBy_TimesOf.len : ∀ k z0 z1 (x : List Int) i r, impl_rowBy_TimesOf.l0 k z0 z1 x i = some r → r.length = x.length
 | 0, _, _, _, _, _, h => by simp [impl_rowBy_TimesOf.l0] at h
 | k + 1, z0, z1, x, i, r, h => by
  simp only [impl_rowBy_TimesOf.l0] at h
  split at h
  ·split at h
   ·obtain ⟨t, _, h⟩ := Option.bind_eq_some_iff.mp h; replace h : (if i < (x.length : Int) then (impl_rowBy_TimesOf.l0 k z0 z1 (x.set (i : Int).toNat t) (wrap64 (i + 1))) else (none)) = some r := h
    split at h
    ·rw [impl_rowBy_TimesOf.len k _ _ _ _ _ h, List.length_set]
    ·simp at h
   ·simp at h
  ·obtain rfl := Option.some.inj h
   rfl
set_option maxHeartbeats 8000000 in
set_option maxRecDepth 100000 in
theorem impl_rowBy_TimesOf.calls (k : Nat) (l0 : List Int) (l1 : List Int) (r : List Int) (B1 B2 : Nat) (A0 A1 : Option Addr) (c0 c1 : Nat) (w : World) (h0 : w.cell? ⟨B1, 0, none⟩ = some (.slice A0 l0.length c0)) (h1 : w.cell? ⟨B2, 0, none⟩ = some (.slice A1 l1.length c1)) (h2 : Kd.C (Kd.int .i64) w A0 l0.length l0) (h3 : Kd.C (Kd.int .i64) w A1 l1.length l1) (H : impl_rowBy_TimesOf.l0 k l0 l1 (List.replicate (24 : Int).toNat 0) 0 = some r) :
  Calls Try.prog 47 #[.func (.func 48) #[] #[.pointer (some ⟨B1, 0, none⟩), .pointer (some ⟨B2, 0, none⟩)]] w fun e w' => ∃ v0_ : Value, e = .returned (v0_) ∧ Kd.R (Kd.int .i64) 3 w' w.heap.size (fun _ => True) v0_ r ∧ Below w.heap.size w w' := by
 have HH0 := qa h0; have HH1 := qa h1; have HH2 := qa h2; have HH3 := qa h3; clear h0 h1 h2 h3; have HB := qa (Below.refl w.heap.size w); have H' := qa H; clear H
 go_enter Try.func47, Try.ntmps47
 go_wp2_with (first | ((with_reducible refine gate_dst (N := 5) rfl ?_); refine Kd.R_make (Kd.int .i64) _ 3 rfl (N := 5) rfl 23 _ _ rfl (24 : Int) rfl rfl Try.underlying23 (.int .i64 0) 8 info3 rfl (by decide) (by omega) 0 (ok := fun _ => True) (okp := fun _ => True) rfl (fun _ hk => hk) trivial (by decide) (by decide) (Below.refl _ _) (Nat.le_refl _) ?_; intro v113 w4 ho5 hb hg_ hnew_; clear hg_ hnew_; have HO114 := qa (Kd.R_lower ho5 (below_size (bl))); replace HB := qa (below_step (bl) hb); clear hb ho5; obtain ⟨go4, co4, eo4, gb4, gl4, cl4, HG4⟩ := Kd.R_form HO114.out (by simp); rw [List.length_replicate, show (24 : Int).toNat = 24 from rfl] at eo4; subst eo4; clear gb4 gl4 HG4))
 go_loopg [8] k (fun kq v8 w' => ∃ (x3_1 : List Int) (x8_1 : Int), v8 = .int .i64 x8_1 ∧ Aside0 (x3_1.length = 24) ∧ Aside0 (impl_rowBy_TimesOf.l0 kq l0 l1 x3_1 x8_1 = some r) ∧ Aside0 (kq ≤ k) ∧ Aside0 (Kd.R (Kd.int .i64) 3 w' w.heap.size (fun _ => True) (.slice (some ⟨go4, 0, none⟩) 24 co4) x3_1) ∧ Aside0 (Below w.heap.size w w'))
 case atStart => exact ⟨_, (0), (sd), ⟨List.length_replicate ..⟩, H', ⟨Nat.le_refl _⟩, ⟨kR HO114⟩, ⟨bl⟩⟩
 case round =>
  clear H' HO114; obtain ⟨x3_1, x8_1, rfl, HL, HA, HK1, HO_3, HB⟩ := hrel
  cases gk with
  | zero => exact absurd HA.out (by simp [impl_rowBy_TimesOf.l0])
  | succ k1 =>
   have H := HA.out; clear HA; simp only [impl_rowBy_TimesOf.l0] at H
   by_cases c6 : x8_1 < 24
   ·rw [if_pos c6] at H; have c6b0 : decide (x8_1 < 24) = true := decide_eq_true c6; replace H := qn H; obtain ⟨c7, H⟩ := H; replace H := qb H; obtain ⟨t121, A8, H⟩ := H; (have q9' : x8_1 < (x3_1.length : Int) := by have := HL.out; omega); rw [if_pos q9'] at H; have H' := qa H; clear H; have c7b : decide (0 ≤ x8_1) = true := decide_eq_true c7; have C7 := qa c7; have C6 := qa c6; have Q9 := qa q9'; clear q9'; replace c7 := eq_true c7; replace c6 := eq_true c6
    go_wp2_with (first | (go_at_call 48; (with_reducible refine (impl_TimesOf_1.calls k1 (wrap64 (x8_1 + 1)) l0 l1 t121 B1 B2 A0 A1 c0 c1 _ ((HB.out.cell (World.block_lt_of_cell? w _ HH0.out)).trans HH0.out) ((HB.out.cell (World.block_lt_of_cell? w _ HH1.out)).trans HH1.out) (Kd.C_below HH2.out HB.out) (Kd.C_below HH3.out HB.out) A8.out).mono ?_); rintro e w11 ⟨rfl, hb⟩; replace HO_3 := qa (Kd.R_below HO_3.out hb); replace HB := qa (below_step (bl) hb); clear hb; obtain ⟨hx9_0, hf9_0⟩ := Kd.R_celln 0 HO_3.out (x8_1 : Int) C7.out (by have := C6.out; omega); have GB9 := qa (Kd.R_base HO_3.out go4 rfl); have HP10 := Kd.R_putg HO_3.out (x8_1 : Int) t121) | ((with_reducible refine gate_store (t := 3) (p := 17) rfl ?_); refine store_event (t := 3) (p := 17) (v := ?vo_w11) (w1 := (w11.setCell ⟨go4, (x8_1 : Int).toNat, none⟩ (.int .i64 t121))) ?hg ?ho ?hn ?hr ?_; (case ho => rfl); (case hg => rfl); (case hn => rfl); (case hr => exact gr); intro w13 hw; have hp_ : Kd.R (Kd.int .i64) 3 w13 w.heap.size (fun _ => True) (.slice (some ⟨go4, 0, none⟩) 24 co4) (x3_1.set (x8_1 : Int).toNat t121) := (by rw [hw]; exact HP10.1); clear HP10; replace HO_3 := qa (hp_); replace HB := qa ((by rw [hw]; exact below_set (HB.out) GB9.out : Below w.heap.size w w13)); clear hw hp_))
    go_roundg k1
    case measure => have := HK1.out; omega
    case rel => exact ⟨_, (wrap64 (x8_1 + 1)), (sd), ⟨by rw [List.length_set]; exact HL.out⟩, H', ⟨by have := HK1.out; omega⟩, ⟨kR HO_3⟩, ⟨bl⟩⟩
   ·rw [if_neg c6] at H; have c6b0 : decide (x8_1 < 24) = false := decide_eq_false c6; clear c6; obtain rfl := Option.some.inj H; go_wp2; go_ret; exact ⟨_, sd, kR HO_3, bl⟩
def impl_TimesOf.f (k : Nat) (l0 l1 : List Int) : Option (List Int × Bool) := (impl_small.f k l0).bind fun s => (if s = true then ((impl_small.f k l1).bind fun s2 => (if s2 = true then ((impl_rowBy_TimesOf.l0 k l0 l1 (List.replicate (24 : Int).toNat 0) 0).bind fun t => some (t, true)) else some (([] : List Int), false))) else some (([] : List Int), false))
set_option maxHeartbeats 8000000 in
set_option maxRecDepth 100000 in
theorem impl_TimesOf.calls (k : Nat) (A0 : Option Addr) (c0 : Nat) (l0 : List Int) (A1 : Option Addr) (c1 : Nat) (l1 : List Int) (r1 : List Int) (r2 : Bool) (w : World) (hr0 : Kd.C (Kd.int .i64) w A0 l0.length l0) (hc0 : l0.length ≤ c0) (hr1 : Kd.C (Kd.int .i64) w A1 l1.length l1) (hc1 : l1.length ≤ c1) (h : impl_TimesOf.f k l0 l1 = some (r1, r2)) :
  Calls Try.prog 13 #[.slice A0 l0.length c0, .slice A1 l1.length c1] w fun e w' => ∃ v0_ : Value, e = .returned (.tuple #[v0_, .bool r2]) ∧ Kd.R (Kd.int .i64) 3 w' w.heap.size (fun _ => True) v0_ r1 ∧ Below w.heap.size w w' := by
 (have hmf : ∀ (fn : Fn) (first cap : Array Value) (w : World), (Instr.makeFunc fn first cap).run Try.prog w = .ok (.func fn first cap) w := fun _ _ _ _ => rfl); have HR0 := qa hr0; have HC0 := qa hc0; have HR1 := qa hr1; have HC1 := qa hc1; clear hr0 hc0 hr1 hc1; have H := h; clear h; unfold impl_TimesOf.f at H; replace H := Option.bind_eq_some_iff.mp H; obtain ⟨s, S00, H⟩ := H; have S0 := qa S00; clear S00
 cases s with
 | false =>
  have H2 : (([] : List Int), false) = (r1, r2) := Option.some.inj H; obtain ⟨rfl, rfl⟩ := Prod.mk.inj H2; clear H H2
  go_enter Try.func13, Try.ntmps13
  go_wp2_with (first | (go_at_call 46; (with_reducible refine (impl_small.calls k A0 c0 l0 false _ ?s0 HC0.out S0.out).mono ?_); (case s0 => exact cx HR0.out); rintro e w' ⟨rfl, ⟨nd0, rfl⟩⟩))
  go_ret2; exact ⟨_, sd, Kd.R_nil _ _ _ _ _, z20_⟩
 | true =>
  replace H : ((impl_small.f k l1).bind fun s2 => (if s2 = true then ((impl_rowBy_TimesOf.l0 k l0 l1 (List.replicate (24 : Int).toNat 0) 0).bind fun t => some (t, true)) else some (([] : List Int), false))) = some (r1, r2) := H; replace H := Option.bind_eq_some_iff.mp H; obtain ⟨s2, S10, H⟩ := H; have S1 := qa S10; clear S10
  cases s2 with
  | false =>
   have H2 : (([] : List Int), false) = (r1, r2) := Option.some.inj H; obtain ⟨rfl, rfl⟩ := Prod.mk.inj H2; clear H H2
   go_enter Try.func13, Try.ntmps13
   go_wp2_with (first | (go_at_call 46; (with_reducible refine (impl_small.calls k A0 c0 l0 true _ ?s0 HC0.out S0.out).mono ?_); (case s0 => exact cx HR0.out); rintro e w' ⟨rfl, ⟨nd0, rfl⟩⟩) | (go_at_call 46; (with_reducible refine (impl_small.calls k A1 c1 l1 false _ ?s1 HC1.out S1.out).mono ?_); (case s1 => exact cx HR1.out); rintro e w' ⟨rfl, ⟨nd1, rfl⟩⟩))
   go_ret2; exact ⟨_, sd, Kd.R_nil _ _ _ _ _, z20_⟩
  | true =>
   replace H : ((impl_rowBy_TimesOf.l0 k l0 l1 (List.replicate (24 : Int).toNat 0) 0).bind fun t => some (t, true)) = some (r1, r2) := H; replace H := Option.bind_eq_some_iff.mp H; obtain ⟨t, T0, H⟩ := H; obtain ⟨rfl, rfl⟩ := Prod.mk.inj (Option.some.inj H); clear H; have H' := qa T0; clear T0
   go_enter Try.func13, Try.ntmps13
   go_wp2_with (first | (go_at_call 46; (with_reducible refine (impl_small.calls k A0 c0 l0 true _ ?s0 HC0.out S0.out).mono ?_); (case s0 => exact cx HR0.out); rintro e w' ⟨rfl, ⟨nd0, rfl⟩⟩) | (go_at_call 46; (with_reducible refine (impl_small.calls k A1 c1 l1 true _ ?s1 HC1.out S1.out).mono ?_); (case s1 => exact cx HR1.out); rintro e w' ⟨rfl, ⟨nd1, rfl⟩⟩) | (go_at_call 47; (with_reducible refine (impl_rowBy_TimesOf.calls k l0 l1 t _ _ A0 A1 c0 c1 _ ?c1 ?c2 ?c3 ?c4 H'.out).mono ?_)))
   case c1 => first | (simp [World.cell?_alloc_at]; done) | (simp [World.cell?_alloc_at, World.cell?_alloc_lt]; done) | (simp; done)
   case c2 => first | (simp [World.cell?_alloc_at]; done) | (simp; done)
   case c3 => exact cx HR0.out
   case c4 => exact cx HR1.out
   rintro e w6 ⟨v6, rfl, ho, hb⟩; have HO := qa (Kd.R_lower ho (below_size z18_)); have HB := qa (below_step z18_ hb); clear ho hb H'; go_wp2; go_ret2; exact ⟨_, sd, z54_, bl⟩

/-! ### impl_sum: function 51 -/
def impl_sum.l0 : Nat → Int → List Int → Int → Int → Option (Int)
 | 0, _, _, _, _ => none
 | k + 1, x3, x6, x7, x8 => if x8 < x7 then (if 0 ≤ x8 then (if x8 < (x6.length : Int) then (impl_sum.l0 k (wrap64 (x3 + (rd x6 x8))) x6 x7 (wrap64 (x8 + 1))) else (none)) else (none)) else (some x3)
def impl_sum.f (k : Nat) (l0 : List Int) : Option (Int) := impl_sum.l0 k 0 l0 (l0.length : Int) 0
theorem impl_sum.mono_l : ∀ k, (∀ y0 y1 y2 y3, LeO (impl_sum.l0 k y0 y1 y2 y3) (impl_sum.l0 (k + 1) y0 y1 y2 y3))
 | 0 => fun _ _ _ _ r h => by simp [impl_sum.l0] at h
 | k + 1 => by
  have ih0 := impl_sum.mono_l k
  ·intro y0 y1 y2 y3; unfold impl_sum.l0; exact mz
theorem impl_sum.mono : ∀ a0 k, LeO (impl_sum.f k a0) (impl_sum.f (k + 1) a0) := by
 intro a0 k; have ih0 := impl_sum.mono_l k; unfold impl_sum.f; exact mz
set_option maxHeartbeats 8000000 in
set_option maxRecDepth 100000 in
theorem impl_sum.calls (k : Nat) (A0 : Option Addr) (c0 : Nat) (l0 : List Int) (r : Int) (w : World) (hr0 : Kd.C (Kd.int .i64) w A0 l0.length l0) (hc0 : l0.length ≤ c0) (h : impl_sum.f k l0 = some r) :
  Calls Try.prog 51 #[.slice A0 l0.length c0] w fun e w' => e = .returned (.int .i64 r) ∧ Drawn0 w w' := by
 have HR0 := qa hr0; have HC0 := qa hc0; clear hr0 hc0; have H : (impl_sum.l0 k 0 l0 (l0.length : Int) 0) = some r := h; clear h; have H' := qa H; clear H
 go_enter Try.func51, Try.ntmps51
 go_wp2
 go_loopg [3, 8] k (fun kq v3 v8 w' => ∃ (x3_1 : Int) (x8_1 : Int), v3 = .int .i64 x3_1 ∧ v8 = .int .i64 x8_1 ∧ Aside0 (impl_sum.l0 kq x3_1 l0 (l0.length : Int) x8_1 = some r) ∧ Aside0 (kq ≤ k) ∧ Drawn0 w w')
 case atStart => exact ⟨(0), (0), (sd), (sd), H', ⟨Nat.le_refl _⟩, dr⟩
 case round =>
  clear H'; obtain ⟨x3_1, x8_1, rfl, rfl, HA, HK1, ⟨m1, rfl⟩⟩ := hrel
  cases gk with
  | zero => exact absurd HA.out (by simp [impl_sum.l0])
  | succ k1 =>
   have H := HA.out; clear HA; simp only [impl_sum.l0] at H; replace H := qe H; obtain ⟨c2b0, H⟩ | ⟨c2b0, H⟩ := H
   ·replace H := qd H; obtain ⟨c3b0, H⟩ := H; replace H := qd H; obtain ⟨c4b0, H⟩ := H; have H' := qa H; clear H; have p171 : 0 ≤ (x8_1 : Int) := qo; have q171 : x8_1 < (l0.length : Int) := qo; obtain ⟨ad171, e171, hx171_0⟩ := Kd.at_int HR0.out x8_1 p171 q171; cases e171; replace p171 := eq_true p171; replace q171 := eq_true q171; go_wp2
    go_roundg k1
    case measure => have := HK1.out; omega
    case rel => exact ⟨(wrap64 (x3_1 + (rd l0 x8_1))), (wrap64 (x8_1 + 1)), (sd), (sd), H', ⟨by have := HK1.out; omega⟩, dr⟩
   ·obtain rfl := Option.some.inj H; go_wp2; go_ret; exact ⟨sd, dr⟩

/-! ### impl_factors: function 54 -/
mutual
def impl_factors.l0 : Nat → Int → List (List Int) → Int → Option ((List (List Int)))
 | 0, _, _, _ => none
 | k + 1, x0, x3, x4 => if x0 > 1 then (if (wrap64 (x4 * x4)) > x0 then (impl_factors.j1 k x0 x3 x0) else (impl_factors.j1 k x0 x3 x4)) else (some x3)
def impl_factors.j1 : Nat → Int → List (List Int) → Int → Option ((List (List Int)))
 | 0, _, _, _ => none
 | k + 1, x0, x3, x4 => impl_factors.l1 k x0 x3 x4 0
def impl_factors.l1 : Nat → Int → List (List Int) → Int → Int → Option ((List (List Int)))
 | 0, _, _, _, _ => none
 | k + 1, x0, x3, x4, x5 => if x4 = 0 then (none) else (if (Int.tmod x0 x4) = 0 then (impl_factors.l1 k (wrap64 (Int.tdiv x0 x4)) x3 x4 (wrap64 (x5 + 1))) else (if x5 > 0 then (if x3.length < 5864062014805 then (impl_factors.l0 k x0 (x3 ++ [(([x4, x5] : List Int))]) (wrap64 (x4 + 1))) else (none)) else (impl_factors.l0 k x0 x3 (wrap64 (x4 + 1)))))
end
def impl_factors.f (k : Nat) (a0 : Int) : Option ((List (List Int))) := impl_factors.l0 k a0 (([] : List (List Int))) 2
theorem impl_factors.mono_l : ∀ k, (∀ y0 y1 y2, LeO (impl_factors.l0 k y0 y1 y2) (impl_factors.l0 (k + 1) y0 y1 y2)) ∧ (∀ y0 y1 y2, LeO (impl_factors.j1 k y0 y1 y2) (impl_factors.j1 (k + 1) y0 y1 y2)) ∧ (∀ y0 y1 y2 y3, LeO (impl_factors.l1 k y0 y1 y2 y3) (impl_factors.l1 (k + 1) y0 y1 y2 y3))
 | 0 => ⟨fun _ _ _ r h => by simp [impl_factors.l0] at h, fun _ _ _ r h => by simp [impl_factors.j1] at h, fun _ _ _ _ r h => by simp [impl_factors.l1] at h⟩
 | k + 1 => by
  obtain ⟨ih0, ih1, ih2⟩ := impl_factors.mono_l k; refine ⟨?_, ?_, ?_⟩
  ·intro y0 y1 y2; unfold impl_factors.l0; exact mz
  ·intro y0 y1 y2; unfold impl_factors.j1; exact mz
  ·intro y0 y1 y2 y3; unfold impl_factors.l1; exact mz
theorem impl_factors.mono : ∀ a0 k, LeO (impl_factors.f k a0) (impl_factors.f (k + 1) a0) := by
 intro a0 k; obtain ⟨ih0, ih1, ih2⟩ := impl_factors.mono_l k; unfold impl_factors.f; exact mz
set_option maxHeartbeats 8000000 in
set_option maxRecDepth 100000 in
theorem impl_factors.calls (k : Nat) (a0 : Int) (r : List (List Int)) (w : World) (h : impl_factors.f k a0 = some r) :
  Calls Try.prog 54 #[.int .i64 a0] w fun e w' => ∃ v0_ : Value, e = .returned (v0_) ∧ Kd.S (Kd.slice 3 (Kd.int .i64)) 23 w' w.heap.size (fun _ => True) v0_ r ∧ Below w.heap.size w w' := by
 have HB := qa (Below.refl w.heap.size w); have H : (impl_factors.l0 k a0 (([] : List (List Int))) 2) = some r := h; clear h; obtain ⟨y172, hy_⟩ : ∃ y_ : List (List Int), y_ = (([] : List (List Int))) := ⟨_, rfl⟩; replace H : (impl_factors.l0 k a0 y172 2) = some r := yh; have Ny172 := qa hy_; clear hy_; have H' := qa H; clear H
 go_enter Try.func54, Try.ntmps54
 go_wp2_with (first | ((with_reducible refine gate_dst (N := 6) rfl ?_); refine Kd.S_lit (Kd.slice 3 (Kd.int .i64)) _ 23 ?hg (N := 6) ?hd (xs := ([] : List (List Int))) (inner := []) (ok := fun _ => True) (okp := fun _ => True) ?hr ?hp (fun _ hk => hk) trivial (Below.refl _ _) (Nat.le_refl _) (by simp) ?_; (case hd => rfl); (case hg => rfl); (case hr => exact gr); (case hp => exact (Reps.none _ _)); intro v173 w2 ho3 hb hg_ hnew_; clear hg_ hnew_; (first | rw [← Ny172.out] at ho3 | (simp only [Int.reduceToNat] at ho3; rw [← Ny172.out] at ho3)); have HO174 := qa (Kd.S_lower ho3 (below_size (bl))); replace HB := qa (below_step (bl) hb); clear hb ho3))
 go_loopg [0, 3, 4] k (fun kq v0 v3 v4 w' => ∃ (x0_1 : Int) (x3_1 : List (List Int)) (x4_1 : Int), v0 = .int .i64 x0_1 ∧ v4 = .int .i64 x4_1 ∧ Aside0 (impl_factors.l0 kq x0_1 x3_1 x4_1 = some r) ∧ Aside0 (kq ≤ k) ∧ Aside0 (Kd.S (Kd.slice 3 (Kd.int .i64)) 23 w' w.heap.size (fun _ => True) v3 x3_1) ∧ Aside0 (Below w.heap.size w w'))
 case atStart => exact ⟨(a0), (y172), (2), (sd), (sd), H', ⟨Nat.le_refl _⟩, ⟨kS HO174⟩, ⟨bl⟩⟩
 case round =>
  clear H'; obtain ⟨x0_1, x3_1, x4_1, rfl, rfl, HA, HK1, HO_3, HB⟩ := hrel
  cases gk with
  | zero => exact absurd HA.out (by simp [impl_factors.l0])
  | succ k1 =>
   have H := HA.out; clear HA; simp only [impl_factors.l0] at H
   by_cases c4 : x0_1 > 1
   ·rw [if_pos c4] at H; have c4b0 : decide (1 < x0_1) = true := decide_eq_true c4; clear c4; have HC5 := qa H; clear H
    go_upto_if 15 with (fail)
    go_cut [4] (fun v4 wc => ∃ (kq : Nat) (x4_4 : Int), v4 = .int .i64 x4_4 ∧ Aside0 (impl_factors.j1 kq x0_1 x3_1 x4_4 = some r) ∧ Aside0 (kq ≤ k1) ∧ Aside0 (Kd.S (Kd.slice 3 (Kd.int .i64)) 23 wc w.heap.size (fun _ => True) u3 x3_1) ∧ Aside0 (Below w.heap.size w wc))
    case first =>
     have H := HC5.out; clear HC5
     by_cases c6 : (wrap64 (x4_1 * x4_1)) > x0_1
     ·rw [if_pos c6] at H; have c6b0 : decide (x0_1 < (wrap64 (x4_1 * x4_1))) = true := decide_eq_true c6; clear c6; (first | rw [c6b0] | (simp only [i64_w, i32_w]; rw [c6b0]) | skip); have H' := qa H; clear H; go_wp2; go_meet
      case rel => exact ⟨_, (x0_1), (sd), H', ⟨z22_⟩, ⟨kS HO_3⟩, ⟨bl⟩⟩
     ·rw [if_neg c6] at H; have c6b0 : decide (x0_1 < (wrap64 (x4_1 * x4_1))) = false := decide_eq_false c6; clear c6; (first | rw [c6b0] | (simp only [i64_w, i32_w]; rw [c6b0]) | skip); have H' := qa H; clear H; go_wp2; go_meet
      case rel => exact ⟨_, (x4_1), (sd), H', ⟨z22_⟩, ⟨kS HO_3⟩, ⟨bl⟩⟩
    case rest =>
     clear HC5; obtain ⟨kq, x4_4, rfl, HA, HJ4, HO_3, HB⟩ := hcut
     cases kq with
     | zero => exact absurd HA.out (by simp [impl_factors.j1])
     | succ kj4 =>
      have H := HA.out; clear HA; simp only [impl_factors.j1] at H; have H' := qa H; clear H; go_wp2
      go_loopg [0, 5] kj4 (fun kq v0 v5 w' => ∃ (x0_3 : Int) (x5_3 : Int), v0 = .int .i64 x0_3 ∧ v5 = .int .i64 x5_3 ∧ Aside0 (impl_factors.l1 kq x0_3 x3_1 x4_4 x5_3 = some r) ∧ Aside0 (kq ≤ kj4) ∧ Aside0 (Kd.S (Kd.slice 3 (Kd.int .i64)) 23 w' w.heap.size (fun _ => True) u3 x3_1) ∧ Aside0 (Below w.heap.size w w'))
      case atStart => exact ⟨(x0_1), (0), (sd), (sd), H', ⟨Nat.le_refl _⟩, ⟨kS HO_3⟩, ⟨bl⟩⟩
      case round =>
       clear H'; obtain ⟨x0_3, x5_3, rfl, rfl, HA, HK3, HO_3, HB⟩ := hrel
       cases gk with
       | zero => exact absurd HA.out (by simp [impl_factors.l1])
       | succ k3 =>
        have H := HA.out; clear HA; simp only [impl_factors.l1] at H
        by_cases c7 : x4_4 = 0
        ·rw [if_pos c7] at H; exact absurd H (by simp)
        ·rw [if_neg c7] at H; have c7b0 : (x4_4 == 0) = false := beq_eq_false_iff_ne.mpr c7; have c7b1 : (x4_4 != 0) = true := bne_iff_ne.mpr c7; replace H := qq H; obtain ⟨c8b0, c8b1, H⟩ | ⟨c8, c8b0, c8b1, H⟩ := H
         ·have H' := qa H; clear H; go_wp2
          go_roundg k3
          case measure => have := HK1.out; have := HJ4.out; have := HK3.out; omega
          case rel => exact ⟨(wrap64 (Int.tdiv x0_3 x4_4)), (wrap64 (x5_3 + 1)), (sd), (sd), H', ⟨by have := HK1.out; have := HJ4.out; have := HK3.out; omega⟩, ⟨kS HO_3⟩, ⟨bl⟩⟩
         ·by_cases c9 : x5_3 > 0
          ·rw [if_pos c9] at H; have c9b0 : decide (0 < x5_3) = true := decide_eq_true c9; clear c9; obtain ⟨y175, hy_⟩ : ∃ y_ : List Int, y_ = (([x4_4, x5_3] : List Int)) := ⟨_, rfl⟩; replace H : (if x3_1.length < 5864062014805 then (impl_factors.l0 k3 x0_3 (x3_1 ++ [y175]) (wrap64 (x4_4 + 1))) else (none)) = some r := yh; have Ny175 := qa hy_; clear hy_; replace H := qn H; obtain ⟨c10, H⟩ := H; have LMc10 := qa c10; clear c10; obtain ⟨y178, hy_⟩ : ∃ y_ : List (List Int), y_ = (x3_1 ++ [y175]) := ⟨_, rfl⟩; replace H : (impl_factors.l0 k3 x0_3 y178 (wrap64 (x4_4 + 1))) = some r := yh; have Ny178 := qa hy_; clear hy_; have H' := qa H; clear H
           go_wp2_with (first | ((with_reducible refine gate_dst (N := 31) rfl ?_); refine Kd.R_lit (Kd.int .i64) _ 3 ?hg (N := 31) ?hd (xs := ([x4_4, x5_3] : List Int)) (inner := [.int .i64 x4_4, .int .i64 x5_3]) (ok := fun _ => True) (okp := fun _ => True) ?hr ?hp (fun _ hk => hk) trivial (Below.refl _ _) (Nat.le_refl _) (by simp) ?_; (case hd => rfl); (case hg => rfl); (case hr => exact gr); (case hp => exact (Reps.one (show Kd.M (Kd.int .i64) _ _ _ x4_4 [.int .i64 x4_4] from rfl) (Reps.one (show Kd.M (Kd.int .i64) _ _ _ x5_3 [.int .i64 x5_3] from rfl) (Reps.none _ _)))); intro v176 w11 ho12 hb hg_ hnew_; clear hg_ hnew_; (first | rw [← Ny175.out] at ho12 | (simp only [Int.reduceToNat] at ho12; rw [← Ny175.out] at ho12)); replace HO_3 := qa (Kd.S_elder' (kS HO_3) (Kd.R_base ho12) hb); have HO177 := qa (Kd.R_lower ho12 (below_size (bl))); replace HB := qa (below_step (bl) hb); clear hb ho12; obtain ⟨Ao14, co14, eo14⟩ := Kd.R_slice HO177.out; subst eo14) | ((with_reducible refine gate_builtin (b := .append) (xs := #[.tmp 28, .tmp 32]) rfl ?_); at_builtin; refine Kd.S_append (Kd.slice 3 (Kd.int .i64)) (w0 := w) w.heap.size rfl (.tmp 28) (.tmp 32) 24 23 (.slice none 0 0) 24 rfl Try.underlying24 info23 rfl (by decide) (by omega) u3 x3_1 y175 [.slice Ao14 y175.length co14] (fun _ => True) (fun k_ => some k_ = (.slice Ao14 y175.length co14 : Value).ownBlock) rfl rfl ?aP (fun k_ hk_ => ((Kd.R_mono (ok' := fun k_ => ((fun _ => True)) k_ ∧ some k_ ≠ (u3 : Value).ownBlock) (Kd.R_apart' (HO177.out) (Kd.S_typed HO_3.out) (by decide)) (fun k_ hk => ⟨trivial, hk.2⟩))).1 k_ hk_.symm) ?aF ?aO ?aB ?aS ?aL ?_; (case aP => exact Kd.M_row (Kd.R_mono (Kd.R_tight rfl (Kd.R_mono (ok' := fun k_ => ((fun _ => True)) k_ ∧ some k_ ≠ (u3 : Value).ownBlock) (Kd.R_apart' (HO177.out) (Kd.S_typed HO_3.out) (by decide)) (fun k_ hk => ⟨trivial, hk.2⟩))) (fun _ h_ => h_))); (case aB => exact (bl)); (case aF => exact (fun _ _ => trivial)); (case aO => exact z68_); (case aS => exact (below_size (bl))); (case aL => have := LMc10.out; omega); intro v179 w13 ho hb hg hat; rw [← Ny178.out] at ho; replace HB := qa (hb); have HO180 := qa (ho); clear HO_3 HO177; clear ho hb hg hat))
           go_roundg k3
           case measure => have := HK1.out; have := HJ4.out; have := HK3.out; omega
           case rel => exact ⟨(x0_3), (y178), (wrap64 (x4_4 + 1)), (sd), (sd), H', ⟨by have := HK1.out; have := HJ4.out; have := HK3.out; omega⟩, ⟨kS HO180⟩, ⟨bl⟩⟩
          ·rw [if_neg c9] at H; have c9b0 : decide (0 < x5_3) = false := decide_eq_false c9; clear c9; have H' := qa H; clear H; go_wp2
           go_roundg k3
           case measure => have := HK1.out; have := HJ4.out; have := HK3.out; omega
           case rel => exact ⟨(x0_3), (x3_1), (wrap64 (x4_4 + 1)), (sd), (sd), H', ⟨by have := HK1.out; have := HJ4.out; have := HK3.out; omega⟩, ⟨kS HO_3⟩, ⟨bl⟩⟩
   ·rw [if_neg c4] at H; have c4b0 : decide (1 < x0_1) = false := decide_eq_false c4; clear c4; obtain rfl := Option.some.inj H; go_wp2; go_ret; exact ⟨_, er, kS HO_3, bl⟩

/-! ### impl_phi: function 52 -/
def impl_phi.l0 : Nat → Int → List (List Int) → Int → Int → Option (Int)
 | 0, _, _, _, _ => none
 | k + 1, x3, x8, x9, x10 => if x10 < x9 then (if 0 ≤ x10 then (if x10 < (x8.length : Int) then (if 0 < ((rd_L1 x8 x10).length : Int) then (if (rd (rd_L1 x8 x10) 0) = 0 then (none) else (impl_phi.l0 k (wrap64 ((wrap64 (Int.tdiv x3 (rd (rd_L1 x8 x10) 0))) * (wrap64 ((rd (rd_L1 x8 x10) 0) - 1)))) x8 x9 (wrap64 (x10 + 1)))) else (none)) else (none)) else (none)) else (some x3)
def impl_phi.f (k : Nat) (a0 : Int) : Option (Int) := (impl_factors.f k a0).bind fun t181 => (impl_phi.l0 k a0 t181 (t181.length : Int) 0)
theorem impl_phi.mono_l : ∀ k, (∀ y0 y1 y2 y3, LeO (impl_phi.l0 k y0 y1 y2 y3) (impl_phi.l0 (k + 1) y0 y1 y2 y3))
 | 0 => fun _ _ _ _ r h => by simp [impl_phi.l0] at h
 | k + 1 => by
  have ih0 := impl_phi.mono_l k
  ·intro y0 y1 y2 y3; unfold impl_phi.l0; have m0 := @impl_factors.mono; exact mz
theorem impl_phi.mono : ∀ a0 k, LeO (impl_phi.f k a0) (impl_phi.f (k + 1) a0) := by
 intro a0 k; have ih0 := impl_phi.mono_l k; unfold impl_phi.f; have m0 := @impl_factors.mono; exact mz
set_option maxHeartbeats 8000000 in
set_option maxRecDepth 100000 in
theorem impl_phi.calls (k : Nat) (a0 : Int) (r : Int) (w : World) (h : impl_phi.f k a0 = some r) :
  Calls Try.prog 52 #[.int .i64 a0] w fun e w' => e = .returned (.int .i64 r) ∧ Below w.heap.size w w' := by
 have HB := qa (Below.refl w.heap.size w); have H : ((impl_factors.f k a0).bind fun t181 => (impl_phi.l0 k a0 t181 (t181.length : Int) 0)) = some r := h; clear h; replace H := qb H; obtain ⟨t181, A2, H⟩ := H; have H' := qa H; clear H
 go_enter Try.func52, Try.ntmps52
 go_wp2_with (first | (go_at_call 54; (with_reducible refine (impl_factors.calls k a0 t181 _ A2.out).mono ?_); rintro e w3 ⟨v182, rfl, ho0, hb⟩; have HO183 := qa (Kd.S_lower ho0 (below_size (bl))); replace HB := qa (below_step (bl) hb); obtain ⟨Ao4, co4, eo4⟩ := Kd.S_slice HO183.out; subst eo4))
 repeat (go_quiet (first | (go_at_call 54; (with_reducible refine (impl_factors.calls k a0 t181 _ A2.out).mono ?_); rintro e w3 ⟨v182, rfl, ho0, hb⟩; have HO183 := qa (Kd.S_lower ho0 (below_size (bl))); replace HB := qa (below_step (bl) hb); obtain ⟨Ao4, co4, eo4⟩ := Kd.S_slice HO183.out; subst eo4)); try go_wp2_with (first | (go_at_call 54; (with_reducible refine (impl_factors.calls k a0 t181 _ A2.out).mono ?_); rintro e w3 ⟨v182, rfl, ho0, hb⟩; have HO183 := qa (Kd.S_lower ho0 (below_size (bl))); replace HB := qa (below_step (bl) hb); obtain ⟨Ao4, co4, eo4⟩ := Kd.S_slice HO183.out; subst eo4)))
 go_loopg [3, 10] k (fun kq v3 v10 w' => ∃ (x3_1 : Int) (x10_1 : Int), v3 = .int .i64 x3_1 ∧ v10 = .int .i64 x10_1 ∧ Aside0 (impl_phi.l0 kq x3_1 t181 (t181.length : Int) x10_1 = some r) ∧ Aside0 (kq ≤ k) ∧ Aside0 (Kd.S (Kd.slice 3 (Kd.int .i64)) 23 w' w.heap.size (fun _ => True) (.slice Ao4 t181.length co4) t181) ∧ Aside0 (Below w.heap.size w w'))
 case atStart => exact ⟨(a0), (0), (sd), (sd), H', ⟨Nat.le_refl _⟩, ⟨kS HO183⟩, ⟨bl⟩⟩
 case round =>
  clear H'; obtain ⟨x3_1, x10_1, rfl, rfl, HA, HK1, HO_8, HB⟩ := hrel
  cases gk with
  | zero => exact absurd HA.out (by simp [impl_phi.l0])
  | succ k1 =>
   have H := HA.out; clear HA; simp only [impl_phi.l0] at H; replace H := qe H; obtain ⟨c5b0, H⟩ | ⟨c5b0, H⟩ := H
   ·replace H := qd H; obtain ⟨c6b0, H⟩ := H; replace H := qd H; obtain ⟨c7b0, H⟩ := H; replace H := qn H; obtain ⟨c8, H⟩ := H; have c8b0 : decide (0 < ((rd_L1 t181 x10_1).length : Int)) = true := decide_eq_true c8; have c8b1 : decide (0 < (rd_L1 t181 x10_1).length) = true := decide_eq_true (by omega); clear c8
    by_cases c9 : (rd (rd_L1 t181 x10_1) 0) = 0
    ·rw [if_pos c9] at H; exact absurd H (by simp)
    ·rw [if_neg c9] at H; have c9b0 : ((rd (rd_L1 t181 x10_1) 0) == 0) = false := beq_eq_false_iff_ne.mpr c9; have c9b1 : ((rd (rd_L1 t181 x10_1) 0) != 0) = true := bne_iff_ne.mpr c9; have H' := qa H; clear H; have p184 : 0 ≤ (x10_1 : Int) := qo; have q184 : x10_1 < (t181.length : Int) := qo; obtain ⟨ad184, A184_0, c184_0, e184, hx184_0, hl184_0, hi184_0⟩ := at_L1 (Kd.S_reads' HO_8.out).2.2 x10_1 p184 q184; cases e184; obtain ⟨ce184, hce184, hMe184, hcc184⟩ := Kd.S_get HO_8.out [] x10_1 p184 (by first | exact q184 | exact qo | (have e_ := (Kd.S_reads' HO_8.out).1; omega)); obtain ⟨ve184_0, rfl, ge184_0⟩ := hMe184; have hv184_0 := hcc184 0 _ rfl; rw [Nat.add_zero, show ((Kd.slice 3 (Kd.int .i64))).sz = 1 from rfl, Nat.mul_one] at hv184_0; replace hv184_0 := Option.some.inj (hv184_0.symm.trans hx184_0); rw [hv184_0] at ge184_0; have HL184_0 := qa (show Kd.R (Kd.int .i64) 3 _ _ _ _ (rd_L1 t181 x10_1) from ge184_0); clear hv184_0 ge184_0; clear hcc184 hce184; have HR184_0 := qa hi184_0; have HC184_0 := qa hl184_0; clear hi184_0 hl184_0; replace p184 := eq_true p184; replace q184 := eq_true q184; have p185 : 0 ≤ (0 : Int) := (by omega); have q185 : 0 < ((rd_L1 t181 x10_1).length : Int) := qo; obtain ⟨ad185, e185, hx185_0⟩ := Kd.at_int z58_ 0 p185 q185; cases e185; have qi185 : (0 < (rd_L1 t181 x10_1).length) = True := eq_true (by omega); (try rw [show ((0 : Int)).toNat = 0 from rfl] at hx185_0); (try rw [Addr.add_zero'] at hx185_0); replace p185 := eq_true p185; replace q185 := eq_true q185; have p186 : 0 ≤ (0 : Int) := (by omega); have q186 : 0 < ((rd_L1 t181 x10_1).length : Int) := qo; obtain ⟨ad186, e186, hx186_0⟩ := Kd.at_int z58_ 0 p186 q186; obtain rfl : ad185 = ad186 := (by injection e186); have qi186 : (0 < (rd_L1 t181 x10_1).length) = True := eq_true (by omega); (try rw [show ((0 : Int)).toNat = 0 from rfl] at hx186_0); (try rw [Addr.add_zero'] at hx186_0); replace p186 := eq_true p186; replace q186 := eq_true q186; go_wp2
     repeat (go_quiet (fail); try go_wp2)
     go_roundg k1
     case measure => have := HK1.out; omega
     case rel => exact ⟨(wrap64 ((wrap64 (Int.tdiv x3_1 (rd (rd_L1 t181 x10_1) 0))) * (wrap64 ((rd (rd_L1 t181 x10_1) 0) - 1)))), (wrap64 (x10_1 + 1)), (sd), (sd), H', ⟨by have := HK1.out; omega⟩, ⟨kS HO_8⟩, ⟨bl⟩⟩
   ·obtain rfl := Option.some.inj H; go_wp2
    repeat (go_quiet (fail); try go_wp2)
    go_ret; exact ⟨er, bl⟩

end Go.Proofs.Ytmgjidgfhlclmaa.PFnExactDeskRun
