-- Written for this claim by a program of this session (wip/myprint.sh), after the kit's print; some functions by hand
import Derived.Test.YtmgjidgfhlclmaaPFnExactDeskRunx0
import Derived.Test.YtmgjidgfhlclmaaPFnExactDeskRunx2
import Derived.Test.YtmgjidgfhlclmaaWPress
namespace Go.Proofs.Ytmgjidgfhlclmaa.PFnExactDeskRun
open Go.RowKit Go.Proofs.YtmgjidgfhlclmaaW.PrintWords Go.Proofs.YtmgjidgfhlclmaaW.PrintLast Go.Proofs.YtmgjidgfhlclmaaW.PrintMore
attribute [local go_sem] max2_int min2_int max_two min_two max_three min_three max_four min_four   -- for this text's walks alone
set_option linter.unusedVariables false
set_option linter.unusedSimpArgs false

/-! ### laws_eqDesk: function 19 -/
def laws_eqDesk.f (k : Nat) (l0_0 : List Int) (l0_1 : List (List Int)) (l1_0 : List Int) (l1_1 : List (List Int)) : Option (Bool) := (laws_eqIntS.f k l0_0 l1_0).bind fun t135 => (if t135 = true then ((laws_eqIntSS.f k l0_1 l1_1).bind fun t136 => (if t136 = true then (some true) else (some false))) else (some false))
set_option maxHeartbeats 8000000 in
set_option maxRecDepth 100000 in
theorem laws_eqDesk.calls (k : Nat) (A0_0 : Option Addr) (c0_0 : Nat) (l0_0 : List Int) (A0_1 : Option Addr) (c0_1 : Nat) (l0_1 : List (List Int)) (A1_0 : Option Addr) (c1_0 : Nat) (l1_0 : List Int) (A1_1 : Option Addr) (c1_1 : Nat) (l1_1 : List (List Int)) (r : Bool) (w : World) (hr0_0 : Kd.C (Kd.int .i64) w A0_0 l0_0.length l0_0) (hc0_0 : l0_0.length ≤ c0_0) (hr0_1 : Kd.C (Kd.slice 3 (Kd.int .i64)) w A0_1 l0_1.length l0_1) (hc0_1 : l0_1.length ≤ c0_1) (hr1_0 : Kd.C (Kd.int .i64) w A1_0 l1_0.length l1_0) (hc1_0 : l1_0.length ≤ c1_0) (hr1_1 : Kd.C (Kd.slice 3 (Kd.int .i64)) w A1_1 l1_1.length l1_1) (hc1_1 : l1_1.length ≤ c1_1) (h : laws_eqDesk.f k l0_0 l0_1 l1_0 l1_1 = some r) :
  Calls Try.prog 19 #[.agg #[.slice A0_0 l0_0.length c0_0, .slice A0_1 l0_1.length c0_1], .agg #[.slice A1_0 l1_0.length c1_0, .slice A1_1 l1_1.length c1_1]] w fun e w' => e = .returned (.bool r) ∧ Below w.heap.size w w' := by
 have hu26 := Try.underlying26; have HR0_0 := qa hr0_0; have HC0_0 := qa hc0_0; clear hr0_0 hc0_0; have HR0_1 := qa hr0_1; have HC0_1 := qa hc0_1; clear hr0_1 hc0_1; have HR1_0 := qa hr1_0; have HC1_0 := qa hc1_0; clear hr1_0 hc1_0; have HR1_1 := qa hr1_1; have HC1_1 := qa hc1_1; clear hr1_1 hc1_1; have HB := qa (Below.refl w.heap.size w); have H : ((laws_eqIntS.f k l0_0 l1_0).bind fun t135 => (if t135 = true then ((laws_eqIntSS.f k l0_1 l1_1).bind fun t136 => (if t136 = true then (some true) else (some false))) else (some false))) = some r := h; clear h; replace H := qb H; obtain ⟨t135, A3, H⟩ := H
 by_cases c4 : t135 = true
 ·subst c4; replace H := qt H; replace H := qb H; obtain ⟨t136, A5, H⟩ := H
  by_cases c6 : t136 = true
  ·subst c6; replace H := qt H; obtain rfl := Option.some.inj H
   go_enter Try.func19, Try.ntmps19
   go_wp2_with (first | ((with_reducible refine gate_dst (N := 2) rfl ?_); refine bx #[.slice A0_0 l0_0.length c0_0, .slice A0_1 l0_1.length c0_1] 26 ?_; intro gb133 hg w7 hbox hb; have BK133 := qa (hbox); have GW133 := gw hg; have GE133 := gw hg; replace HB := qa (below_step (bl) hb); clear hb hbox hg) | ((with_reducible refine gate_dst (N := 3) rfl ?_); refine bx #[.slice A1_0 l1_0.length c1_0, .slice A1_1 l1_1.length c1_1] 26 ?_; intro gb134 hg w8 hbox hb; have BK134 := qa (hbox); have GW134 := gw hg; have GE134 := gw hg; replace HB := qa (below_step (bl) hb); have NB133_134 := qnl hg BK133; have NB134_133 := qng hg BK133; replace BK133 := qbb BK133 hb; clear hb hbox hg; have hnb9 := NB133_134.out; have hnc9 := NB134_133.out; obtain ⟨hcz10_0, hcz10_1, hfz10_0, hfz10_1⟩ := qk2 BK133; obtain ⟨hcz11_0, hcz11_1, hfz11_0, hfz11_1⟩ := qk2 BK134) | ((with_reducible refine gate_callee (f := 59) rfl ?_); refine gol (some 9) Try.func59 #[.slice A0_0 l0_0.length c0_0, .slice A1_0 l1_0.length c1_0] ?_; (with_reducible refine (laws_eqIntS.calls k _ _ l0_0 _ _ l1_0 true _ ?side1 ?side2 ?side3 ?side4 A3.out).mono ?_); (case side1 => exact cx (Kd.C_below HR0_0.out HB.out)); (case side2 => exact HC0_0.out); (case side3 => exact cx (Kd.C_below HR1_0.out HB.out)); (case side4 => exact HC1_0.out); rintro e w' ⟨rfl, ⟨nd, rfl⟩⟩; refine ⟨_, rfl, ?_⟩) | ((with_reducible refine gate_callee (f := 60) rfl ?_); refine gol (some 15) Try.func60 #[.slice A0_1 l0_1.length c0_1, .slice A1_1 l1_1.length c1_1] ?_; (with_reducible refine (laws_eqIntSS.calls k _ _ l0_1 _ _ l1_1 true _ ?side1 ?side2 ?side3 ?side4 A5.out).mono ?_); (case side1 => exact cx (Kd.C_below HR0_1.out (bl))); (case side2 => exact HC0_1.out); (case side3 => exact cx (Kd.C_below HR1_1.out (bl))); (case side4 => exact HC1_1.out); rintro e w' ⟨rfl, ⟨nd, rfl⟩⟩; refine ⟨_, rfl, ?_⟩))
   go_ret; exact ⟨er, bl⟩
  ·replace c6 := Bool.eq_false_iff.mpr c6; subst c6; replace H := qf H; obtain rfl := Option.some.inj H
   go_enter Try.func19, Try.ntmps19
   go_wp2_with (first | ((with_reducible refine gate_dst (N := 2) rfl ?_); refine bx #[.slice A0_0 l0_0.length c0_0, .slice A0_1 l0_1.length c0_1] 26 ?_; intro gb133 hg w12 hbox hb; have BK133 := qa (hbox); have GW133 := gw hg; have GE133 := gw hg; replace HB := qa (below_step (bl) hb); clear hb hbox hg) | ((with_reducible refine gate_dst (N := 3) rfl ?_); refine bx #[.slice A1_0 l1_0.length c1_0, .slice A1_1 l1_1.length c1_1] 26 ?_; intro gb134 hg w13 hbox hb; have BK134 := qa (hbox); have GW134 := gw hg; have GE134 := gw hg; replace HB := qa (below_step (bl) hb); have NB133_134 := qnl hg BK133; have NB134_133 := qng hg BK133; replace BK133 := qbb BK133 hb; clear hb hbox hg; have hnb14 := NB133_134.out; have hnc14 := NB134_133.out; obtain ⟨hcz15_0, hcz15_1, hfz15_0, hfz15_1⟩ := qk2 BK133; obtain ⟨hcz16_0, hcz16_1, hfz16_0, hfz16_1⟩ := qk2 BK134) | ((with_reducible refine gate_callee (f := 59) rfl ?_); refine gol (some 9) Try.func59 #[.slice A0_0 l0_0.length c0_0, .slice A1_0 l1_0.length c1_0] ?_; (with_reducible refine (laws_eqIntS.calls k _ _ l0_0 _ _ l1_0 true _ ?side1 ?side2 ?side3 ?side4 A3.out).mono ?_); (case side1 => exact cx (Kd.C_below HR0_0.out HB.out)); (case side2 => exact HC0_0.out); (case side3 => exact cx (Kd.C_below HR1_0.out HB.out)); (case side4 => exact HC1_0.out); rintro e w' ⟨rfl, ⟨nd, rfl⟩⟩; refine ⟨_, rfl, ?_⟩) | ((with_reducible refine gate_callee (f := 60) rfl ?_); refine gol (some 15) Try.func60 #[.slice A0_1 l0_1.length c0_1, .slice A1_1 l1_1.length c1_1] ?_; (with_reducible refine (laws_eqIntSS.calls k _ _ l0_1 _ _ l1_1 false _ ?side1 ?side2 ?side3 ?side4 A5.out).mono ?_); (case side1 => exact cx (Kd.C_below HR0_1.out (bl))); (case side2 => exact HC0_1.out); (case side3 => exact cx (Kd.C_below HR1_1.out (bl))); (case side4 => exact HC1_1.out); rintro e w' ⟨rfl, ⟨nd, rfl⟩⟩; refine ⟨_, rfl, ?_⟩))
   go_ret; exact ⟨er, bl⟩
 ·replace c4 := Bool.eq_false_iff.mpr c4; subst c4; replace H := qf H; obtain rfl := Option.some.inj H
  go_enter Try.func19, Try.ntmps19
  go_wp2_with (first | ((with_reducible refine gate_dst (N := 2) rfl ?_); refine bx #[.slice A0_0 l0_0.length c0_0, .slice A0_1 l0_1.length c0_1] 26 ?_; intro gb133 hg w17 hbox hb; have BK133 := qa (hbox); have GW133 := gw hg; have GE133 := gw hg; replace HB := qa (below_step (bl) hb); clear hb hbox hg) | ((with_reducible refine gate_dst (N := 3) rfl ?_); refine bx #[.slice A1_0 l1_0.length c1_0, .slice A1_1 l1_1.length c1_1] 26 ?_; intro gb134 hg w18 hbox hb; have BK134 := qa (hbox); have GW134 := gw hg; have GE134 := gw hg; replace HB := qa (below_step (bl) hb); have NB133_134 := qnl hg BK133; have NB134_133 := qng hg BK133; replace BK133 := qbb BK133 hb; clear hb hbox hg; have hnb19 := NB133_134.out; have hnc19 := NB134_133.out; obtain ⟨hcz20_0, hcz20_1, hfz20_0, hfz20_1⟩ := qk2 BK133; obtain ⟨hcz21_0, hcz21_1, hfz21_0, hfz21_1⟩ := qk2 BK134) | ((with_reducible refine gate_callee (f := 59) rfl ?_); refine gol (some 9) Try.func59 #[.slice A0_0 l0_0.length c0_0, .slice A1_0 l1_0.length c1_0] ?_; (with_reducible refine (laws_eqIntS.calls k _ _ l0_0 _ _ l1_0 false _ ?side1 ?side2 ?side3 ?side4 A3.out).mono ?_); (case side1 => exact cx (Kd.C_below HR0_0.out HB.out)); (case side2 => exact HC0_0.out); (case side3 => exact cx (Kd.C_below HR1_0.out HB.out)); (case side4 => exact HC1_0.out); rintro e w' ⟨rfl, ⟨nd, rfl⟩⟩; refine ⟨_, rfl, ?_⟩))
  go_ret; exact ⟨er, bl⟩

/-! ### laws_markIntS: function 61 -/
def laws_markIntS.l0 : Nat → List Int → Int → Int → Option (Int × List Int)
 | 0, _, _, _ => none
 | k + 1, x0, x1, x5 => if x5 < (x0.length : Int) then (if 0 ≤ x5 then (laws_markIntS.l0 k (x0.set (x5 : Int).toNat x1) (wrap64 (x1 + 1)) (wrap64 (x5 + 1))) else (none)) else (some (x1, x0))
def laws_markIntS.f (k : Nat) (l0 : List Int) (a1 : Int) : Option (Int × List Int) := laws_markIntS.l0 k l0 a1 0
set_option maxHeartbeats 8000000 in
set_option maxRecDepth 100000 in
theorem laws_markIntS.calls (k : Nat) (P0_ : Nat → Prop) (u9000_ : Value) (l0 : List Int) (a1 : Int) (r1 : Int) (r2 : List Int) (w0 w : World) (hB : Below w0.heap.size w0 w) (ho0 : Kd.R (Kd.int .i64) 3 w w0.heap.size P0_ u9000_ l0) (h : laws_markIntS.f k l0 a1 = some (r1, r2)) :
  Calls Try.prog 61 #[u9000_, .int .i64 a1] w fun e w' => e = .returned (.int .i64 r1) ∧ Kd.R (Kd.int .i64) 3 w' w0.heap.size (fun k_ => (P0_ k_ ∨ w.heap.size ≤ k_)) u9000_ r2 ∧ Below w0.heap.size w0 w' ∧ Kept w w' (fun k_ => P0_ k_) := by
 have HO0 := qa (show Kd.R (Kd.int .i64) 3 w w0.heap.size (fun k_ => (P0_ k_ ∨ w.heap.size ≤ k_)) u9000_ l0 from Kd.R_mono ho0 (fun k_ hk => (.inl hk))); have HK := qa (Kept.refl w (fun k_ => P0_ k_)); have HW0 := qa hB.size; have HB := qa hB; clear hB; have H : (laws_markIntS.l0 k l0 a1 0) = some (r1, r2) := h; clear h; have H' := qa H; clear H
 go_enter Try.func61, Try.ntmps61
 go_wp2
 go_loopg [1, 5] k (fun kq v1 v5 w' => ∃ (x0_1 : List Int) (x1_1 : Int) (x5_1 : Int), v1 = .int .i64 x1_1 ∧ v5 = .int .i64 x5_1 ∧ Aside0 (laws_markIntS.l0 kq x0_1 x1_1 x5_1 = some (r1, r2)) ∧ Aside0 (kq ≤ k) ∧ Aside0 (Kd.R (Kd.int .i64) 3 w' w0.heap.size (fun k_ => (P0_ k_ ∨ w.heap.size ≤ k_)) u9000_ x0_1) ∧ Aside0 (Kept w w' (fun k_ => P0_ k_)) ∧ Aside0 (Below w0.heap.size w0 w'))
 case atStart => exact ⟨(l0), (a1), (0), (sd), (sd), H', ⟨Nat.le_refl _⟩, ⟨kR HO0⟩, ⟨z5_⟩, ⟨bl⟩⟩
 case round =>
  clear H'; obtain ⟨x0_1, x1_1, x5_1, rfl, rfl, HA, HK1, HO_0, HK, HB⟩ := hrel
  cases gk with
  | zero => exact absurd HA.out (by simp [laws_markIntS.l0])
  | succ k1 =>
   have H := HA.out; clear HA; simp only [laws_markIntS.l0] at H; replace H := qe H; obtain ⟨c3b0, H⟩ | ⟨c3b0, H⟩ := H
   ·replace H := qd H; obtain ⟨c4b0, H⟩ := H; obtain ⟨y137, hy_⟩ : ∃ y_ : List Int, y_ = (x0_1.set (x5_1 : Int).toNat x1_1) := ⟨_, rfl⟩; replace H : (laws_markIntS.l0 k1 y137 (wrap64 (x1_1 + 1)) (wrap64 (x5_1 + 1))) = some (r1, r2) := yh; have Ny137 := qa hy_; clear hy_; have H' := qa H; clear H; obtain ⟨Ao6, co6, eo6⟩ := Kd.R_slice HO_0.out; subst eo6; have p5 : 0 ≤ (x5_1 : Int) := qo; have q5 : (x5_1 : Int) < ((x0_1.length : Int) : Int) := qo; obtain ⟨go5, co5, eo5, gb5, gl5, cl5, HG5⟩ := Kd.R_form HO_0.out (by omega); (first | cases eo5 | (injection eo5 with ea_ en_ ec_; (first | subst ea_ | (injection ea_ with ea_; subst ea_)); subst ec_; clear en_)); have GB5 := qa gb5; have GG5 := qa HG5; clear gb5 gl5 HG5; have HMgo5 := qa (show (P0_ go5 ∨ w.heap.size ≤ go5) from (HO_0.out.1 _ rfl)); obtain ⟨hx5_0, hf5_0⟩ := Kd.R_celln 0 HO_0.out (x5_1 : Int) p5 q5; replace p5 := eq_true p5; replace q5 := eq_true q5; have HP7 := Kd.R_putg HO_0.out (x5_1 : Int) x1_1
    go_wp2_with (first | ((with_reducible refine gate_store (t := 3) (p := 15) rfl ?_); refine store_event (t := 3) (p := 15) (v := ?vo_w8) (w1 := (wr.setCell ⟨go5, (x5_1 : Int).toNat, none⟩ (.int .i64 x1_1))) ?hg ?ho ?hn ?hr ?_; (case ho => rfl); (case hg => rfl); (case hn => rfl); (case hr => exact gr); intro w8 hw; have hg : wr.grownBy w8 (some go5) := (by rw [hw]; exact HP7.2); have hp_ : Kd.R (Kd.int .i64) 3 w8 w0.heap.size (fun k_ => (P0_ k_ ∨ w.heap.size ≤ k_)) (.slice (some ⟨go5, 0, none⟩) x0_1.length co6) y137 := (by rw [hw, Ny137.out]; exact HP7.1); clear HP7; replace HB := qa ((by rw [hw]; exact below_set (HB.out) GB5.out : Below w0.heap.size w0 w8)); replace HK := qa (Kept.of_grown (S := (fun k_ => P0_ k_)) hg z5_ (fun k_ e_ => (HO_0.out.1 k_ e_))); replace HO_0 := qa (hp_); clear hg hw hp_))
    go_roundg k1
    case measure => have := HK1.out; omega
    case rel => exact ⟨(y137), (wrap64 (x1_1 + 1)), (wrap64 (x5_1 + 1)), (sd), (sd), H', ⟨by have := HK1.out; omega⟩, ⟨kR HO_0⟩, ⟨z5_⟩, ⟨bl⟩⟩
   ·simp only [Option.some.injEq, Prod.mk.injEq] at H; obtain ⟨rfl, rfl⟩ := H; obtain ⟨Ao9, co9, eo9⟩ := Kd.R_slice HO_0.out; subst eo9; go_wp2; go_ret; exact ⟨er, kR HO_0, bl, z5_⟩

/-! ### laws_markIntSS: by hand: rows that lie apart, each written -/
def laws_markIntSS.l0 : Nat → List (List Int) → Int → Int → Option (Int × List (List Int))
 | 0, _, _, _ => none
 | k + 1, x0, x1, x5 => if x5 < (x0.length : Int) then (if 0 ≤ x5 then ((laws_markIntS.f k (x0.getD x5.toNat []) x1).bind fun bt => laws_markIntSS.l0 k (x0.set x5.toNat bt.2) bt.1 (wrap64 (x5 + 1))) else none) else some (x1, x0)
def laws_markIntSS.f (k : Nat) (l0 : List (List Int)) (a1 : Int) : Option (Int × List (List Int)) := laws_markIntSS.l0 k l0 a1 0
set_option maxHeartbeats 8000000 in
set_option maxRecDepth 100000 in
theorem laws_markIntSS.calls (k : Nat) (P0_ : Nat → Prop) (u9000_ : Value) (l0 : List (List Int)) (a1 : Int) (r1 : Int) (r2 : List (List Int)) (w0 w : World) (hB : Below w0.heap.size w0 w) (ho0 : Kd.Z (Kd.slice 3 (Kd.int .i64)) 23 w w0.heap.size P0_ u9000_ l0) (h : laws_markIntSS.f k l0 a1 = some (r1, r2)) :
  Calls Try.prog 62 #[u9000_, .int .i64 a1] w fun e w' => e = .returned (.int .i64 r1) ∧ Kd.Z (Kd.slice 3 (Kd.int .i64)) 23 w' w0.heap.size P0_ u9000_ r2 ∧ Below w0.heap.size w0 w' ∧ Kept w w' (fun k_ => P0_ k_) := by
 obtain ⟨Au, nu, cs, cu, rfl, hz1_, hz2_, ho0⟩ := ho0; have hn_ := (Kd.S_reads' ho0).1; subst hn_; have HO0 := qa ho0; clear ho0; have HK := qa (Kept.refl w (fun k_ => P0_ k_)); have HB := qa hB; clear hB; have H : (laws_markIntSS.l0 k l0 a1 0) = some (r1, r2) := h; clear h; have H' := qa H; clear H
 go_enter Try.func62, Try.ntmps62
 go_wp2
 go_loopg [1, 5] k (fun kq v1 v5 w' => ∃ (x0_1 : List (List Int)) (x1_1 : Int) (x5_1 : Int), v1 = .int .i64 x1_1 ∧ v5 = .int .i64 x5_1 ∧ Aside0 (laws_markIntSS.l0 kq x0_1 x1_1 x5_1 = some (r1, r2)) ∧ Aside0 (kq ≤ k) ∧ Aside0 (Kd.S (Kd.slice 3 (Kd.int .i64)) 23 w' w0.heap.size P0_ (.slice Au l0.length cu) x0_1) ∧ Aside0 (Kept w w' (fun k_ => P0_ k_)) ∧ Aside0 (Below w0.heap.size w0 w'))
 case atStart => exact ⟨l0, a1, 0, rfl, rfl, H', ⟨Nat.le_refl _⟩, ⟨kS HO0⟩, ⟨z5_⟩, ⟨bl⟩⟩
 case round =>
  clear H'; obtain ⟨x0_1, x1_1, x5_1, rfl, rfl, HA, HK1, HO_0, HK, HB⟩ := hrel
  cases gk with
  | zero => exact absurd HA.out (by simp [laws_markIntSS.l0])
  | succ k1 =>
   have HL_ := qa (Kd.S_reads' HO_0.out).1; have H := HA.out; clear HA; simp only [laws_markIntSS.l0] at H
   by_cases c3 : x5_1 < (x0_1.length : Int)
   ·rw [if_pos c3] at H; have c3b0 : decide (x5_1 < (l0.length : Int)) = true := decide_eq_true (by rw [HL_.out]; exact c3); replace H := qn H; obtain ⟨c4, H⟩ := H; replace H := qb H; obtain ⟨⟨t1, t2⟩, A4, H⟩ := H; (try dsimp only at H); have H' := qa H; clear H; (have hi_ : x5_1 < ((l0.length : Nat) : Int) := by rw [HL_.out]; exact c3); obtain ⟨go_, cap_, ef_, _, _, _⟩ := Kd.S_form HO_0.out (by omega); (injection ef_ with ea_ en_ ec_); subst ea_; clear en_ ec_ cap_; obtain ⟨oki, c_, hcl_, hM_, hcc_, hoki_, hH_⟩ := Kd.S_lend HO_0.out ([] : List Int) x5_1 c4 hi_; obtain ⟨v_, ev_, hv_⟩ := hM_; subst ev_
    have hx_ : wr.cell? ⟨go_, x5_1.toNat, none⟩ = some v_ := by
     have h_ := hcc_ 0 v_ rfl; (try simp only [show (Kd.slice 3 (Kd.int .i64)).sz = 1 from rfl, Nat.mul_one, Nat.add_zero] at h_); exact h_
    obtain ⟨Av_, cv_, ev_⟩ := Kd.R_slice hv_; subst ev_; have HV_ := qa hv_; have HH_ := qa hH_; have HI_ := qa hoki_; clear hv_ hH_ hoki_ hcl_ hcc_; have p5 : (0 ≤ x5_1) = True := eq_true c4; have q5 : (x5_1 < (l0.length : Int)) = True := eq_true hi_; clear c3 c4 hi_
    go_wp2_with (go_at_call 61; (refine (laws_markIntS.calls k1 oki (.slice Av_ (x0_1.getD x5_1.toNat []).length cv_) (x0_1.getD x5_1.toNat []) x1_1 t1 t2 w0 _ ?side1 ?side2 A4.out).mono ?_); (case side1 => exact bl); (case side2 => exact HV_.out); rintro e w40 ⟨rfl, hy0, hb, hkp⟩; have hH2_ := Kd.H_kept HH_.out hkp (fun k_ ho_ hn_ hs_ => hn_ hs_); have n0_ := qa (Kd.H_back (x' := t2) (okp := oki) hH2_ (Kd.M_row (Kd.R_reok rfl hy0 (fun k_ e_ => HV_.out.1 k_ e_))) (fun k_ h_ => h_)); have n1_ := qa (Kept.then_ HK.out hkp (fun k_ hs_ => .inl (HI_.out k_ hs_).1)); have n2_ := qa hb; clear hH2_ hy0 hkp hb HK HB HO_0 HH_ HV_ HI_; have HO_0 := n0_; have HK := n1_; have HB := n2_; clear n0_ n1_ n2_)
    go_roundg k1
    case measure => have := HK1.out; omega
    case rel => exact ⟨_, _, _, rfl, rfl, H', ⟨by have := HK1.out; omega⟩, ⟨kS HO_0⟩, ⟨z5_⟩, ⟨bl⟩⟩
   ·rw [if_neg c3] at H; have c3b0 : decide (x5_1 < (l0.length : Int)) = false := decide_eq_false (by rw [HL_.out]; exact c3); clear c3; simp only [Option.some.injEq, Prod.mk.injEq] at H; obtain ⟨rfl, rfl⟩ := H; go_wp2; go_ret; exact ⟨rfl, ⟨Au, l0.length, cs, cu, rfl, hz1_, hz2_, kS HO_0⟩, bl, z5_⟩

-- CALLS: laws.markIntS laws.markIntSS
/-! ### laws_markDesk: by hand: both rows are written -/
def laws_markDesk.f (k : Nat) (l0_0 : List Int) (l0_1 : List (List Int)) (a1 : Int) : Option (Int × List Int × List (List Int)) := (laws_markIntS.f k l0_0 a1).bind fun bt1 => ((laws_markIntSS.f k l0_1 bt1.1).bind fun bt2 => (some (bt2.1, bt1.2, bt2.2)))
set_option maxHeartbeats 8000000 in
set_option maxRecDepth 100000 in
theorem laws_markDesk.calls (k : Nat) (P0_0_ : Nat → Prop) (u9000_ : Value) (l0_0 : List Int) (P0_1_ : Nat → Prop) (u9001_ : Value) (l0_1 : List (List Int)) (a1 : Int) (r1 : Int) (r2 : List Int) (r3 : List (List Int)) (w0 w : World) (hB : Below w0.heap.size w0 w) (ho0_0 : Kd.R (Kd.int .i64) 3 w w0.heap.size P0_0_ u9000_ l0_0) (ho0_1 : Kd.Z (Kd.slice 3 (Kd.int .i64)) 23 w w0.heap.size P0_1_ u9001_ l0_1) (hap : ∀ k_, P0_1_ k_ → ¬ P0_0_ k_) (h : laws_markDesk.f k l0_0 l0_1 a1 = some (r1, r2, r3)) :
  Calls Try.prog 20 #[.agg #[u9000_, u9001_], .int .i64 a1] w fun e w' => e = .returned (.int .i64 r1) ∧ Kd.R (Kd.int .i64) 3 w' w0.heap.size (fun k_ => (P0_0_ k_ ∨ w.heap.size ≤ k_)) u9000_ r2 ∧ Kd.Z (Kd.slice 3 (Kd.int .i64)) 23 w' w0.heap.size P0_1_ u9001_ r3 ∧ Below w0.heap.size w0 w' ∧ Kept w w' (fun k_ => (P0_0_ k_ ∨ P0_1_ k_)) := by
 have hu28 := Try.underlying26; have HO0_0 := qa (Kd.R_mono (ok' := fun k_ => P0_0_ k_ ∧ k_ < w.heap.size) (Kd.R_bound ho0_0) (fun k_ hk => ⟨hk.1, hk.2.2.1⟩)); have HO0_1 := qa (Kd.Z_mono (ok' := fun k_ => P0_1_ k_ ∧ k_ < w.heap.size) (Kd.Z_bound ho0_1) (fun k_ hk => ⟨hk.1, hk.2.2.1⟩)); clear ho0_0 ho0_1; have HK := qa (Kept.refl w (fun k_ => P0_0_ k_ ∨ P0_1_ k_)); have HW0 := qa hB.size; have HB := qa hB; clear hB; replace H := Option.bind_eq_some_iff.mp h; clear h; obtain ⟨⟨t210, t211⟩, A30, H⟩ := H; replace H := Option.bind_eq_some_iff.mp H; have A3 := qa A30; clear A30; obtain ⟨⟨t212, t213⟩, A40, H⟩ := H; have A4 := qa A40; clear A40; simp only [Option.some.injEq, Prod.mk.injEq] at H; obtain ⟨rfl, rfl, rfl⟩ := H; obtain ⟨Ao5, co5, eo5⟩ := Kd.R_slice HO0_0.out; subst eo5; obtain ⟨Ao6, co6, eo6, _⟩ := Kd.Z_slice HO0_1.out; subst eo6
 go_enter Try.func20, Try.ntmps20
 go_wp2_with (first | ((with_reducible refine gate_dst (N := 2) rfl ?_); refine bx #[.slice Ao5 l0_0.length co5, .slice Ao6 l0_1.length co6] 26 ?_; intro gb209 hg w6 hbox hb; have n0_ := qa (Kd.R_below (by (with_reducible repeat (first | apply Kd.R_alloc | apply Kd.R_drewN | apply Kd.R_drew)); exact HO0_0.out) hb); have n6_ := qa (Kd.Z_below z53_ hb); have n1_ := qa (Kept.below (S := (fun k_ => P0_0_ k_ ∨ P0_1_ k_)) z5_ hb); have n2_ := qa (below_step (bl) hb); have n3_ := qa (hbox); have n4_ := qa ((by rw [hg]; exact (by first | exact HK.out.1 | exact (show Kept w _ (fun k_ => P0_0_ k_ ∨ P0_1_ k_) from by repeat (first | (with_reducible first | exact HK.out | apply Kept.alloc | apply Kept.drewN | apply Kept.drew) | exact HK.out)).1) : w.heap.size ≤ gb209)); have n5_ := qa ((by rw [hg]; exact (below_size (bl)) : w0.heap.size ≤ gb209)); clear HO0_0; clear HO0_1; clear HK; clear HB; have HO0_0 := n0_; have HO0_1 := n6_; have HK := n1_; have HB := n2_; have BK209 := n3_; have GW209 := n4_; have GE209 := n5_; clear n0_ n1_ n2_ n3_ n4_ n5_ n6_; clear hb hbox hg; obtain ⟨hcz7_0, hcz7_1, hfz7_0, hfz7_1⟩ := qk2 BK209) | ((with_reducible refine gate_callee (f := 61) rfl ?_); refine gol (some 8) Try.func61 #[.slice Ao5 l0_0.length co5, .int .i64 a1] ?_; (with_reducible refine (laws_markIntS.calls k (fun k_ => some k_ = (.slice Ao5 l0_0.length co5 : Value).ownBlock) (.slice Ao5 l0_0.length co5) l0_0 a1 t210 t211 w0 _ ?side1 ?side2 A3.out).mono ?_); (case side1 => exact bl); (case side2 => exact Kd.R_tight rfl HO0_0.out); rintro e w8 ⟨rfl, hy0, hb, hkp⟩; refine ⟨_, rfl, ?_⟩; have n4_ := qa (Kd.Z_kept z53_ hkp (fun k_ (hk_ : P0_1_ k_ ∧ k_ < w.heap.size) hs_ => hap k_ hk_.1 (HO0_0.out.1 k_ hs_.symm).1)); have n0_ := qa (Kd.R_reok rfl hy0 (fun k_ e_ => HO0_0.out.1 k_ e_)); have n1_ := qa (blk_kept (bk) hkp (fun hs_ => (fun e_ => (Kd.R_ne HO0_0.out BK209.out (by decide)) e_) hs_)); have n2_ := qa (Kept.then_ (S := (fun k_ => P0_0_ k_ ∨ P0_1_ k_)) z38_ hkp (fun k_ hs_ => .inl (.inl (HO0_0.out.1 k_ hs_.symm).1))); have n3_ := qa (hb); clear HO0_0; clear HO0_1; clear BK209; clear HK; clear HB; have HO0_0 := n0_; have HO0_1 := n4_; have BK209 := n1_; have HK := n2_; have HB := n3_; clear n0_ n1_ n2_ n3_ n4_; obtain ⟨hcz9_0, hcz9_1, hfz9_0, hfz9_1⟩ := qk2 BK209) | ((with_reducible refine gate_callee (f := 62) rfl ?_); refine gol (some 12) Try.func62 #[.slice Ao6 l0_1.length co6, .int .i64 t210] ?_; (with_reducible refine (laws_markIntSS.calls k (fun k_ => P0_1_ k_ ∧ k_ < w.heap.size) (.slice Ao6 l0_1.length co6) l0_1 t210 t212 t213 w0 _ ?side1 ?side2 A4.out).mono ?_); (case side1 => exact bl); (case side2 => exact HO0_1.out); rintro e w10 ⟨rfl, hy0, hb, hkp⟩; refine ⟨_, rfl, ?_⟩; have n0_ := qa (Kd.R_kept (by (with_reducible repeat (first | apply Kd.R_alloc | apply Kd.R_drewN | apply Kd.R_drew)); exact HO0_0.out) hkp (fun k_ (hk_ : P0_0_ k_ ∧ k_ < w.heap.size) hs_ => hap k_ hs_.1 hk_.1)); have n4_ := qa (Kd.Z_mono (ok' := P0_1_) hy0 (fun k_ hk_ => hk_.1)); have n1_ := qa (blk_kept (bk) hkp (fun hs_ => Nat.not_le.2 hs_.2 GW209.out)); have n2_ := qa (Kept.then_ (S := (fun k_ => P0_0_ k_ ∨ P0_1_ k_)) z38_ hkp (fun k_ hs_ => .inl (.inr hs_.1))); have n3_ := qa (hb); clear HO0_0; clear HO0_1; clear BK209; clear HK; clear HB; have HO0_0 := n0_; have HO0_1 := n4_; have BK209 := n1_; have HK := n2_; have HB := n3_; clear n0_ n1_ n2_ n3_ n4_))
 go_ret; exact ⟨er, by (with_reducible repeat (first | apply Kd.R_alloc | apply Kd.R_drewN | apply Kd.R_drew)); exact Kd.R_mono HO0_0.out (fun k_ hk_ => .inl hk_.1), z53_, bl, z38_⟩

/-! ### laws_heldIntS: function 63 -/
def laws_heldIntS.l0 : Nat → List Int → Int → Int → Option (Int)
 | 0, _, _, _ => none
 | k + 1, x0, x1, x5 => if x5 < (x0.length : Int) then (if 0 ≤ x5 then (if (rd x0 x5) = x1 then (laws_heldIntS.l0 k x0 (wrap64 (x1 + 1)) (wrap64 (x5 + 1))) else (some (-1))) else (none)) else (some x1)
def laws_heldIntS.f (k : Nat) (l0 : List Int) (a1 : Int) : Option (Int) := laws_heldIntS.l0 k l0 a1 0
set_option maxHeartbeats 8000000 in
set_option maxRecDepth 100000 in
theorem laws_heldIntS.calls (k : Nat) (A0 : Option Addr) (c0 : Nat) (l0 : List Int) (a1 : Int) (r : Int) (w : World) (hr0 : Kd.C (Kd.int .i64) w A0 l0.length l0) (hc0 : l0.length ≤ c0) (h : laws_heldIntS.f k l0 a1 = some r) :
  Calls Try.prog 63 #[.slice A0 l0.length c0, .int .i64 a1] w fun e w' => e = .returned (.int .i64 r) ∧ Drawn0 w w' := by
 have HR0 := qa hr0; have HC0 := qa hc0; clear hr0 hc0; have H : (laws_heldIntS.l0 k l0 a1 0) = some r := h; clear h; have H' := qa H; clear H
 go_enter Try.func63, Try.ntmps63
 go_wp2
 go_loopg [1, 5] k (fun kq v1 v5 w' => ∃ (x1_1 : Int) (x5_1 : Int), v1 = .int .i64 x1_1 ∧ v5 = .int .i64 x5_1 ∧ Aside0 (laws_heldIntS.l0 kq l0 x1_1 x5_1 = some r) ∧ Aside0 (kq ≤ k) ∧ Drawn0 w w')
 case atStart => exact ⟨(a1), (0), (sd), (sd), H', ⟨Nat.le_refl _⟩, dr⟩
 case round =>
  clear H'; obtain ⟨x1_1, x5_1, rfl, rfl, HA, HK1, ⟨m1, rfl⟩⟩ := hrel
  cases gk with
  | zero => exact absurd HA.out (by simp [laws_heldIntS.l0])
  | succ k1 =>
   have H := HA.out; clear HA; simp only [laws_heldIntS.l0] at H; replace H := qe H; obtain ⟨c3b0, H⟩ | ⟨c3b0, H⟩ := H
   ·replace H := qd H; obtain ⟨c4b0, H⟩ := H; replace H := qq H; obtain ⟨c5b0, c5b1, H⟩ | ⟨c5, c5b0, c5b1, H⟩ := H
    ·have H' := qa H; clear H; have p138 : 0 ≤ (x5_1 : Int) := qo; have q138 : x5_1 < (l0.length : Int) := qo; obtain ⟨ad138, e138, hx138_0⟩ := Kd.at_int HR0.out x5_1 p138 q138; cases e138; replace p138 := eq_true p138; replace q138 := eq_true q138; go_wp2
     go_roundg k1
     case measure => have := HK1.out; omega
     case rel => exact ⟨(wrap64 (x1_1 + 1)), (wrap64 (x5_1 + 1)), (sd), (sd), H', ⟨by have := HK1.out; omega⟩, dr⟩
    ·obtain rfl := Option.some.inj H; have p138 : 0 ≤ (x5_1 : Int) := qo; have q138 : x5_1 < (l0.length : Int) := qo; obtain ⟨ad138, e138, hx138_0⟩ := Kd.at_int HR0.out x5_1 p138 q138; cases e138; replace p138 := eq_true p138; replace q138 := eq_true q138; go_wp2; go_ret; exact ⟨sd, dr⟩
   ·obtain rfl := Option.some.inj H; go_wp2; go_ret; exact ⟨sd, dr⟩

/-! ### laws_heldIntSS: function 64 -/
def laws_heldIntSS.l0 : Nat → List (List Int) → Int → Int → Option (Int)
 | 0, _, _, _ => none
 | k + 1, x0, x1, x5 => if x5 < (x0.length : Int) then (if 0 ≤ x5 then ((laws_heldIntS.f k (rd_L1 x0 x5) x1).bind fun t140 => (if t140 < 0 then (some (-1)) else (laws_heldIntSS.l0 k x0 t140 (wrap64 (x5 + 1))))) else (none)) else (some x1)
def laws_heldIntSS.f (k : Nat) (l0 : List (List Int)) (a1 : Int) : Option (Int) := laws_heldIntSS.l0 k l0 a1 0
set_option maxHeartbeats 8000000 in
set_option maxRecDepth 100000 in
theorem laws_heldIntSS.calls (k : Nat) (A0 : Option Addr) (c0 : Nat) (l0 : List (List Int)) (a1 : Int) (r : Int) (w : World) (hr0 : Kd.C (Kd.slice 3 (Kd.int .i64)) w A0 l0.length l0) (hc0 : l0.length ≤ c0) (h : laws_heldIntSS.f k l0 a1 = some r) :
  Calls Try.prog 64 #[.slice A0 l0.length c0, .int .i64 a1] w fun e w' => e = .returned (.int .i64 r) ∧ Drawn0 w w' := by
 have HR0 := qa hr0; have HC0 := qa hc0; clear hr0 hc0; have H : (laws_heldIntSS.l0 k l0 a1 0) = some r := h; clear h; have H' := qa H; clear H
 go_enter Try.func64, Try.ntmps64
 go_wp2
 go_loopg [1, 5] k (fun kq v1 v5 w' => ∃ (x1_1 : Int) (x5_1 : Int), v1 = .int .i64 x1_1 ∧ v5 = .int .i64 x5_1 ∧ Aside0 (laws_heldIntSS.l0 kq l0 x1_1 x5_1 = some r) ∧ Aside0 (kq ≤ k) ∧ Drawn0 w w')
 case atStart => exact ⟨(a1), (0), (sd), (sd), H', ⟨Nat.le_refl _⟩, dr⟩
 case round =>
  clear H'; obtain ⟨x1_1, x5_1, rfl, rfl, HA, HK1, ⟨m1, rfl⟩⟩ := hrel
  cases gk with
  | zero => exact absurd HA.out (by simp [laws_heldIntSS.l0])
  | succ k1 =>
   have H := HA.out; clear HA; simp only [laws_heldIntSS.l0] at H; replace H := qe H; obtain ⟨c3b0, H⟩ | ⟨c3b0, H⟩ := H
   ·replace H := qd H; obtain ⟨c4b0, H⟩ := H; replace H := qb H; obtain ⟨t140, A5, H⟩ := H; replace H := qe H; obtain ⟨c6b0, H⟩ | ⟨c6b0, H⟩ := H
    ·obtain rfl := Option.some.inj H; have p139 : 0 ≤ (x5_1 : Int) := qo; have q139 : x5_1 < (l0.length : Int) := qo; obtain ⟨ad139, A139_0, c139_0, e139, hx139_0, hl139_0, hi139_0⟩ := at_L1 HR0.out x5_1 p139 q139; cases e139; have HR139_0 := qa hi139_0; have HC139_0 := qa hl139_0; clear hi139_0 hl139_0; replace p139 := eq_true p139; replace q139 := eq_true q139
     go_wp2_with (first | ((with_reducible refine gate_callee (f := 63) rfl ?_); refine gol (some 17) Try.func63 #[.slice A139_0 (rd_L1 l0 x5_1).length c139_0, .int .i64 x1_1] ?_; (with_reducible refine (laws_heldIntS.calls k1 _ _ (rd_L1 l0 x5_1) x1_1 t140 _ ?side1 ?side2 A5.out).mono ?_); (case side1 => exact cx HR139_0.out); (case side2 => exact HC139_0.out); rintro e w' ⟨rfl, ⟨nd, rfl⟩⟩; refine ⟨_, rfl, ?_⟩))
     go_ret; exact ⟨sd, dr⟩
    ·have H' := qa H; clear H; have p139 : 0 ≤ (x5_1 : Int) := qo; have q139 : x5_1 < (l0.length : Int) := qo; obtain ⟨ad139, A139_0, c139_0, e139, hx139_0, hl139_0, hi139_0⟩ := at_L1 HR0.out x5_1 p139 q139; cases e139; have HR139_0 := qa hi139_0; have HC139_0 := qa hl139_0; clear hi139_0 hl139_0; replace p139 := eq_true p139; replace q139 := eq_true q139
     go_wp2_with (first | ((with_reducible refine gate_callee (f := 63) rfl ?_); refine gol (some 17) Try.func63 #[.slice A139_0 (rd_L1 l0 x5_1).length c139_0, .int .i64 x1_1] ?_; (with_reducible refine (laws_heldIntS.calls k1 _ _ (rd_L1 l0 x5_1) x1_1 t140 _ ?side1 ?side2 A5.out).mono ?_); (case side1 => exact cx HR139_0.out); (case side2 => exact HC139_0.out); rintro e w' ⟨rfl, ⟨nd, rfl⟩⟩; refine ⟨_, rfl, ?_⟩))
     go_roundg k1
     case measure => have := HK1.out; omega
     case rel => exact ⟨(t140), (wrap64 (x5_1 + 1)), (sd), (sd), H', ⟨by have := HK1.out; omega⟩, dr⟩
   ·obtain rfl := Option.some.inj H; go_wp2; go_ret; exact ⟨sd, dr⟩

/-! ### laws_heldDesk: function 21 -/
def laws_heldDesk.f (k : Nat) (l0_0 : List Int) (l0_1 : List (List Int)) (a1 : Int) : Option (Int) := (laws_heldIntS.f k l0_0 a1).bind fun t142 => (if t142 < 0 then (some (-1)) else ((laws_heldIntSS.f k l0_1 t142).bind fun t143 => (if t143 < 0 then (some (-1)) else (some t143))))
set_option maxHeartbeats 8000000 in
set_option maxRecDepth 100000 in
theorem laws_heldDesk.calls (k : Nat) (A0_0 : Option Addr) (c0_0 : Nat) (l0_0 : List Int) (A0_1 : Option Addr) (c0_1 : Nat) (l0_1 : List (List Int)) (a1 : Int) (r : Int) (w : World) (hr0_0 : Kd.C (Kd.int .i64) w A0_0 l0_0.length l0_0) (hc0_0 : l0_0.length ≤ c0_0) (hr0_1 : Kd.C (Kd.slice 3 (Kd.int .i64)) w A0_1 l0_1.length l0_1) (hc0_1 : l0_1.length ≤ c0_1) (h : laws_heldDesk.f k l0_0 l0_1 a1 = some r) :
  Calls Try.prog 21 #[.agg #[.slice A0_0 l0_0.length c0_0, .slice A0_1 l0_1.length c0_1], .int .i64 a1] w fun e w' => e = .returned (.int .i64 r) ∧ Below w.heap.size w w' := by
 have hu26 := Try.underlying26; have HR0_0 := qa hr0_0; have HC0_0 := qa hc0_0; clear hr0_0 hc0_0; have HR0_1 := qa hr0_1; have HC0_1 := qa hc0_1; clear hr0_1 hc0_1; have HB := qa (Below.refl w.heap.size w); have H : ((laws_heldIntS.f k l0_0 a1).bind fun t142 => (if t142 < 0 then (some (-1)) else ((laws_heldIntSS.f k l0_1 t142).bind fun t143 => (if t143 < 0 then (some (-1)) else (some t143))))) = some r := h; clear h; replace H := qb H; obtain ⟨t142, A3, H⟩ := H; replace H := qe H; obtain ⟨c4b0, H⟩ | ⟨c4b0, H⟩ := H
 ·obtain rfl := Option.some.inj H
  go_enter Try.func21, Try.ntmps21
  go_wp2_with (first | ((with_reducible refine gate_dst (N := 2) rfl ?_); refine bx #[.slice A0_0 l0_0.length c0_0, .slice A0_1 l0_1.length c0_1] 26 ?_; intro gb141 hg w5 hbox hb; have BK141 := qa (hbox); have GW141 := gw hg; have GE141 := gw hg; replace HB := qa (below_step (bl) hb); clear hb hbox hg; obtain ⟨hcz6_0, hcz6_1, hfz6_0, hfz6_1⟩ := qk2 BK141) | ((with_reducible refine gate_callee (f := 63) rfl ?_); refine gol (some 8) Try.func63 #[.slice A0_0 l0_0.length c0_0, .int .i64 a1] ?_; (with_reducible refine (laws_heldIntS.calls k _ _ l0_0 a1 t142 _ ?side1 ?side2 A3.out).mono ?_); (case side1 => exact cx (Kd.C_below HR0_0.out HB.out)); (case side2 => exact HC0_0.out); rintro e w' ⟨rfl, ⟨nd, rfl⟩⟩; refine ⟨_, rfl, ?_⟩))
  go_ret; exact ⟨er, bl⟩
 ·replace H := qb H; obtain ⟨t143, A7, H⟩ := H; replace H := qe H; obtain ⟨c8b0, H⟩ | ⟨c8b0, H⟩ := H
  ·obtain rfl := Option.some.inj H
   go_enter Try.func21, Try.ntmps21
   go_wp2_with (first | ((with_reducible refine gate_dst (N := 2) rfl ?_); refine bx #[.slice A0_0 l0_0.length c0_0, .slice A0_1 l0_1.length c0_1] 26 ?_; intro gb141 hg w9 hbox hb; have BK141 := qa (hbox); have GW141 := gw hg; have GE141 := gw hg; replace HB := qa (below_step (bl) hb); clear hb hbox hg; obtain ⟨hcz10_0, hcz10_1, hfz10_0, hfz10_1⟩ := qk2 BK141) | ((with_reducible refine gate_callee (f := 63) rfl ?_); refine gol (some 8) Try.func63 #[.slice A0_0 l0_0.length c0_0, .int .i64 a1] ?_; (with_reducible refine (laws_heldIntS.calls k _ _ l0_0 a1 t142 _ ?side1 ?side2 A3.out).mono ?_); (case side1 => exact cx (Kd.C_below HR0_0.out HB.out)); (case side2 => exact HC0_0.out); rintro e w' ⟨rfl, ⟨nd, rfl⟩⟩; refine ⟨_, rfl, ?_⟩) | ((with_reducible refine gate_callee (f := 64) rfl ?_); refine gol (some 14) Try.func64 #[.slice A0_1 l0_1.length c0_1, .int .i64 t142] ?_; (with_reducible refine (laws_heldIntSS.calls k _ _ l0_1 t142 t143 _ ?side1 ?side2 A7.out).mono ?_); (case side1 => exact cx (Kd.C_below HR0_1.out (bl))); (case side2 => exact HC0_1.out); rintro e w' ⟨rfl, ⟨nd, rfl⟩⟩; refine ⟨_, rfl, ?_⟩))
   go_ret; exact ⟨er, bl⟩
  ·obtain rfl := Option.some.inj H
   go_enter Try.func21, Try.ntmps21
   go_wp2_with (first | ((with_reducible refine gate_dst (N := 2) rfl ?_); refine bx #[.slice A0_0 l0_0.length c0_0, .slice A0_1 l0_1.length c0_1] 26 ?_; intro gb141 hg w11 hbox hb; have BK141 := qa (hbox); have GW141 := gw hg; have GE141 := gw hg; replace HB := qa (below_step (bl) hb); clear hb hbox hg; obtain ⟨hcz12_0, hcz12_1, hfz12_0, hfz12_1⟩ := qk2 BK141) | ((with_reducible refine gate_callee (f := 63) rfl ?_); refine gol (some 8) Try.func63 #[.slice A0_0 l0_0.length c0_0, .int .i64 a1] ?_; (with_reducible refine (laws_heldIntS.calls k _ _ l0_0 a1 t142 _ ?side1 ?side2 A3.out).mono ?_); (case side1 => exact cx (Kd.C_below HR0_0.out HB.out)); (case side2 => exact HC0_0.out); rintro e w' ⟨rfl, ⟨nd, rfl⟩⟩; refine ⟨_, rfl, ?_⟩) | ((with_reducible refine gate_callee (f := 64) rfl ?_); refine gol (some 14) Try.func64 #[.slice A0_1 l0_1.length c0_1, .int .i64 t142] ?_; (with_reducible refine (laws_heldIntSS.calls k _ _ l0_1 t142 t143 _ ?side1 ?side2 A7.out).mono ?_); (case side1 => exact cx (Kd.C_below HR0_1.out (bl))); (case side2 => exact HC0_1.out); rintro e w' ⟨rfl, ⟨nd, rfl⟩⟩; refine ⟨_, rfl, ?_⟩))
   go_ret; exact ⟨er, bl⟩

/-! ### impl_within: function 79 -/
def impl_within.l0 : Nat → List Int → Int → List Int → Int → Int → Option (Bool)
 | 0, _, _, _, _, _ => none
 | k + 1, x0, x1, x7, x8, x9 => if x9 < x8 then (if 0 ≤ x9 then (if x9 < (x7.length : Int) then (if (rd x7 x9) < (wrap64 (-x1)) then (some false) else (if (rd x7 x9) > x1 then (some false) else (impl_within.l0 k x0 x1 x7 x8 (wrap64 (x9 + 1))))) else (none)) else (none)) else (some ((x0.length : Int) == 24))
def impl_within.f (k : Nat) (l0 : List Int) (a1 : Int) : Option (Bool) := impl_within.l0 k l0 a1 l0 (l0.length : Int) 0
set_option maxHeartbeats 8000000 in
set_option maxRecDepth 100000 in
theorem impl_within.calls (k : Nat) (A0 : Option Addr) (c0 : Nat) (l0 : List Int) (a1 : Int) (r : Bool) (w : World) (hr0 : Kd.C (Kd.int .i64) w A0 l0.length l0) (hc0 : l0.length ≤ c0) (h : impl_within.f k l0 a1 = some r) :
  Calls Try.prog 79 #[.slice A0 l0.length c0, .int .i64 a1] w fun e w' => e = .returned (.bool r) ∧ Drawn0 w w' := by
 have HR0 := qa hr0; have HC0 := qa hc0; clear hr0 hc0; have H : (impl_within.l0 k l0 a1 l0 (l0.length : Int) 0) = some r := h; clear h; have H' := qa H; clear H
 go_enter Try.func79, Try.ntmps79
 go_wp2
 go_loopg [9] k (fun kq v9 w' => ∃ (x9_1 : Int), v9 = .int .i64 x9_1 ∧ Aside0 (impl_within.l0 kq l0 a1 l0 (l0.length : Int) x9_1 = some r) ∧ Aside0 (kq ≤ k) ∧ Drawn0 w w')
 case atStart => exact ⟨(0), (sd), H', ⟨Nat.le_refl _⟩, dr⟩
 case round =>
  clear H'; obtain ⟨x9_1, rfl, HA, HK1, ⟨m1, rfl⟩⟩ := hrel
  cases gk with
  | zero => exact absurd HA.out (by simp [impl_within.l0])
  | succ k1 =>
   have H := HA.out; clear HA; simp only [impl_within.l0] at H; replace H := qe H; obtain ⟨c3b0, H⟩ | ⟨c3b0, H⟩ := H
   ·replace H := qd H; obtain ⟨c4b0, H⟩ := H; replace H := qd H; obtain ⟨c5b0, H⟩ := H; replace H := qe H; obtain ⟨c6b0, H⟩ | ⟨c6b0, H⟩ := H
    ·obtain rfl := Option.some.inj H; have p144 : 0 ≤ (x9_1 : Int) := qo; have q144 : x9_1 < (l0.length : Int) := qo; obtain ⟨ad144, e144, hx144_0⟩ := Kd.at_int HR0.out x9_1 p144 q144; cases e144; replace p144 := eq_true p144; replace q144 := eq_true q144; go_wp2; go_ret; exact ⟨sd, dr⟩
    ·by_cases c7 : (rd l0 x9_1) > a1
     ·rw [if_pos c7] at H; have c7b0 : decide (a1 < (rd l0 x9_1)) = true := decide_eq_true c7; clear c7; obtain rfl := Option.some.inj H; have p144 : 0 ≤ (x9_1 : Int) := qo; have q144 : x9_1 < (l0.length : Int) := qo; obtain ⟨ad144, e144, hx144_0⟩ := Kd.at_int HR0.out x9_1 p144 q144; cases e144; replace p144 := eq_true p144; replace q144 := eq_true q144; go_wp2; go_ret; exact ⟨sd, dr⟩
     ·rw [if_neg c7] at H; have c7b0 : decide (a1 < (rd l0 x9_1)) = false := decide_eq_false c7; clear c7; have H' := qa H; clear H; have p144 : 0 ≤ (x9_1 : Int) := qo; have q144 : x9_1 < (l0.length : Int) := qo; obtain ⟨ad144, e144, hx144_0⟩ := Kd.at_int HR0.out x9_1 p144 q144; cases e144; replace p144 := eq_true p144; replace q144 := eq_true q144; go_wp2
      go_roundg k1
      case measure => have := HK1.out; omega
      case rel => exact ⟨(wrap64 (x9_1 + 1)), (sd), H', ⟨by have := HK1.out; omega⟩, dr⟩
   ·obtain rfl := Option.some.inj H; go_wp2; go_ret; exact ⟨sd, dr⟩

/-! ### impl_RowOk: function 44 -/
def impl_RowOk.f (k : Nat) (l0 : List Int) : Option (Bool) := (impl_within.f k l0 1000000000).bind fun t145 => (some t145)
set_option maxHeartbeats 8000000 in
set_option maxRecDepth 100000 in
theorem impl_RowOk.calls (k : Nat) (A0 : Option Addr) (c0 : Nat) (l0 : List Int) (r : Bool) (w : World) (hr0 : Kd.C (Kd.int .i64) w A0 l0.length l0) (hc0 : l0.length ≤ c0) (h : impl_RowOk.f k l0 = some r) :
  Calls Try.prog 44 #[.slice A0 l0.length c0] w fun e w' => e = .returned (.bool r) ∧ Drawn0 w w' := by
 have HR0 := qa hr0; have HC0 := qa hc0; clear hr0 hc0; have H : ((impl_within.f k l0 1000000000).bind fun t145 => (some t145)) = some r := h; clear h; replace H := qb H; obtain ⟨t145, A2, H⟩ := H; obtain rfl := Option.some.inj H
 go_enter Try.func44, Try.ntmps44
 go_wp2_with (first | ((with_reducible refine gate_callee (f := 79) rfl ?_); refine gol (some 4) Try.func79 #[.slice A0 l0.length c0, .int .i64 1000000000] ?_; (with_reducible refine (impl_within.calls k _ _ l0 1000000000 t145 _ ?side1 ?side2 A2.out).mono ?_); (case side1 => exact cx HR0.out); (case side2 => exact HC0.out); rintro e w' ⟨rfl, ⟨nd, rfl⟩⟩; refine ⟨_, rfl, ?_⟩))
 go_ret; exact ⟨sd, dr⟩

end Go.Proofs.Ytmgjidgfhlclmaa.PFnExactDeskRun
