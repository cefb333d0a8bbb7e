-- Written for this claim by a program of this session (wip/myprint.sh), after the kit's print; some functions by hand
import Derived.Test.YtmgjidgfhlclmaaPFnExactDeskRunx0
import Derived.Test.YtmgjidgfhlclmaaPFnExactDeskRunx3
import Derived.Test.YtmgjidgfhlclmaaPFnExactDeskRunx4
import Derived.Test.YtmgjidgfhlclmaaPFnExactDeskRunx6
import Derived.Test.YtmgjidgfhlclmaaWPress
namespace Go.Proofs.Ytmgjidgfhlclmaa.PFnExactDeskRun
open Go.RowKit Go.Proofs.YtmgjidgfhlclmaaW.PrintWords Go.Proofs.YtmgjidgfhlclmaaW.PrintLast Go.Proofs.YtmgjidgfhlclmaaW.PrintMore
attribute [local go_sem] max2_int min2_int max_two min_two max_three min_three max_four min_four   -- for this text's walks alone
set_option linter.unusedVariables false
set_option linter.unusedSimpArgs false

/-! ### impl_copyDesk: function 34 -/
def impl_copyDesk.l0 : Nat → List (List Int) → Int → Int → List Int → List (List Int) → Option (List Int × (List (List Int)))
 | 0, _, _, _, _, _ => none
 | k + 1, x11, x12, x13, x212000, x212001 => if x13 < x12 then (if 0 ≤ x13 then (if x13 < (x11.length : Int) then ((slices_Clone_int_int.f k (rd_L1 x11 x13)).bind fun t213 => (if x212001.length < 5864062014805 then (impl_copyDesk.l0 k x11 x12 (wrap64 (x13 + 1)) x212000 (x212001 ++ [t213])) else (none))) else (none)) else (none)) else (some (x212000, x212001))
def impl_copyDesk.f (k : Nat) (l0_0 : List Int) (l0_1 : List (List Int)) : Option (List Int × (List (List Int))) := (slices_Clone_int_int.f k l0_0).bind fun t208 => (impl_copyDesk.l0 k l0_1 (l0_1.length : Int) 0 t208 ([] : List (List Int)))
def impl_copyDesk.T5 : Bool × List (List Nat × List Nat) := (true, [([], []), ([0], [0]), ([], []), ([2], [2]), ([3], [3]), ([1, 4, 3], [1, 4]), ([0, 1, 2, 3, 4, 5], []), ([6, 5, 5, 0, 1, 2, 3, 4, 5], [5, 6])])
def impl_copyDesk.B5 : List Nat := [0, 1, 0, 4, 12, 31, 63, 127]
theorem impl_copyDesk.tab5 : rtab .any (opsOf Try.f34 5) = impl_copyDesk.T5 := by kernel_rfl
theorem impl_copyDesk.bits5 : waitsOk impl_copyDesk.T5.2 impl_copyDesk.B5 = true := by kernel_rfl
set_option maxHeartbeats 8000000 in
set_option maxRecDepth 100000 in
theorem impl_copyDesk.calls (k : Nat) (A0_0 : Option Addr) (c0_0 : Nat) (l0_0 : List Int) (A0_1 : Option Addr) (c0_1 : Nat) (l0_1 : List (List Int)) (r1 : List Int) (r2 : List (List Int)) (w : World) (hr0_0 : Kd.C (Kd.int .i64) w A0_0 l0_0.length l0_0) (hc0_0 : l0_0.length ≤ c0_0) (hr0_1 : Kd.C (Kd.slice 3 (Kd.int .i64)) w A0_1 l0_1.length l0_1) (hc0_1 : l0_1.length ≤ c0_1) (h : impl_copyDesk.f k l0_0 l0_1 = some (r1, r2)) :
  Calls Try.prog 34 #[.agg #[.slice A0_0 l0_0.length c0_0, .slice A0_1 l0_1.length c0_1]] w fun e w' => ∃ v0_ v1_ : Value, e = .returned (.agg #[v0_, v1_]) ∧ Kd.R (Kd.int .i64) 3 w' w.heap.size (fun _ => True) v0_ r1 ∧ Kd.S (Kd.slice 3 (Kd.int .i64)) 23 w' w.heap.size (fun k_ => some k_ ≠ (v0_ : Value).ownBlock) v1_ r2 ∧ Below w.heap.size w w' := by
 have hu26 := Try.underlying26; have HR0_0 := qa hr0_0; have HC0_0 := qa hc0_0; clear hr0_0 hc0_0; have HR0_1 := qa hr0_1; have HC0_1 := qa hc0_1; clear hr0_1 hc0_1; have HB := qa (Below.refl w.heap.size w); have H : ((slices_Clone_int_int.f k l0_0).bind fun t208 => (impl_copyDesk.l0 k l0_1 (l0_1.length : Int) 0 t208 ([] : List (List Int)))) = some (r1, r2) := h; clear h; replace H := qb H; obtain ⟨t208, A2, H⟩ := H; have H' := qa H; clear H
 go_enter Try.func34, Try.ntmps34
 go_wp2_with (first | ((with_reducible refine gate_dst (N := 1) rfl ?_); refine bx #[.slice A0_0 l0_0.length c0_0, .slice A0_1 l0_1.length c0_1] 26 ?_; intro gb206 hg w3 hbox hb; have BK206 := qa (hbox); have GW206 := gw hg; have GE206 := gw hg; replace HB := qa (below_step (bl) hb); clear hb hbox hg) | ((with_reducible refine gate_dst (N := 2) rfl ?_); refine bx #[.slice none 0 0, .slice none 0 0] 26 ?_; intro gb207 hg w4 hbox hb; have BK207 := qa (hbox); have GW207 := gw hg; have GE207 := gw hg; replace HB := qa (below_step (bl) hb); have NB206_207 := qnl hg BK206; have NB207_206 := qng hg BK206; replace BK206 := qbb BK206 hb; clear hb hbox hg; have hnb5 := NB206_207.out; have hnc5 := NB207_206.out; obtain ⟨hcz6_0, hcz6_1, hfz6_0, hfz6_1⟩ := qk2 BK206) | ((with_reducible refine gate_callee (f := 37) rfl ?_); refine gol (some 8) Try.func37 #[.slice A0_0 l0_0.length c0_0] ?_; (with_reducible refine (slices_Clone_int_int.calls k _ _ l0_0 t208 _ ?side1 ?side2 A2.out).mono ?_); (case side1 => exact cx (Kd.C_below HR0_0.out HB.out)); (case side2 => exact HC0_0.out); rintro e w7 ⟨v209, rfl, ho0, hb⟩; refine ⟨_, rfl, ?_⟩; have HO210 := qa (Kd.R_lower ho0 (below_size (bl))); replace BK206 := qbb BK206 hb; replace BK207 := qbb BK207 hb; replace HB := qa (below_step (bl) hb); obtain ⟨Ao8, co8, eo8⟩ := Kd.R_slice HO210.out; subst eo8) | ((with_reducible refine gate_dst (N := 3) rfl ?_); refine bx #[.slice none 0 0, .slice none 0 0] 26 ?_; intro gb211 hg w9 hbox hb; replace HO210 := qa (Kd.R_below (kR HO210) hb); have BK211 := qa (hbox); have GW211 := gw hg; have GE211 := gw hg; replace HB := qa (below_step (bl) hb); have NB206_211 := qnl hg BK206; have NB211_206 := qng hg BK206; replace BK206 := qbb BK206 hb; have NB207_211 := qnl hg BK207; have NB211_207 := qng hg BK207; replace BK207 := qbb BK207 hb; clear hb hbox hg; have hnb10 := NB211_206.out; have hnc10 := NB206_211.out; have hnb11 := NB211_207.out; have hnc11 := NB207_211.out; obtain ⟨hcz12_0, hcz12_1, hfz12_0, hfz12_1⟩ := qk2 BK211; obtain ⟨hcz13_0, hcz13_1, hfz13_0, hfz13_1⟩ := qk2 BK206))
 go_loopg [13] k (fun kq v13 w' => ∃ (x13_1 : Int) (x212001_1 : List (List Int)) (u212001 : Value), v13 = .int .i64 x13_1 ∧ Aside0 (impl_copyDesk.l0 kq l0_1 (l0_1.length : Int) x13_1 t208 x212001_1 = some (r1, r2)) ∧ Aside0 (kq ≤ k) ∧ Aside0 (Kd.R (Kd.int .i64) 3 w' w.heap.size (fun _ => True) (.slice Ao8 t208.length co8) t208) ∧ Aside0 (Kd.S (Kd.slice 3 (Kd.int .i64)) 23 w' w.heap.size (fun k_ => some k_ ≠ ((.slice Ao8 t208.length co8) : Value).ownBlock) u212001 x212001_1) ∧ Aside0 (w'.heap[gb206]? = some (.cells #[(.slice A0_0 l0_0.length c0_0), (.slice A0_1 l0_1.length c0_1)] 26 (0, 0))) ∧ Aside0 (w'.heap[gb207]? = some (.cells #[(.slice none 0 0), (.slice none 0 0)] 26 (0, 0))) ∧ Aside0 (w'.heap[gb211]? = some (.cells #[(.slice Ao8 t208.length co8), u212001] 26 (0, 0))) ∧ Aside0 (Below w.heap.size w w'))
 case atStart => exact ⟨(0), (([] : List (List Int))), (.slice none 0 0), (sd), H', ⟨Nat.le_refl _⟩, ⟨kFR HO210 BK211 (fun _ hk => trivial)⟩, ⟨z17_⟩, ⟨kb BK206⟩, ⟨kb BK207⟩, ⟨kP BK211⟩, ⟨bl⟩⟩
 case round =>
  clear H'; obtain ⟨x13_1, x212001_1, u212001, rfl, HA, HK1, HO_212000, HO_212001, BK206, BK207, BK211, HB⟩ := hrel
  cases gk with
  | zero => exact absurd HA.out (by simp [impl_copyDesk.l0])
  | succ k1 =>
   have H := HA.out; clear HA; simp only [impl_copyDesk.l0] at H; replace H := qe H; obtain ⟨c14b0, H⟩ | ⟨c14b0, H⟩ := H
   ·replace H := qd H; obtain ⟨c15b0, H⟩ := H; replace H := qd H; obtain ⟨c16b0, H⟩ := H; replace H := qb H; obtain ⟨t213, A17, H⟩ := H; replace H := qn H; obtain ⟨c18, H⟩ := H; have LMc18 := qa c18; clear c18; obtain ⟨y216, hy_⟩ : ∃ y_ : List (List Int), y_ = (x212001_1 ++ [t213]) := ⟨_, rfl⟩; replace H : (impl_copyDesk.l0 k1 l0_1 (l0_1.length : Int) (wrap64 (x13_1 + 1)) t208 y216) = some (r1, r2) := yh; have Ny216 := qa hy_; clear hy_; have H' := qa H; clear H; have p212 : 0 ≤ (x13_1 : Int) := qo; have q212 : x13_1 < (l0_1.length : Int) := qo; obtain ⟨ad212, A212_0, c212_0, e212, hx212_0, hl212_0, hi212_0⟩ := at_L1 HR0_1.out x13_1 p212 q212; cases e212; (try replace hx212_0 := (HB.out.cell (World.block_lt_of_cell? w _ hx212_0)).trans hx212_0); have HR212_0 := qa hi212_0; have HC212_0 := qa hl212_0; clear hi212_0 hl212_0; replace p212 := eq_true p212; replace q212 := eq_true q212
    try go_wp2
    replace HO_212000 := qa (Kd.R_drew HO_212000.out); replace HO_212001 := qa (Kd.S_drew HO_212001.out); replace BK206 := qa (blk_drew BK206.out); replace BK207 := qa (blk_drew BK207.out); replace BK211 := qa (blk_drew BK211.out); replace HB := qa (below_drew1 HB.out); refine start_ (n := 8) (S := fun w' => w'.cell? ⟨gb211, 0, none⟩ = some (.slice Ao8 t208.length co8) ∧ w'.cell? ⟨gb211, 1, none⟩ = some (u212001)) (ds := [7]) #[false, false, false, false, false, false, false, false] (by kernel_rfl) rfl rfl ⟨(blk_cell BK211.out 0).trans rfl, (blk_cell BK211.out 1).trans rfl⟩ (fun hHeld => ?_); refine with_tabW impl_copyDesk.tab5 impl_copyDesk.bits5 (fun HT_ HW_ => ?_); generalize wr.drew = w19 at HO_212000 HO_212001 BK206 BK207 BK211 HB hHeld ⊢; refine pur 0 17 #[true, false, false, false, false, false, false, false] HT_ ?_; refine pur 2 19 #[true, false, true, false, false, false, false, false] HT_ ?_; refine take_ (i := 1) (N := some 18) (v := ?_) (a' := ?_) #[true, true, true, false, false, false, false, false] rfl rfl (take_ofW HT_.out HW_.out (by kernel_rfl)) (fun _ _ _ h => h) (Or.inl ⟨by rfl, ?_⟩) hHeld ?_ ?_; rotate_left
    ·rintro w' ⟨s0, s1⟩
     go_simp
     with_reducible rfl
    rotate_left
    ·simp only [Act.put, List.setIfInBounds_toArray, List.set_cons_zero, List.set_cons_succ, i64_w, i32_w]
     rfl
    refine one_ (i := 3) (N := some 20) #[true, true, true, true, false, false, false, false] rfl rfl (one_of HT_.out (by kernel_rfl)) (by decide) (fun K hK => ?_); refine goes_ Try.func37 (by kernel_rfl) rfl #[.slice A212_0 (rd_L1 l0_1 x13_1).length c212_0] (by rfl) rfl rfl am ?_
    with_reducible refine (slices_Clone_int_int.calls k1 _ _ (rd_L1 l0_1 x13_1) t213 _ ?side1 ?side2 A17.out).mono ?_
    (case side1 => exact cx (Kd.C_below HR212_0.out HB.out)); (case side2 => exact HC212_0.out); rintro e w20 ⟨v214, rfl, ho0, hb⟩; refine ⟨_, rfl, ?_⟩; replace HO_212001 := qa (Kd.S_elder' (kS HO_212001) (Kd.R_base ho0) hb); have HO215 := qa (Kd.R_lower (Kd.R_new' ho0 (Kd.R_lt (kR HO_212000))) (below_size (bl))); replace HO_212000 := qa (Kd.R_elder' (kR HO_212000) (Kd.R_base ho0) hb); replace BK206 := qbb BK206 hb; replace BK207 := qbb BK207 hb; replace BK211 := qbb BK211 hb; replace HB := qa (below_step (bl) hb); (try clear hb); (try clear hb2); (try clear hk); (try clear hi); (try clear ho0); obtain ⟨Ao22, co22, eo22⟩ := Kd.R_slice HO215.out; (first | subst eo22 | (injection eo22 with f1_ f2_ f3_; have f4_ := f1_.symm; have f5_ := f3_.symm; clear f1_ f2_ f3_; subst f4_; subst f5_)); refine hK.out _ _ ⟨(blk_cell BK211.out 0).trans rfl, (blk_cell BK211.out 1).trans rfl⟩ (fun hHeld => ?_); clear hK K; refine norm_ (a' := ?_) ?_ ?_; rotate_left
    ·show Act.put _ (some 20) _ = _; simp only [Act.put, List.setIfInBounds_toArray, List.set_cons_zero, List.set_cons_succ, i64_w, i32_w]
     rfl
    refine one_ (i := 4) (N := some 21) #[true, true, true, true, true, false, false, false] rfl rfl (one_of HT_.out (by kernel_rfl)) (by decide) (fun K hK => ?_); refine value_ (w1 := ?_) (v := ?_) (by rfl) rfl ?_ ?_; rotate_left 2
    ·go_simp
     constructor
     ·rfl
     ·rfl
    refine hK.out _ _ ⟨(blk_cell (blk_alloc BK211.out _) 0).trans rfl, (blk_cell (blk_alloc BK211.out _) 1).trans rfl⟩ (fun hHeld => ?_); clear hK K; refine norm_ (a' := ?_) ?_ ?_; rotate_left
    ·show Act.put _ (some 21) _ = _; simp only [Act.put, List.setIfInBounds_toArray, List.set_cons_zero, List.set_cons_succ, i64_w, i32_w]
     rfl
    refine one_ (i := 5) (N := some 22) #[true, true, true, true, true, true, false, false] rfl rfl (one_of HT_.out (by kernel_rfl)) (by decide) (fun K hK => ?_); refine Kd.S_append_step (Kd.slice 3 (Kd.int .i64)) (w0 := w) w.heap.size (by rfl) (.tmp 18) (.tmp 21) 24 23 (.slice none 0 0) 24 rfl Try.underlying24 info23 rfl (by decide) (by omega) u212001 x212001_1 t213 [.slice Ao22 t213.length co22] (fun k_ => some k_ ≠ (.slice Ao8 t208.length co8 : Value).ownBlock) (fun k_ => some k_ = (.slice Ao22 t213.length co22 : Value).ownBlock) rfl rfl ?aP (fun k_ hk_ => ((Kd.R_mono (ok' := fun k_ => ((fun k_ => some k_ ≠ (.slice Ao8 t208.length co8 : Value).ownBlock)) k_ ∧ some k_ ≠ (u212001 : Value).ownBlock) (Kd.R_apart' (HO215.out) (Kd.S_typed HO_212001.out) (by decide)) (fun k_ hk => ⟨hk.1.2, hk.2⟩))).1 k_ hk_.symm) ?aF ?aO ?aB ?aS ?aL ?_; (case aP => exact Kd.M_row (Kd.R_mono (Kd.R_tight rfl (Kd.R_mono (ok' := fun k_ => ((fun k_ => some k_ ≠ (.slice Ao8 t208.length co8 : Value).ownBlock)) k_ ∧ some k_ ≠ (u212001 : Value).ownBlock) (Kd.R_apart' (HO215.out) (Kd.S_typed HO_212001.out) (by decide)) (fun k_ hk => ⟨hk.1.2, hk.2⟩))) (fun _ h_ => h_))); (case aB => exact (bl)); (case aF => exact (fun k_ hk => Kd.fresh' (Kd.R_lt (kR HO_212000)) k_ hk)); (case aO => exact (by (with_reducible repeat (first | apply Kd.S_alloc | apply Kd.S_drewN | apply Kd.S_drew)); exact Kd.S_mono HO_212001.out (fun k_ hk => ⟨hk.1, fun e_ => hk.2 e_⟩))); (case aS => exact (below_size (bl))); (case aL => have := LMc18.out; omega); intro v217 w21 ho hb hg hat; rw [← Ny216.out] at ho; replace HO_212000 := qa (Kd.R_over' (kR HO_212000) (Kd.S_typed (kS HO_212001)) (by decide) hg); replace BK206 := qa (blk_grown (g := gb206) (o := .cells #[.slice A0_0 l0_0.length c0_0, .slice (some ad212) l0_1.length c0_1] 26 (0, 0)) (bk) hg (Kd.S_ne HO_212001.out BK206.out (by decide))); replace BK207 := qa (blk_grown (g := gb207) (o := .cells #[.slice none 0 0, .slice none 0 0] 26 (0, 0)) (bk) hg (Kd.S_ne HO_212001.out BK207.out (by decide))); replace BK211 := qa (blk_grown (g := gb211) (o := .cells #[.slice Ao8 t208.length co8, u212001] 26 (0, 0)) (bk) hg (Kd.S_ne HO_212001.out BK211.out (by decide))); replace HB := qa (hb); have HO218 := qa (ho); clear HO_212001 HO215; clear ho hb hg hat; obtain ⟨Ao23, co23, eo23⟩ := Kd.S_slice HO218.out; (first | subst eo23 | (injection eo23 with f1_ f2_ f3_; have f4_ := f1_.symm; have f5_ := f3_.symm; clear f1_ f2_ f3_; subst f4_; subst f5_)); refine hK.out _ _ ⟨(blk_cell BK211.out 0).trans rfl, (blk_cell BK211.out 1).trans rfl⟩ (fun hHeld => ?_); clear hK K; refine norm_ (a' := ?_) ?_ ?_; rotate_left
    ·show Act.put _ (some 22) _ = _; simp only [Act.put, List.setIfInBounds_toArray, List.set_cons_zero, List.set_cons_succ, i64_w, i32_w]
     rfl
    refine pur 6 23 #[true, true, true, true, true, true, true, false] HT_ ?_; refine last_ (i := 7) (N := none) #[true, true, true, true, true, true, true, true] rfl rfl (one_of HT_.out (by kernel_rfl)) (by decide) (fun K hK => ?_); have hs24 : w21.cell? ⟨gb211, 1, none⟩ = some (u212001) := (blk_cell BK211.out 1).trans rfl; have hfs24 := blk_frozen BK211.out 1; have hns24_0 := NB206_211.out; have hns24_1 := NB207_211.out; have hms24_0 := NB211_206.out; have hms24_1 := NB211_207.out; refine skip_ (w1 := ?_) (by rfl) rfl ?_ ?_; rotate_left
    ·go_simp
     rfl
    refine hK.out _ _ ?_; clear hK K; refine done_ (done_of HT_.out (by kernel_rfl)) ?_
    try go_wp2
    go_roundg k1
    case measure => have := HK1.out; omega
    case rel => exact ⟨(wrap64 (x13_1 + 1)), (y216), (.slice Ao23 y216.length co23), (sd), H', ⟨by have := HK1.out; omega⟩, ⟨kFR HO_212000 BK211 (fun _ hk => trivial)⟩, ⟨kFS HO218 BK211 (fun _ hk => hk.1)⟩, ⟨kb BK206⟩, ⟨kb BK207⟩, ⟨kP BK211⟩, ⟨bl⟩⟩
   ·simp only [Option.some.injEq, Prod.mk.injEq] at H; obtain ⟨rfl, rfl⟩ := H; have hnb25 := NB211_206.out; have hnc25 := NB206_211.out; have hnb26 := NB211_207.out; have hnc26 := NB207_211.out; obtain ⟨hcz27_0, hcz27_1, hfz27_0, hfz27_1⟩ := qk2 BK211; have hnb28 := NB207_206.out; have hnc28 := NB206_207.out; obtain ⟨hcz29_0, hcz29_1, hfz29_0, hfz29_1⟩ := qk2 BK207; obtain ⟨Ao30, co30, eo30⟩ := Kd.S_slice HO_212001.out; subst eo30; go_wp2; refine bodyPost_ret (results_cell_row rfl _ _ gb207 26 #[.slice Ao8 t208.length co8, .slice Ao30 x212001_1.length co30] (0, 0) _ rfl (kP BK207) Try.underlying26 rfl (by kernel_rfl)) rfl ?_; exact ⟨_, _, er, kFR HO_212000 BK207 (fun _ hk => trivial), kFS HO_212001 BK207 (fun _ hk => hk.1), bl⟩

/-! ### impl_gcd: function 82 -/
def impl_gcd.l0 : Nat → Int → Int → Option (Int)
 | 0, _, _ => none
 | k + 1, x0, x1 => if x1 = 0 then (some x0) else (impl_gcd.l0 k x1 (Int.tmod x0 x1))
def impl_gcd.f (k : Nat) (a0 : Int) (a1 : Int) : Option (Int) := impl_gcd.l0 k a0 a1
theorem impl_gcd.mono_l : ∀ k, (∀ y0 y1, LeO (impl_gcd.l0 k y0 y1) (impl_gcd.l0 (k + 1) y0 y1))
 | 0 => fun _ _ r h => by simp [impl_gcd.l0] at h
 | k + 1 => by
  have ih0 := impl_gcd.mono_l k
  ·intro y0 y1; unfold impl_gcd.l0; exact mz
theorem impl_gcd.mono : ∀ a0 a1 k, LeO (impl_gcd.f k a0 a1) (impl_gcd.f (k + 1) a0 a1) := by
 intro a0 a1 k; have ih0 := impl_gcd.mono_l k; unfold impl_gcd.f; exact mz
set_option maxHeartbeats 8000000 in
set_option maxRecDepth 100000 in
theorem impl_gcd.calls (k : Nat) (a0 : Int) (a1 : Int) (r : Int) (w : World) (h : impl_gcd.f k a0 a1 = some r) :
  Calls Try.prog 82 #[.int .i64 a0, .int .i64 a1] w fun e w' => e = .returned (.int .i64 r) ∧ Drawn0 w w' := by
 have H : (impl_gcd.l0 k a0 a1) = some r := h; clear h; have H' := qa H; clear H
 go_enter Try.func82, Try.ntmps82
 go_wp2
 repeat (go_quiet (fail); try go_wp2)
 go_loopg [0, 1] k (fun kq v0 v1 w' => ∃ (x0_1 : Int) (x1_1 : Int), v0 = .int .i64 x0_1 ∧ v1 = .int .i64 x1_1 ∧ Aside0 (impl_gcd.l0 kq x0_1 x1_1 = some r) ∧ Aside0 (kq ≤ k) ∧ Drawn0 w w')
 case atStart => exact ⟨(a0), (a1), (sd), (sd), H', ⟨Nat.le_refl _⟩, dr⟩
 case round =>
  clear H'; obtain ⟨x0_1, x1_1, rfl, rfl, HA, HK1, ⟨m1, rfl⟩⟩ := hrel
  cases gk with
  | zero => exact absurd HA.out (by simp [impl_gcd.l0])
  | succ k1 =>
   have H := HA.out; clear HA; simp only [impl_gcd.l0] at H; replace H := qq H; obtain ⟨c3b0, c3b1, H⟩ | ⟨c3, c3b0, c3b1, H⟩ := H
   ·obtain rfl := Option.some.inj H; go_wp2
    repeat (go_quiet (fail); try go_wp2)
    go_ret; exact ⟨sd, dr⟩
   ·have H' := qa H; clear H; go_wp2
    repeat (go_quiet (fail); try go_wp2)
    go_roundg k1
    case measure => have := HK1.out; omega
    case rel => exact ⟨(x1_1), (Int.tmod x0_1 x1_1), (sd), (sd), H', ⟨by have := HK1.out; omega⟩, dr⟩

/-! ### impl_unitary: function 72 -/
def impl_unitary.l0 : Nat → Int → List Int → List Int → Int → Int → Option (List Int)
 | 0, _, _, _, _, _ => none
 | k + 1, x0, x3, x8, x9, x10 => if x10 < x9 then (if 0 ≤ x10 then (if x10 < (x8.length : Int) then (if (rd x8 x10) = 0 then (none) else ((impl_gcd.f k (rd x8 x10) (wrap64 (Int.tdiv x0 (rd x8 x10)))).bind fun t226 => (if t226 = 1 then (if x3.length < 17592186044416 then (impl_unitary.l0 k x0 (x3 ++ [rd x8 x10]) x8 x9 (wrap64 (x10 + 1))) else (none)) else (impl_unitary.l0 k x0 x3 x8 x9 (wrap64 (x10 + 1)))))) else (none)) else (none)) else (some x3)
def impl_unitary.f (k : Nat) (a0 : Int) : Option (List Int) := (impl_divisors.f k a0).bind fun t222 => (impl_unitary.l0 k a0 (([] : List Int)) t222 (t222.length : Int) 0)
theorem impl_unitary.mono_l : ∀ k, (∀ y0 y1 y2 y3 y4, LeO (impl_unitary.l0 k y0 y1 y2 y3 y4) (impl_unitary.l0 (k + 1) y0 y1 y2 y3 y4))
 | 0 => fun _ _ _ _ _ r h => by simp [impl_unitary.l0] at h
 | k + 1 => by
  have ih0 := impl_unitary.mono_l k
  ·intro y0 y1 y2 y3 y4; unfold impl_unitary.l0; have m0 := @impl_divisors.mono; have m1 := @impl_gcd.mono; exact mz
theorem impl_unitary.mono : ∀ a0 k, LeO (impl_unitary.f k a0) (impl_unitary.f (k + 1) a0) := by
 intro a0 k; have ih0 := impl_unitary.mono_l k; unfold impl_unitary.f; have m0 := @impl_divisors.mono; have m1 := @impl_gcd.mono; exact mz
set_option maxHeartbeats 8000000 in
set_option maxRecDepth 100000 in
theorem impl_unitary.calls (k : Nat) (a0 : Int) (r : List Int) (w : World) (h : impl_unitary.f k a0 = some r) :
  Calls Try.prog 72 #[.int .i64 a0] w fun e w' => ∃ v0_ : Value, e = .returned (v0_) ∧ Kd.R (Kd.int .i64) 3 w' w.heap.size (fun _ => True) v0_ r ∧ Below w.heap.size w w' := by
 have HB := qa (Below.refl w.heap.size w); have H : ((impl_divisors.f k a0).bind fun t222 => (impl_unitary.l0 k a0 (([] : List Int)) t222 (t222.length : Int) 0)) = some r := h; clear h; obtain ⟨y219, hy_⟩ : ∃ y_ : List Int, y_ = (([] : List Int)) := ⟨_, rfl⟩; replace H : ((impl_divisors.f k a0).bind fun t222 => (impl_unitary.l0 k a0 y219 t222 (t222.length : Int) 0)) = some r := yh; have Ny219 := qa hy_; clear hy_; replace H := qb H; obtain ⟨t222, A2, H⟩ := H; have H' := qa H; clear H
 go_enter Try.func72, Try.ntmps72
 go_wp2_with (first | ((with_reducible refine gate_dst (N := 6) rfl ?_); refine Kd.R_lit (Kd.int .i64) _ 3 ?hg (N := 6) ?hd (xs := ([] : List Int)) (inner := []) (ok := fun _ => True) (okp := fun _ => True) ?hr ?hp (fun _ hk => hk) trivial (Below.refl _ _) (Nat.le_refl _) (by simp) ?_; (case hd => rfl); (case hg => rfl); (case hr => exact gr); (case hp => exact (Reps.none _ _)); intro v220 w3 ho4 hb hg_ hnew_; clear hg_ hnew_; (first | rw [← Ny219.out] at ho4 | (simp only [Int.reduceToNat] at ho4; rw [← Ny219.out] at ho4)); have HO221 := qa (Kd.R_lower ho4 (below_size (bl))); replace HB := qa (below_step (bl) hb); clear hb ho4) | ((with_reducible refine gate_callee (f := 49) rfl ?_); refine gol (some 8) Try.func49 #[.int .i64 a0] ?_; (with_reducible refine (impl_divisors.calls k a0 t222 _ A2.out).mono ?_); rintro e w5 ⟨v223, rfl, ho0, hb⟩; refine ⟨_, rfl, ?_⟩; have HO224 := qa (Kd.R_lower (Kd.R_new' ho0 (Kd.R_lt (kR HO221))) (below_size (bl))); replace HO221 := qa (Kd.R_elder' (kR HO221) (Kd.R_base ho0) hb); replace HB := qa (below_step (bl) hb); obtain ⟨Ao6, co6, eo6⟩ := Kd.R_slice HO224.out; subst eo6))
 go_loopg [3, 10] k (fun kq v3 v10 w' => ∃ (x3_1 : List Int) (x10_1 : Int), v10 = .int .i64 x10_1 ∧ Aside0 (impl_unitary.l0 kq a0 x3_1 t222 (t222.length : Int) x10_1 = some r) ∧ Aside0 (kq ≤ k) ∧ Aside0 (Kd.R (Kd.int .i64) 3 w' w.heap.size (fun k_ => some k_ ≠ ((.slice Ao6 t222.length co6) : Value).ownBlock) v3 x3_1) ∧ Aside0 (Kd.R (Kd.int .i64) 3 w' w.heap.size (fun k_ => some k_ ≠ (v3 : Value).ownBlock) (.slice Ao6 t222.length co6) t222) ∧ Aside0 (Below w.heap.size w w'))
 case atStart => exact ⟨(y219), (0), (sd), H', ⟨Nat.le_refl _⟩, ⟨by (with_reducible repeat (first | apply Kd.R_alloc | apply Kd.R_drewN | apply Kd.R_drew)); exact Kd.R_mono HO221.out (fun _ hk => hk.2)⟩, ⟨by (with_reducible repeat (first | apply Kd.R_alloc | apply Kd.R_drewN | apply Kd.R_drew)); exact Kd.R_mono HO224.out (fun _ hk => hk.2)⟩, ⟨bl⟩⟩
 case round =>
  clear H'; obtain ⟨x3_1, x10_1, rfl, HA, HK1, HO_3, HO_8, HB⟩ := hrel
  cases gk with
  | zero => exact absurd HA.out (by simp [impl_unitary.l0])
  | succ k1 =>
   have H := HA.out; clear HA; simp only [impl_unitary.l0] at H; replace H := qe H; obtain ⟨c7b0, H⟩ | ⟨c7b0, H⟩ := H
   ·replace H := qd H; obtain ⟨c8b0, H⟩ := H; replace H := qd H; obtain ⟨c9b0, H⟩ := H
    by_cases c10 : (rd t222 x10_1) = 0
    ·rw [if_pos c10] at H; exact absurd H (by simp)
    ·rw [if_neg c10] at H; have c10b0 : ((rd t222 x10_1) == 0) = false := beq_eq_false_iff_ne.mpr c10; have c10b1 : ((rd t222 x10_1) != 0) = true := bne_iff_ne.mpr c10; replace H := qb H; obtain ⟨t226, A11, H⟩ := H; replace H := qq H; obtain ⟨c12b0, c12b1, H⟩ | ⟨c12, c12b0, c12b1, H⟩ := H
     ·replace H := qn H; obtain ⟨c13, H⟩ := H; have LMc13 := qa c13; clear c13; obtain ⟨y227, hy_⟩ : ∃ y_ : List Int, y_ = (x3_1 ++ [rd t222 x10_1]) := ⟨_, rfl⟩; replace H : (impl_unitary.l0 k1 a0 y227 t222 (t222.length : Int) (wrap64 (x10_1 + 1))) = some r := yh; have Ny227 := qa hy_; clear hy_; have H' := qa H; clear H; have p225 : 0 ≤ (x10_1 : Int) := qo; have q225 : x10_1 < (t222.length : Int) := qo; obtain ⟨ad225, e225, hx225_0⟩ := Kd.at_int (Kd.R_reads' HO_8.out).2.2 x10_1 p225 q225; cases e225; replace p225 := eq_true p225; replace q225 := eq_true q225
      go_wp2_with (first | ((with_reducible refine gate_callee (f := 82) rfl ?_); refine gol (some 18) Try.func82 #[.int .i64 (rd t222 x10_1), .int .i64 (wrap64 (Int.tdiv a0 (rd t222 x10_1)))] ?_; (with_reducible refine (impl_gcd.calls k1 (rd t222 x10_1) (wrap64 (Int.tdiv a0 (rd t222 x10_1))) t226 _ A11.out).mono ?_); rintro e w' ⟨rfl, ⟨nd, rfl⟩⟩; refine ⟨_, rfl, ?_⟩) | ((with_reducible refine gate_builtin (b := .append) (xs := #[.tmp 20, .tmp 22]) rfl ?_); at_builtin; refine Kd.R_append (Kd.int .i64) (w0 := w) w.heap.size rfl (.tmp 20) (.tmp 22) 23 3 (.int .i64 0) 8 rfl Try.underlying23 info3 rfl (by decide) (by omega) u3 x3_1 (rd t222 x10_1) [.int .i64 (rd t222 x10_1)] (fun k_ => some k_ ≠ (.slice (some ad225) t222.length co6 : Value).ownBlock) (fun _ => False) rfl rfl ?aP (fun _ hk => hk.elim) ?aF ?aO ?aB ?aS ?aL ?_; (case aP => exact rfl); (case aB => exact (bl)); (case aF => exact (fun k_ hk => Kd.fresh' (Kd.R_lt (kR HO_8)) k_ hk)); (case aO => exact (kR HO_3)); (case aS => exact (below_size (bl))); (case aL => have := LMc13.out; omega); intro v228 w14 ho hb hg hat; rw [← Ny227.out] at ho; replace HO_8 := qa (Kd.R_after (ok := (fun _ => True)) (by (with_reducible repeat (first | apply Kd.R_alloc | apply Kd.R_drewN | apply Kd.R_drew)); exact Kd.R_mono HO_8.out (fun _ hk => ⟨trivial, hk⟩)) hg hat); replace HB := qa (hb); have HO229 := qa (ho); clear HO_3; clear ho hb hg hat))
      go_roundg k1
      case measure => have := HK1.out; omega
      case rel => exact ⟨(y227), (wrap64 (x10_1 + 1)), (sd), H', ⟨by have := HK1.out; omega⟩, ⟨kR HO229⟩, ⟨by (with_reducible repeat (first | apply Kd.R_alloc | apply Kd.R_drewN | apply Kd.R_drew)); exact Kd.R_mono HO_8.out (fun _ hk => hk.2)⟩, ⟨bl⟩⟩
     ·have H' := qa H; clear H; have p225 : 0 ≤ (x10_1 : Int) := qo; have q225 : x10_1 < (t222.length : Int) := qo; obtain ⟨ad225, e225, hx225_0⟩ := Kd.at_int (Kd.R_reads' HO_8.out).2.2 x10_1 p225 q225; cases e225; replace p225 := eq_true p225; replace q225 := eq_true q225
      go_wp2_with (first | ((with_reducible refine gate_callee (f := 82) rfl ?_); refine gol (some 18) Try.func82 #[.int .i64 (rd t222 x10_1), .int .i64 (wrap64 (Int.tdiv a0 (rd t222 x10_1)))] ?_; (with_reducible refine (impl_gcd.calls k1 (rd t222 x10_1) (wrap64 (Int.tdiv a0 (rd t222 x10_1))) t226 _ A11.out).mono ?_); rintro e w' ⟨rfl, ⟨nd, rfl⟩⟩; refine ⟨_, rfl, ?_⟩))
      go_roundg k1
      case measure => have := HK1.out; omega
      case rel => exact ⟨(x3_1), (wrap64 (x10_1 + 1)), (sd), H', ⟨by have := HK1.out; omega⟩, ⟨kR HO_3⟩, ⟨kR HO_8⟩, ⟨bl⟩⟩
   ·obtain rfl := Option.some.inj H; go_wp2; go_ret; exact ⟨_, er, by (with_reducible repeat (first | apply Kd.R_alloc | apply Kd.R_drewN | apply Kd.R_drew)); exact Kd.R_mono HO_3.out (fun _ hk => trivial), bl⟩

-- CALLS: impl.unitary impl.small
/-! ### impl_UnitaryTimes: by hand -/
def impl_UnitaryTimes_1.l0 : Nat → Int → List Int → List Int → List Int → Int → Int → Option Int
 | 0, _, _, _, _, _, _ => none
 | k + 1, n, f, g, ds, x5, x11 => if x11 < (ds.length : Int) then (if 0 ≤ x11 then (if (rd ds x11) = 0 then (none) else (if 0 ≤ (wrap64 ((rd ds x11) - 1)) then (if (wrap64 ((rd ds x11) - 1)) < (f.length : Int) then (if 0 ≤ (wrap64 ((wrap64 (Int.tdiv n (rd ds x11))) - 1)) then (if (wrap64 ((wrap64 (Int.tdiv n (rd ds x11))) - 1)) < (g.length : Int) then (impl_UnitaryTimes_1.l0 k n f g ds (wrap64 (x5 + (wrap64 ((rd f (wrap64 ((rd ds x11) - 1))) * (rd g (wrap64 ((wrap64 (Int.tdiv n (rd ds x11))) - 1))))))) (wrap64 (x11 + 1))) else (none)) else (none)) else (none)) else (none))) else (none)) else (some x5)
def impl_UnitaryTimes_1.f (k : Nat) (n : Int) (f g : List Int) : Option Int := (impl_unitary.f k n).bind fun ds => impl_UnitaryTimes_1.l0 k n f g ds 0 0
theorem impl_UnitaryTimes_1.mono_l : ∀ k, ∀ y0 y1 y2 y3 y4 y5, LeO (impl_UnitaryTimes_1.l0 k y0 y1 y2 y3 y4 y5) (impl_UnitaryTimes_1.l0 (k + 1) y0 y1 y2 y3 y4 y5)
 | 0 => fun _ _ _ _ _ _ r h => by simp [impl_UnitaryTimes_1.l0] at h
 | k + 1 => by
  have ih := impl_UnitaryTimes_1.mono_l k; intro y0 y1 y2 y3 y4 y5; unfold impl_UnitaryTimes_1.l0; exact LeO.ite (LeO.ite (LeO.ite (LeO.refl _) (LeO.ite (LeO.ite (LeO.ite (LeO.ite (ih _ _ _ _ _ _) (LeO.refl _)) (LeO.refl _)) (LeO.refl _)) (LeO.refl _))) (LeO.refl _)) (LeO.refl _)
theorem impl_UnitaryTimes_1.mono : ∀ n f g k, LeO (impl_UnitaryTimes_1.f k n f g) (impl_UnitaryTimes_1.f (k + 1) n f g) := by
 intro n f g k; unfold impl_UnitaryTimes_1.f; exact LeO.bind (impl_unitary.mono _ _) (fun _ => impl_UnitaryTimes_1.mono_l k _ _ _ _ _ _)
set_option maxHeartbeats 8000000 in
set_option maxRecDepth 100000 in
theorem impl_UnitaryTimes_1.calls (k : Nat) (n : Int) (l1 l2 : List Int) (r : Int) (B1 B2 : Nat) (A1 A2 : Option Addr) (c1 c2 : Nat) (w : World) (hcap1 : w.cell? ⟨B1, 0, none⟩ = some (.slice A1 l1.length c1)) (hcap2 : w.cell? ⟨B2, 0, none⟩ = some (.slice A2 l2.length c2)) (hr1 : Kd.C (Kd.int .i64) w A1 l1.length l1) (hr2 : Kd.C (Kd.int .i64) w A2 l2.length l2) (h : impl_UnitaryTimes_1.f k n l1 l2 = some r) :
  Calls Try.prog 71 #[.int .i64 n, .pointer (some ⟨B1, 0, none⟩), .pointer (some ⟨B2, 0, none⟩)] w fun e w' => e = .returned (.int .i64 r) ∧ Below w.heap.size w w' := by
 have HB := qa (Below.refl w.heap.size w); have H := h; clear h; unfold impl_UnitaryTimes_1.f at H; replace H := qb H; obtain ⟨t136, A4, H⟩ := H; have H' := qa H; clear H; have CAP1 := qa hcap1; have CAP2 := qa hcap2; have HR1 := qa hr1; have HR2 := qa hr2; clear hcap1 hcap2 hr1 hr2
 go_enter Try.func71, Try.ntmps71
 go_wp2_with (first | ((with_reducible refine gate_callee (f := 72) rfl ?_); refine gol (some 9) Try.func72 #[.int .i64 n] ?_; (with_reducible refine (impl_unitary.calls k n t136 _ A4.out).mono ?_); rintro e w5 ⟨v137, rfl, ho0, hb⟩; refine ⟨_, rfl, ?_⟩; have HO138 := qa (Kd.R_lower ho0 (below_size (bl))); replace HB := qa (below_step (bl) hb); obtain ⟨Ao6, co6, eo6⟩ := Kd.R_slice HO138.out; subst eo6))
 go_loopg [5, 11] k (fun kq v5 v11 w' => ∃ (x5_1 : Int) (x11_1 : Int), v5 = .int .i64 x5_1 ∧ v11 = .int .i64 x11_1 ∧ Aside0 (impl_UnitaryTimes_1.l0 kq n l1 l2 t136 x5_1 x11_1 = some r) ∧ Aside0 (kq ≤ k) ∧ Aside0 (Kd.R (Kd.int .i64) 3 w' w.heap.size (fun _ => True) (.slice Ao6 t136.length co6) t136) ∧ Aside0 (Below w.heap.size w w'))
 case atStart => exact ⟨(0), (0), (sd), (sd), H', ⟨Nat.le_refl _⟩, ⟨kR HO138⟩, ⟨bl⟩⟩
 case round =>
  clear H'; obtain ⟨x5_1, x11_1, rfl, rfl, HA, HK1, HO_11, HB⟩ := hrel
  cases gk with
  | zero => exact absurd HA.out (by simp [impl_UnitaryTimes_1.l0])
  | succ k1 =>
   have H := HA.out; clear HA; simp only [impl_UnitaryTimes_1.l0] at H
   by_cases c7 : x11_1 < (t136.length : Int)
   ·rw [if_pos c7] at H; have c7b0 : decide (x11_1 < (t136.length : Int)) = true := decide_eq_true c7; replace H := qn H; obtain ⟨c8, H⟩ := H
    by_cases c10 : (rd t136 x11_1) = 0
    ·rw [if_pos c10] at H; exact absurd H (by simp)
    ·rw [if_neg c10] at H; have c10b0 : ((rd t136 x11_1) == 0) = false := beq_eq_false_iff_ne.mpr c10; have c10b1 : ((rd t136 x11_1) != 0) = true := bne_iff_ne.mpr c10
     split at H
     ·rename_i d1
      split at H
      ·rename_i d2
       split at H
       ·rename_i d3
        split at H
        ·rename_i d4
         have H' := qa H; clear H; obtain ⟨ad139, e139, hx139_0⟩ := Kd.at_int (Kd.R_reads' HO_11.out).2.2 x11_1 c8 c7; cases e139; obtain ⟨ad1, e1, hx1⟩ := Kd.at_int (Kd.C_below HR1.out HB.out) _ d1 d2; obtain ⟨ad2, e2, hx2⟩ := Kd.at_int (Kd.C_below HR2.out HB.out) _ d3 d4; (have hcr1 : wr.cell? ⟨B1, 0, none⟩ = some (.slice (some ad1) l1.length c1) := by rw [← e1]; exact (HB.out.cell (World.block_lt_of_cell? w _ CAP1.out)).trans CAP1.out); (have hcr2 : wr.cell? ⟨B2, 0, none⟩ = some (.slice (some ad2) l2.length c2) := by rw [← e2]; exact (HB.out.cell (World.block_lt_of_cell? w _ CAP2.out)).trans CAP2.out); clear e1 e2; simp only [← i64_w] at hx1 hx2 d1 d2 d3 d4; replace c7 := eq_true c7; replace c8 := eq_true c8; replace d1 := eq_true d1; replace d2 := eq_true d2; replace d3 := eq_true d3; replace d4 := eq_true d4
         go_wp2_with fail
         go_quiet (fail)
         go_wp2
         go_roundg k1
         case measure => have := HK1.out; omega
         case rel => exact ⟨(wrap64 (x5_1 + (wrap64 ((rd l1 (wrap64 ((rd t136 x11_1) - 1))) * (rd l2 (wrap64 ((wrap64 (Int.tdiv n (rd t136 x11_1))) - 1))))))), (wrap64 (x11_1 + 1)), z62_, z62_, H', ⟨by have := HK1.out; omega⟩, ⟨kR HO_11⟩, ⟨bl⟩⟩
        ·exact absurd H (by simp)
       ·exact absurd H (by simp)
      ·exact absurd H (by simp)
     ·exact absurd H (by simp)
   ·rw [if_neg c7] at H; have c7b0 : decide (x11_1 < (t136.length : Int)) = false := decide_eq_false c7; clear c7; obtain rfl := Option.some.inj H; go_wp2; go_ret; exact ⟨sd, bl⟩
def impl_rowBy_UnitaryTimes.l0 : Nat → List Int → List Int → List Int → Int → Option (List Int)
 | 0, _, _, _, _ => none
 | k + 1, l0, l1, x3, x8 => if x8 < 24 then (if 0 ≤ x8 then ((impl_UnitaryTimes_1.f k (wrap64 (x8 + 1)) l0 l1).bind fun t => (if x8 < (x3.length : Int) then (impl_rowBy_UnitaryTimes.l0 k l0 l1 (x3.set (x8 : Int).toNat t) (wrap64 (x8 + 1))) else (none))) else (none)) else (some x3)
theorem impl_rowBy_UnitaryTimes.mono_l : ∀ k, ∀ z0 z1 y0 y1, LeO (impl_rowBy_UnitaryTimes.l0 k z0 z1 y0 y1) (impl_rowBy_UnitaryTimes.l0 (k + 1) z0 z1 y0 y1)
 | 0 => fun _ _ _ _ r h => by simp [impl_rowBy_UnitaryTimes.l0] at h
 | k + 1 => by
  have ih := impl_rowBy_UnitaryTimes.mono_l k; intro z0 z1 y0 y1; unfold impl_rowBy_UnitaryTimes.l0; refine LeO.ite (LeO.ite (LeO.bind (impl_UnitaryTimes_1.mono _ _ _ _) (fun _ => LeO.ite (ih _ _ _ _) (LeO.refl _))) (LeO.refl _)) (LeO.refl _)
theorem impl_rowBy_UnitaryTimes.len : ∀ k z0 z1 (x : List Int) i r, impl_rowBy_UnitaryTimes.l0 k z0 z1 x i = some r → r.length = x.length
 | 0, _, _, _, _, _, h => by simp [impl_rowBy_UnitaryTimes.l0] at h
 | k + 1, z0, z1, x, i, r, h => by
  simp only [impl_rowBy_UnitaryTimes.l0] at h
  split at h
  ·split at h
   ·obtain ⟨t, _, h⟩ := Option.bind_eq_some_iff.mp h; replace h : (if i < (x.length : Int) then (impl_rowBy_UnitaryTimes.l0 k z0 z1 (x.set (i : Int).toNat t) (wrap64 (i + 1))) else (none)) = some r := h
    split at h
    ·rw [impl_rowBy_UnitaryTimes.len k _ _ _ _ _ h, List.length_set]
    ·simp at h
   ·simp at h
  ·obtain rfl := Option.some.inj h
   rfl
set_option maxHeartbeats 8000000 in
set_option maxRecDepth 100000 in
theorem impl_rowBy_UnitaryTimes.calls (k : Nat) (l0 : List Int) (l1 : List Int) (r : List Int) (B1 B2 : Nat) (A0 A1 : Option Addr) (c0 c1 : Nat) (w : World) (h0 : w.cell? ⟨B1, 0, none⟩ = some (.slice A0 l0.length c0)) (h1 : w.cell? ⟨B2, 0, none⟩ = some (.slice A1 l1.length c1)) (h2 : Kd.C (Kd.int .i64) w A0 l0.length l0) (h3 : Kd.C (Kd.int .i64) w A1 l1.length l1) (H : impl_rowBy_UnitaryTimes.l0 k l0 l1 (List.replicate (24 : Int).toNat 0) 0 = some r) :
  Calls Try.prog 47 #[.func (.func 71) #[] #[.pointer (some ⟨B1, 0, none⟩), .pointer (some ⟨B2, 0, none⟩)]] w fun e w' => ∃ v0_ : Value, e = .returned (v0_) ∧ Kd.R (Kd.int .i64) 3 w' w.heap.size (fun _ => True) v0_ r ∧ Below w.heap.size w w' := by
 have HH0 := qa h0; have HH1 := qa h1; have HH2 := qa h2; have HH3 := qa h3; clear h0 h1 h2 h3; have HB := qa (Below.refl w.heap.size w); have H' := qa H; clear H
 go_enter Try.func47, Try.ntmps47
 go_wp2_with (first | ((with_reducible refine gate_dst (N := 5) rfl ?_); refine Kd.R_make (Kd.int .i64) _ 3 rfl (N := 5) rfl 23 _ _ rfl (24 : Int) rfl rfl Try.underlying23 (.int .i64 0) 8 info3 rfl (by decide) (by omega) 0 (ok := fun _ => True) (okp := fun _ => True) rfl (fun _ hk => hk) trivial (by decide) (by decide) (Below.refl _ _) (Nat.le_refl _) ?_; intro v113 w4 ho5 hb hg_ hnew_; clear hg_ hnew_; have HO114 := qa (Kd.R_lower ho5 (below_size (bl))); replace HB := qa (below_step (bl) hb); clear hb ho5; obtain ⟨go4, co4, eo4, gb4, gl4, cl4, HG4⟩ := Kd.R_form HO114.out (by simp); rw [List.length_replicate, show (24 : Int).toNat = 24 from rfl] at eo4; subst eo4; clear gb4 gl4 HG4))
 go_loopg [8] k (fun kq v8 w' => ∃ (x3_1 : List Int) (x8_1 : Int), v8 = .int .i64 x8_1 ∧ Aside0 (x3_1.length = 24) ∧ Aside0 (impl_rowBy_UnitaryTimes.l0 kq l0 l1 x3_1 x8_1 = some r) ∧ Aside0 (kq ≤ k) ∧ Aside0 (Kd.R (Kd.int .i64) 3 w' w.heap.size (fun _ => True) (.slice (some ⟨go4, 0, none⟩) 24 co4) x3_1) ∧ Aside0 (Below w.heap.size w w'))
 case atStart => exact ⟨_, (0), (sd), ⟨List.length_replicate ..⟩, H', ⟨Nat.le_refl _⟩, ⟨kR HO114⟩, ⟨bl⟩⟩
 case round =>
  clear H' HO114; obtain ⟨x3_1, x8_1, rfl, HL, HA, HK1, HO_3, HB⟩ := hrel
  cases gk with
  | zero => exact absurd HA.out (by simp [impl_rowBy_UnitaryTimes.l0])
  | succ k1 =>
   have H := HA.out; clear HA; simp only [impl_rowBy_UnitaryTimes.l0] at H
   by_cases c6 : x8_1 < 24
   ·rw [if_pos c6] at H; have c6b0 : decide (x8_1 < 24) = true := decide_eq_true c6; replace H := qn H; obtain ⟨c7, H⟩ := H; replace H := qb H; obtain ⟨t121, A8, H⟩ := H; (have q9' : x8_1 < (x3_1.length : Int) := by have := HL.out; omega); rw [if_pos q9'] at H; have H' := qa H; clear H; have c7b : decide (0 ≤ x8_1) = true := decide_eq_true c7; have C7 := qa c7; have C6 := qa c6; have Q9 := qa q9'; clear q9'; replace c7 := eq_true c7; replace c6 := eq_true c6
    go_wp2_with (first | (go_at_call 71; (with_reducible refine (impl_UnitaryTimes_1.calls k1 (wrap64 (x8_1 + 1)) l0 l1 t121 B1 B2 A0 A1 c0 c1 _ ((HB.out.cell (World.block_lt_of_cell? w _ HH0.out)).trans HH0.out) ((HB.out.cell (World.block_lt_of_cell? w _ HH1.out)).trans HH1.out) (Kd.C_below HH2.out HB.out) (Kd.C_below HH3.out HB.out) A8.out).mono ?_); rintro e w11 ⟨rfl, hb⟩; replace HO_3 := qa (Kd.R_below HO_3.out hb); replace HB := qa (below_step (bl) hb); clear hb; obtain ⟨hx9_0, hf9_0⟩ := Kd.R_celln 0 HO_3.out (x8_1 : Int) C7.out (by have := C6.out; omega); have GB9 := qa (Kd.R_base HO_3.out go4 rfl); have HP10 := Kd.R_putg HO_3.out (x8_1 : Int) t121) | ((with_reducible refine gate_store (t := 3) (p := 17) rfl ?_); refine store_event (t := 3) (p := 17) (v := ?vo_w11) (w1 := (w11.setCell ⟨go4, (x8_1 : Int).toNat, none⟩ (.int .i64 t121))) ?hg ?ho ?hn ?hr ?_; (case ho => rfl); (case hg => rfl); (case hn => rfl); (case hr => exact gr); intro w13 hw; have hp_ : Kd.R (Kd.int .i64) 3 w13 w.heap.size (fun _ => True) (.slice (some ⟨go4, 0, none⟩) 24 co4) (x3_1.set (x8_1 : Int).toNat t121) := (by rw [hw]; exact HP10.1); clear HP10; replace HO_3 := qa (hp_); replace HB := qa ((by rw [hw]; exact below_set (HB.out) GB9.out : Below w.heap.size w w13)); clear hw hp_))
    go_roundg k1
    case measure => have := HK1.out; omega
    case rel => exact ⟨_, (wrap64 (x8_1 + 1)), (sd), ⟨by rw [List.length_set]; exact HL.out⟩, H', ⟨by have := HK1.out; omega⟩, ⟨kR HO_3⟩, ⟨bl⟩⟩
   ·rw [if_neg c6] at H; have c6b0 : decide (x8_1 < 24) = false := decide_eq_false c6; clear c6; obtain rfl := Option.some.inj H; go_wp2; go_ret; exact ⟨_, sd, kR HO_3, bl⟩
def impl_UnitaryTimes.f (k : Nat) (l0 l1 : List Int) : Option (List Int × Bool) := (impl_small.f k l0).bind fun s => (if s = true then ((impl_small.f k l1).bind fun s2 => (if s2 = true then ((impl_rowBy_UnitaryTimes.l0 k l0 l1 (List.replicate (24 : Int).toNat 0) 0).bind fun t => some (t, true)) else some (([] : List Int), false))) else some (([] : List Int), false))
set_option maxHeartbeats 8000000 in
set_option maxRecDepth 100000 in
theorem impl_UnitaryTimes.calls (k : Nat) (A0 : Option Addr) (c0 : Nat) (l0 : List Int) (A1 : Option Addr) (c1 : Nat) (l1 : List Int) (r1 : List Int) (r2 : Bool) (w : World) (hr0 : Kd.C (Kd.int .i64) w A0 l0.length l0) (hc0 : l0.length ≤ c0) (hr1 : Kd.C (Kd.int .i64) w A1 l1.length l1) (hc1 : l1.length ≤ c1) (h : impl_UnitaryTimes.f k l0 l1 = some (r1, r2)) :
  Calls Try.prog 35 #[.slice A0 l0.length c0, .slice A1 l1.length c1] w fun e w' => ∃ v0_ : Value, e = .returned (.tuple #[v0_, .bool r2]) ∧ Kd.R (Kd.int .i64) 3 w' w.heap.size (fun _ => True) v0_ r1 ∧ Below w.heap.size w w' := by
 (have hmf : ∀ (fn : Fn) (first cap : Array Value) (w : World), (Instr.makeFunc fn first cap).run Try.prog w = .ok (.func fn first cap) w := fun _ _ _ _ => rfl); have HR0 := qa hr0; have HC0 := qa hc0; have HR1 := qa hr1; have HC1 := qa hc1; clear hr0 hc0 hr1 hc1; have H := h; clear h; unfold impl_UnitaryTimes.f at H; replace H := Option.bind_eq_some_iff.mp H; obtain ⟨s, S00, H⟩ := H; have S0 := qa S00; clear S00
 cases s with
 | false =>
  have H2 : (([] : List Int), false) = (r1, r2) := Option.some.inj H; obtain ⟨rfl, rfl⟩ := Prod.mk.inj H2; clear H H2
  go_enter Try.func35, Try.ntmps35
  go_wp2_with (first | (go_at_call 46; (with_reducible refine (impl_small.calls k A0 c0 l0 false _ ?s0 HC0.out S0.out).mono ?_); (case s0 => exact cx HR0.out); rintro e w' ⟨rfl, ⟨nd0, rfl⟩⟩))
  go_ret2; exact ⟨_, sd, Kd.R_nil _ _ _ _ _, z20_⟩
 | true =>
  replace H : ((impl_small.f k l1).bind fun s2 => (if s2 = true then ((impl_rowBy_UnitaryTimes.l0 k l0 l1 (List.replicate (24 : Int).toNat 0) 0).bind fun t => some (t, true)) else some (([] : List Int), false))) = some (r1, r2) := H; replace H := Option.bind_eq_some_iff.mp H; obtain ⟨s2, S10, H⟩ := H; have S1 := qa S10; clear S10
  cases s2 with
  | false =>
   have H2 : (([] : List Int), false) = (r1, r2) := Option.some.inj H; obtain ⟨rfl, rfl⟩ := Prod.mk.inj H2; clear H H2
   go_enter Try.func35, Try.ntmps35
   go_wp2_with (first | (go_at_call 46; (with_reducible refine (impl_small.calls k A0 c0 l0 true _ ?s0 HC0.out S0.out).mono ?_); (case s0 => exact cx HR0.out); rintro e w' ⟨rfl, ⟨nd0, rfl⟩⟩) | (go_at_call 46; (with_reducible refine (impl_small.calls k A1 c1 l1 false _ ?s1 HC1.out S1.out).mono ?_); (case s1 => exact cx HR1.out); rintro e w' ⟨rfl, ⟨nd1, rfl⟩⟩))
   go_ret2; exact ⟨_, sd, Kd.R_nil _ _ _ _ _, z20_⟩
  | true =>
   replace H : ((impl_rowBy_UnitaryTimes.l0 k l0 l1 (List.replicate (24 : Int).toNat 0) 0).bind fun t => some (t, true)) = some (r1, r2) := H; replace H := Option.bind_eq_some_iff.mp H; obtain ⟨t, T0, H⟩ := H; obtain ⟨rfl, rfl⟩ := Prod.mk.inj (Option.some.inj H); clear H; have H' := qa T0; clear T0
   go_enter Try.func35, Try.ntmps35
   go_wp2_with (first | (go_at_call 46; (with_reducible refine (impl_small.calls k A0 c0 l0 true _ ?s0 HC0.out S0.out).mono ?_); (case s0 => exact cx HR0.out); rintro e w' ⟨rfl, ⟨nd0, rfl⟩⟩) | (go_at_call 46; (with_reducible refine (impl_small.calls k A1 c1 l1 true _ ?s1 HC1.out S1.out).mono ?_); (case s1 => exact cx HR1.out); rintro e w' ⟨rfl, ⟨nd1, rfl⟩⟩) | (go_at_call 47; (with_reducible refine (impl_rowBy_UnitaryTimes.calls k l0 l1 t _ _ A0 A1 c0 c1 _ ?c1 ?c2 ?c3 ?c4 H'.out).mono ?_)))
   case c1 => first | (simp [World.cell?_alloc_at]; done) | (simp [World.cell?_alloc_at, World.cell?_alloc_lt]; done) | (simp; done)
   case c2 => first | (simp [World.cell?_alloc_at]; done) | (simp; done)
   case c3 => exact cx HR0.out
   case c4 => exact cx HR1.out
   rintro e w6 ⟨v6, rfl, ho, hb⟩; have HO := qa (Kd.R_lower ho (below_size z18_)); have HB := qa (below_step z18_ hb); clear ho hb H'; go_wp2; go_ret2; exact ⟨_, sd, z54_, bl⟩

/-! ### impl_UnitOk: function 83 -/
def impl_UnitOk.f (k : Nat) (l0 : List Int) : Option (Bool) := (impl_RowOk.f k l0).bind fun t230 => (if t230 = true then (if 0 < (l0.length : Int) then (if (rd l0 0) = 1 then (some true) else (some ((rd l0 0) == (-1)))) else (none)) else (some false))
set_option maxHeartbeats 8000000 in
set_option maxRecDepth 100000 in
theorem impl_UnitOk.calls (k : Nat) (A0 : Option Addr) (c0 : Nat) (l0 : List Int) (r : Bool) (w : World) (hr0 : Kd.C (Kd.int .i64) w A0 l0.length l0) (hc0 : l0.length ≤ c0) (h : impl_UnitOk.f k l0 = some r) :
  Calls Try.prog 83 #[.slice A0 l0.length c0] w fun e w' => e = .returned (.bool r) ∧ Drawn0 w w' := by
 have HR0 := qa hr0; have HC0 := qa hc0; clear hr0 hc0; have H : ((impl_RowOk.f k l0).bind fun t230 => (if t230 = true then (if 0 < (l0.length : Int) then (if (rd l0 0) = 1 then (some true) else (some ((rd l0 0) == (-1)))) else (none)) else (some false))) = some r := h; clear h; replace H := qb H; obtain ⟨t230, A2, H⟩ := H
 by_cases c3 : t230 = true
 ·subst c3; replace H := qt H; replace H := qn H; obtain ⟨c4, H⟩ := H; have c4b0 : decide (0 < (l0.length : Int)) = true := decide_eq_true c4; have c4b1 : decide (0 < l0.length) = true := decide_eq_true (by omega); clear c4; replace H := qq H; obtain ⟨c5b0, c5b1, H⟩ | ⟨c5, c5b0, c5b1, H⟩ := H
  ·obtain rfl := Option.some.inj H
   go_enter Try.func83, Try.ntmps83
   go_wp2_with (first | ((with_reducible refine gate_callee (f := 44) rfl ?_); refine gol (some 4) Try.func44 #[.slice A0 l0.length c0] ?_; (with_reducible refine (impl_RowOk.calls k _ _ l0 true _ ?side1 ?side2 A2.out).mono ?_); (case side1 => exact cx HR0.out); (case side2 => exact HC0.out); rintro e w' ⟨rfl, ⟨nd, rfl⟩⟩; refine ⟨_, rfl, ?_⟩; have p231 : 0 ≤ (0 : Int) := (by omega); have q231 : 0 < (l0.length : Int) := qo; obtain ⟨ad231, e231, hx231_0⟩ := Kd.at_int HR0.out 0 p231 q231; cases e231; have qi231 : (0 < l0.length) = True := eq_true (by omega); (try rw [show ((0 : Int)).toNat = 0 from rfl] at hx231_0); (try rw [Addr.add_zero'] at hx231_0); replace p231 := eq_true p231; replace q231 := eq_true q231))
   go_ret; exact ⟨sd, dr⟩
  ·obtain rfl := Option.some.inj H
   go_enter Try.func83, Try.ntmps83
   go_wp2_with (first | ((with_reducible refine gate_callee (f := 44) rfl ?_); refine gol (some 4) Try.func44 #[.slice A0 l0.length c0] ?_; (with_reducible refine (impl_RowOk.calls k _ _ l0 true _ ?side1 ?side2 A2.out).mono ?_); (case side1 => exact cx HR0.out); (case side2 => exact HC0.out); rintro e w' ⟨rfl, ⟨nd, rfl⟩⟩; refine ⟨_, rfl, ?_⟩; have p231 : 0 ≤ (0 : Int) := (by omega); have q231 : 0 < (l0.length : Int) := qo; obtain ⟨ad231, e231, hx231_0⟩ := Kd.at_int HR0.out 0 p231 q231; cases e231; have qi231 : (0 < l0.length) = True := eq_true (by omega); (try rw [show ((0 : Int)).toNat = 0 from rfl] at hx231_0); (try rw [Addr.add_zero'] at hx231_0); replace p231 := eq_true p231; replace q231 := eq_true q231; have p232 : 0 ≤ (0 : Int) := (by omega); have q232 : 0 < (l0.length : Int) := qo; obtain ⟨ad232, e232, hx232_0⟩ := Kd.at_int HR0.out 0 p232 q232; obtain rfl : ad231 = ad232 := (by injection e232); have qi232 : (0 < l0.length) = True := eq_true (by omega); (try rw [show ((0 : Int)).toNat = 0 from rfl] at hx232_0); (try rw [Addr.add_zero'] at hx232_0); replace p232 := eq_true p232; replace q232 := eq_true q232))
   go_ret; exact ⟨sd, dr⟩
 ·replace c3 := Bool.eq_false_iff.mpr c3; subst c3; replace H := qf H; obtain rfl := Option.some.inj H
  go_enter Try.func83, Try.ntmps83
  go_wp2_with (first | ((with_reducible refine gate_callee (f := 44) rfl ?_); refine gol (some 4) Try.func44 #[.slice A0 l0.length c0] ?_; (with_reducible refine (impl_RowOk.calls k _ _ l0 false _ ?side1 ?side2 A2.out).mono ?_); (case side1 => exact cx HR0.out); (case side2 => exact HC0.out); rintro e w' ⟨rfl, ⟨nd, rfl⟩⟩; refine ⟨_, rfl, ?_⟩))
  go_ret; exact ⟨sd, dr⟩

end Go.Proofs.Ytmgjidgfhlclmaa.PFnExactDeskRun
