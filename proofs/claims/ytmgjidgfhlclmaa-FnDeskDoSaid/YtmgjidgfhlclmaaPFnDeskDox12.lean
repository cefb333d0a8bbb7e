-- Written for this claim by a program of this session (wip/myprint.sh), after the kit's print; some functions by hand
import Derived.Test.YtmgjidgfhlclmaaPFnDeskDox0
import Derived.Test.YtmgjidgfhlclmaaPFnDeskDox2
import Derived.Test.YtmgjidgfhlclmaaPFnDeskDox9
import Derived.Test.YtmgjidgfhlclmaaPFnDeskDox11
import Derived.Test.YtmgjidgfhlclmaaWPress
namespace Go.Proofs.Ytmgjidgfhlclmaa.PFnDeskDo
open Go.RowKit Go.Proofs.YtmgjidgfhlclmaaW.PrintWords Go.Proofs.YtmgjidgfhlclmaaW.PrintLast Go.Proofs.YtmgjidgfhlclmaaW.PrintMore
attribute [local go_sem] max2_int min2_int max_two min_two max_three min_three max_four min_four   -- for this text's walks alone
set_option linter.unusedVariables false
set_option linter.unusedSimpArgs false

/-! ### spec_DrawDeskDo: function 7 -/
def spec_DrawDeskDo.f (k : Nat) (l0 : List Int) : Option (List Int × (List (List Int)) × Int × Int × Int) := (spec_l20Open.f l0).bind fun bt387 => ((spec_l20Desk.f k bt387.1 bt387.2 12).bind fun bt390 => ((spec_l20Deed.f k bt387.1 bt390.2.2).bind fun bt398 => (some (bt390.1, bt390.2.1, bt398.1, bt398.2.1, bt398.2.2.1))))
set_option maxHeartbeats 8000000 in
set_option maxRecDepth 100000 in
theorem spec_DrawDeskDo.calls (k : Nat) (A0 : Option Addr) (c0 : Nat) (l0 : List Int) (r1 : List Int) (r2 : List (List Int)) (r3 : Int) (r4 : Int) (r5 : Int) (w : World) (hr0 : Kd.C (Kd.int .u8) w A0 l0.length l0) (hc0 : l0.length ≤ c0) (h : spec_DrawDeskDo.f k l0 = some (r1, r2, r3, r4, r5)) :
  Calls Try.prog 7 #[.slice A0 l0.length c0] w fun e w' => ∃ v0_ v1_ : Value, e = .returned (.tuple #[.agg #[v0_, v1_], .agg #[.int .i64 r3, .int .i64 r4, .int .i64 r5]]) ∧ Kd.Q (Kd.int .i64) 3 w' w.heap.size (fun _ => True) v0_ r1 ∧ Kd.Q (Kd.slice 3 (Kd.int .i64)) 23 w' w.heap.size (fun k_ => some k_ ≠ (v0_ : Value).ownBlock) v1_ r2 ∧ Below w.heap.size w w' := by
 have hu26 := Try.underlying26; have hu28 := Try.underlying28; have HR0 := qa hr0; have HC0 := qa hc0; clear hr0 hc0; have HB := qa (Below.refl w.heap.size w); have H : ((spec_l20Open.f l0).bind fun bt387 => ((spec_l20Desk.f k bt387.1 bt387.2 12).bind fun bt390 => ((spec_l20Deed.f k bt387.1 bt390.2.2).bind fun bt398 => (some (bt390.1, bt390.2.1, bt398.1, bt398.2.1, bt398.2.2.1))))) = some (r1, r2, r3, r4, r5) := h; clear h; replace H := qb H; obtain ⟨⟨t387, t388⟩, A2, H⟩ := H; (try dsimp only at H); replace H := qb H; obtain ⟨⟨t390, t393, t396⟩, A3, H⟩ := H; (try dsimp only at H); replace H := qb H; obtain ⟨⟨t398, t399, t400, t401⟩, A4, H⟩ := H; (try dsimp only at H); simp only [Option.some.injEq, Prod.mk.injEq] at H; obtain ⟨rfl, rfl, rfl, rfl, rfl⟩ := H
 go_enter Try.func7, Try.ntmps7
 try go_wp2_with (first | ((with_reducible refine gate_dst (N := 2) rfl ?_); refine box_event ?hg (N := 2) ?hd (cs := #[.slice none 0 0, .slice none 0 0]) (t := 26) ?hr ?_; (case hd => rfl); (case hg => rfl); (case hr => exact gr); intro gb385 hg w5 hbox hb; have BK385 := qa (hbox); have GW385 := qa ((by rw [hg]; exact (below_size (bl)) : w.heap.size ≤ gb385)); have GE385 := qa ((by rw [hg]; exact (below_size (bl)) : w.heap.size ≤ gb385)); replace HB := qa (below_step (bl) hb); clear hb hbox hg) | ((with_reducible refine gate_dst (N := 3) rfl ?_); refine box_event ?hg (N := 3) ?hd (cs := #[.int .i64 0, .int .i64 0, .int .i64 0]) (t := 28) ?hr ?_; (case hd => rfl); (case hg => rfl); (case hr => exact gr); intro gb386 hg w6 hbox hb; have BK386 := qa (hbox); have GW386 := qa ((by rw [hg]; exact (below_size (bl)) : w.heap.size ≤ gb386)); have GE386 := qa ((by rw [hg]; exact (below_size (bl)) : w.heap.size ≤ gb386)); replace HB := qa (below_step (bl) hb); have NB385_386 := qnl hg BK385; have NB386_385 := qng hg BK385; replace BK385 := qbb BK385 hb; clear hb hbox hg) | ((with_reducible refine gate_callee (f := 31) rfl ?_); refine goesL_ (some 7) rfl rfl Try.func31 (by kernel_rfl) rfl #[.slice A0 l0.length c0] rfl am ?_; (with_reducible refine (spec_l20Open.calls _ _ l0 t387 t388 w _ ?side1 ?side2 ?side3 A2.out).mono ?_); (case side1 => exact bl); (case side2 => exact HR0.out); (case side3 => exact HC0.out); rintro e w7 ⟨g389, rfl, hi, hb, hb2⟩; refine ⟨_, rfl, ?_⟩; replace HB := qa (hb); have HI389 := qa (hi); have NB389_385 := qa (IsS81.ne_blk hi (blk_below (g := gb385) (o := .cells #[.slice none 0 0, .slice none 0 0] 26 (0, 0)) (bk) hb2) (by decide)); have NB385_389 := qa (Ne.symm (IsS81.ne_blk hi (blk_below (g := gb385) (o := .cells #[.slice none 0 0, .slice none 0 0] 26 (0, 0)) (bk) hb2) (by decide))); replace BK385 := qa (blk_below (g := gb385) (o := .cells #[.slice none 0 0, .slice none 0 0] 26 (0, 0)) (bk) hb2); have NB389_386 := qa (IsS81.ne_blk hi (blk_below (g := gb386) (o := .cells #[.int .i64 0, .int .i64 0, .int .i64 0] 28 (0, 0)) (bk) hb2) (by decide)); have NB386_389 := qa (Ne.symm (IsS81.ne_blk hi (blk_below (g := gb386) (o := .cells #[.int .i64 0, .int .i64 0, .int .i64 0] 28 (0, 0)) (bk) hb2) (by decide))); replace BK386 := qa (blk_below (g := gb386) (o := .cells #[.int .i64 0, .int .i64 0, .int .i64 0] 28 (0, 0)) (bk) hb2)) | ((with_reducible refine gate_callee (f := 32) rfl ?_); refine goesL_ (some 9) rfl rfl Try.func32 (by kernel_rfl) rfl #[.pointer (some ⟨g389, 0, none⟩), .int .i64 12] rfl am ?_; (with_reducible refine (spec_l20Desk.calls k g389 t387 t388 12 t390 t393 t396 w _ ?side1 ?side2 A3.out).mono ?_); (case side1 => repeat (first | (with_reducible first | exact HI389.out | apply IsS81.alloc | apply IsS81.drewN | apply IsS81.drew | apply IsS81.set_1 | refine IsS81.far ?_ NB389_385.out _ | refine IsS81.far ?_ NB389_386.out _) | exact HI389.out)); (case side2 => repeat (first | (with_reducible first | exact HB.out | apply below_alloc | apply pw_below_drewN | apply below_drew1 | refine below_set ?_ (IsS81.ge HI389.out) | refine below_set ?_ GE385.out | refine below_set ?_ GE386.out) | exact HB.out)); rintro e w8 ⟨v391, v394, rfl, ho0, ho1, hi, hb, hk⟩; refine ⟨_, rfl, ?_⟩; replace BK385 := qkb BK385 hk NB385_389; replace BK386 := qkb BK386 hk NB386_389; have HO392 := qa (Kd.Q_lower ho0 (below_size z31_)); have HO395 := qa (Kd.Q_lower ho1 (below_size z31_)); replace HB := qa (hb); replace HI389 := qa (hi)) | ((with_reducible refine gate_dst (N := 5) rfl ?_); refine box_event ?hg (N := 5) ?hd (cs := #[.slice none 0 0, .slice none 0 0]) (t := 26) ?hr ?_; (case hd => rfl); (case hg => rfl); (case hr => exact gr); intro gb397 hg w9 hbox hb; replace HO392 := qa (Kd.Q_below (kQ HO392) hb); replace HO395 := qa (Kd.Q_below (kQ HO395) hb); have BK397 := qa (hbox); have GW397 := qa ((by rw [hg]; exact (below_size z31_) : w.heap.size ≤ gb397)); have GE397 := qa ((by rw [hg]; exact (below_size z31_) : w.heap.size ≤ gb397)); replace HB := qa (below_step z31_ hb); have NB385_397 := qnl hg BK385; have NB397_385 := qng hg BK385; replace BK385 := qbb BK385 hb; have NB386_397 := qnl hg BK386; have NB397_386 := qng hg BK386; replace BK386 := qbb BK386 hb; have NB389_397 := qa ((by rw [hg]; exact Nat.ne_of_lt (IsS81.lt (show IsS81 w _ g389 t387 t396 from by repeat (first | (with_reducible first | exact HI389.out | apply IsS81.alloc | apply IsS81.drewN | apply IsS81.drew | apply IsS81.set_1 | refine IsS81.far ?_ NB389_385.out _ | refine IsS81.far ?_ NB389_386.out _) | exact HI389.out))) : g389 ≠ gb397)); have NB397_389 := qa ((by rw [hg]; exact Nat.ne_of_gt (IsS81.lt (show IsS81 w _ g389 t387 t396 from by repeat (first | (with_reducible first | exact HI389.out | apply IsS81.alloc | apply IsS81.drewN | apply IsS81.drew | apply IsS81.set_1 | refine IsS81.far ?_ NB389_385.out _ | refine IsS81.far ?_ NB389_386.out _) | exact HI389.out))) : gb397 ≠ g389)); replace HI389 := qa (IsS81.below (by repeat (first | (with_reducible first | exact HI389.out | apply IsS81.alloc | apply IsS81.drewN | apply IsS81.drew | apply IsS81.set_1 | refine IsS81.far ?_ NB389_385.out _ | refine IsS81.far ?_ NB389_386.out _) | exact HI389.out)) hb); clear hb hbox hg; obtain ⟨Ao10, co10, eo10, _⟩ := Kd.Q_slice HO392.out; subst eo10; have hnb11 := NB397_385.out; have hnc11 := NB385_397.out; have hnb12 := NB397_386.out; have hnc12 := NB386_397.out; have hnb13 := NB397_389.out; have hnc13 := NB389_397.out; obtain ⟨hcz14_0, hcz14_1, hfz14_0, hfz14_1⟩ := qk2 BK397; obtain ⟨Ao15, co15, eo15, _⟩ := Kd.Q_slice HO395.out; subst eo15))
 have n0_ : Aside0 (Kd.Q (Kd.int .i64) 3 ((w9.setCell ⟨gb397, 0, none⟩ (.slice Ao10 t390.length co10)).setCell ⟨gb397, 1, none⟩ (.slice Ao15 t393.length co15)) w.heap.size (fun _ => True) (.slice Ao10 t390.length co10) t390) := ⟨by (with_reducible repeat (first | apply Kd.Q_alloc | apply Kd.Q_drewN | apply Kd.Q_drew)); exact Kd.Q_mono (Kd.Q_far (p := ⟨gb397, 1, none⟩) (Kd.Q_far (p := ⟨gb397, 0, none⟩) (Kd.Q_types HO392.out BK397.out (by decide)) (fun _ hk => hk.2) (.slice Ao10 t390.length co10)) (fun _ hk => hk.2) (.slice Ao15 t393.length co15)) (fun _ hk => trivial)⟩; have n1_ : Aside0 (Kd.Q (Kd.slice 3 (Kd.int .i64)) 23 ((w9.setCell ⟨gb397, 0, none⟩ (.slice Ao10 t390.length co10)).setCell ⟨gb397, 1, none⟩ (.slice Ao15 t393.length co15)) w.heap.size (fun k_ => some k_ ≠ (.slice Ao10 t390.length co10 : Value).ownBlock) (.slice Ao15 t393.length co15) t393) := ⟨by (with_reducible repeat (first | apply Kd.Q_alloc | apply Kd.Q_drewN | apply Kd.Q_drew)); exact Kd.Q_mono (Kd.Q_far (p := ⟨gb397, 1, none⟩) (Kd.Q_far (p := ⟨gb397, 0, none⟩) (Kd.Q_types HO395.out BK397.out (by decide)) (fun _ hk => hk.2) (.slice Ao10 t390.length co10)) (fun _ hk => hk.2) (.slice Ao15 t393.length co15)) (fun _ hk => hk.1)⟩; have n2_ : Aside0 (((w9.setCell ⟨gb397, 0, none⟩ (.slice Ao10 t390.length co10)).setCell ⟨gb397, 1, none⟩ (.slice Ao15 t393.length co15)).heap[gb385]? = some (.cells #[.slice none 0 0, .slice none 0 0] 26 (0, 0))) := ⟨kb BK385⟩; have n3_ : Aside0 (((w9.setCell ⟨gb397, 0, none⟩ (.slice Ao10 t390.length co10)).setCell ⟨gb397, 1, none⟩ (.slice Ao15 t393.length co15)).heap[gb386]? = some (.cells #[.int .i64 0, .int .i64 0, .int .i64 0] 28 (0, 0))) := ⟨kb BK386⟩; have n4_ : Aside0 (((w9.setCell ⟨gb397, 0, none⟩ (.slice Ao10 t390.length co10)).setCell ⟨gb397, 1, none⟩ (.slice Ao15 t393.length co15)).heap[gb397]? = some (.cells #[.slice Ao10 t390.length co10, .slice Ao15 t393.length co15] 26 (0, 0))) := ⟨by (with_reducible repeat (first | refine blk_drewN ?_ _ | refine blk_drew ?_ | refine blk_alloc ?_ _)); refine blk_put (cs := #[.slice Ao10 t390.length co10, .slice none 0 0]) ?_ 1 _ rfl; (with_reducible repeat (first | refine blk_drewN ?_ _ | refine blk_drew ?_ | refine blk_alloc ?_ _)); refine blk_put (cs := #[.slice none 0 0, .slice none 0 0]) ?_ 0 _ rfl; (with_reducible repeat (first | refine blk_drewN ?_ _ | refine blk_drew ?_ | refine blk_alloc ?_ _)); exact BK397.out⟩; have n5_ : Aside0 (IsS81 w ((w9.setCell ⟨gb397, 0, none⟩ (.slice Ao10 t390.length co10)).setCell ⟨gb397, 1, none⟩ (.slice Ao15 t393.length co15)) g389 t387 t396) := ⟨by repeat (first | (with_reducible first | exact HI389.out | apply IsS81.alloc | apply IsS81.drewN | apply IsS81.drew | apply IsS81.set_1 | refine IsS81.far ?_ NB389_385.out _ | refine IsS81.far ?_ NB389_386.out _ | refine IsS81.far ?_ NB389_397.out _) | exact HI389.out)⟩; have n6_ : Aside0 (Below w.heap.size w ((w9.setCell ⟨gb397, 0, none⟩ (.slice Ao10 t390.length co10)).setCell ⟨gb397, 1, none⟩ (.slice Ao15 t393.length co15))) := ⟨by repeat (first | (with_reducible first | exact HB.out | apply below_alloc | apply pw_below_drewN | apply below_drew1 | refine below_set ?_ (IsS81.ge HI389.out) | refine below_set ?_ GE385.out | refine below_set ?_ GE386.out | refine below_set ?_ GE397.out) | exact HB.out)⟩; (try clear HO392); (try clear HO395); (try clear BK385); (try clear BK386); (try clear BK397); (try clear HI389); (try clear HB); generalize ((w9.setCell ⟨gb397, 0, none⟩ (.slice Ao10 t390.length co10)).setCell ⟨gb397, 1, none⟩ (.slice Ao15 t393.length co15)) = w16 at n0_ n1_ n2_ n3_ n4_ n5_ n6_ ⊢; have HO392 := n0_; have HO395 := n1_; have BK385 := n2_; have BK386 := n3_; have BK397 := n4_; have HI389 := n5_; have HB := n6_; clear n0_ n1_ n2_ n3_ n4_ n5_ n6_; replace HO392 := qa (Kd.Q_drew HO392.out); replace HO395 := qa (Kd.Q_drew HO395.out); replace BK385 := qa (blk_drew BK385.out); replace BK386 := qa (blk_drew BK386.out); replace BK397 := qa (blk_drew BK397.out); replace HI389 := qa (IsS81.drew HI389.out); replace HB := qa (below_drew1 HB.out); refine start_ (n := 5) (S := fun w' => w'.cell? ⟨gb397, 0, none⟩ = some (.slice Ao10 t390.length co10) ∧ w'.cell? ⟨gb397, 1, none⟩ = some (.slice Ao15 t393.length co15)) (ds := []) #[false, false, false, false, false] (by kernel_rfl) rfl rfl ⟨(blk_cell BK397.out 0).trans rfl, (blk_cell BK397.out 1).trans rfl⟩ (fun hHeld => ?_); generalize w16.drew = w17 at HO392 HO395 BK385 BK386 BK397 HI389 HB hHeld ⊢; refine pure_ (i := 1) (N := some 11) (v := ?_) (a' := ?_) #[false, true, false, false, false] rfl rfl (by kernel_rfl) (fun _ _ _ h => h) (Or.inl ⟨by rfl, ?_⟩) ?_ ?_; rotate_left
 ·intro w'
  go_simp
  with_reducible rfl
 rotate_left
 ·simp only [Act.put, List.setIfInBounds_toArray, List.set_cons_zero, List.set_cons_succ, i64_w, i32_w]
  rfl
 refine take_ (i := 0) (N := some 10) (v := ?_) (a' := ?_) #[true, true, false, false, false] rfl rfl (by kernel_rfl) (fun _ _ _ h => h) (Or.inl ⟨by rfl, ?_⟩) hHeld ?_ ?_; rotate_left
 ·rintro w' ⟨s0, s1⟩
  go_simp
  with_reducible rfl
 rotate_left
 ·simp only [Act.put, List.setIfInBounds_toArray, List.set_cons_zero, List.set_cons_succ, i64_w, i32_w]
  rfl
 refine one_ (i := 2) (N := some 12) #[true, true, true, false, false] rfl rfl (by kernel_rfl) (by decide) (fun K hK => ?_); refine goes_ Try.func33 (by kernel_rfl) rfl #[.pointer (some ⟨g389, 0, none⟩)] (by rfl) rfl rfl am ?_
 with_reducible refine (spec_l20Deed.calls k g389 t387 t396 t398 t399 t400 t401 w _ ?side1 ?side2 A4.out).mono ?_
 (case side1 => repeat (first | (with_reducible first | exact HI389.out | apply IsS81.alloc | apply IsS81.drewN | apply IsS81.drew | apply IsS81.set_1 | refine IsS81.far ?_ NB389_385.out _ | refine IsS81.far ?_ NB389_386.out _ | refine IsS81.far ?_ NB389_397.out _) | exact HI389.out)); (case side2 => repeat (first | (with_reducible first | exact HB.out | apply below_alloc | apply pw_below_drewN | apply below_drew1 | refine below_set ?_ (IsS81.ge HI389.out) | refine below_set ?_ GE385.out | refine below_set ?_ GE386.out | refine below_set ?_ GE397.out) | exact HB.out)); rintro e w18 ⟨rfl, hi, hb, hk⟩; refine ⟨_, rfl, ?_⟩; replace BK385 := qkb BK385 hk NB385_389; replace BK386 := qkb BK386 hk NB386_389; replace HO392 := qa (Kd.Q_mono (Kd.Q_keep (IsS81.apartQ (show IsS81 w _ g389 t387 t396 from by repeat (first | (with_reducible first | exact HI389.out | apply IsS81.alloc | apply IsS81.drewN | apply IsS81.drew | apply IsS81.set_1 | refine IsS81.far ?_ NB389_385.out _ | refine IsS81.far ?_ NB389_386.out _ | refine IsS81.far ?_ NB389_397.out _) | exact HI389.out)) (kQ HO392) (by decide)) hk (fun _ h => h.2)) (fun _ h => h.1)); replace HO395 := qa (Kd.Q_mono (Kd.Q_keep (IsS81.apartQ (show IsS81 w _ g389 t387 t396 from by repeat (first | (with_reducible first | exact HI389.out | apply IsS81.alloc | apply IsS81.drewN | apply IsS81.drew | apply IsS81.set_1 | refine IsS81.far ?_ NB389_385.out _ | refine IsS81.far ?_ NB389_386.out _ | refine IsS81.far ?_ NB389_397.out _) | exact HI389.out)) (kQ HO395) (by decide)) hk (fun _ h => h.2)) (fun _ h => h.1)); replace BK397 := qkb BK397 hk NB397_389; replace HB := qa (hb); replace HI389 := qa (hi); (try clear hb); (try clear hb2); (try clear hk); (try clear hi); refine hK.out _ _ ⟨(blk_cell BK397.out 0).trans rfl, (blk_cell BK397.out 1).trans rfl⟩ (fun hHeld => ?_); clear hK K; refine norm_ (a' := ?_) ?_ ?_; rotate_left
 ·show Act.put _ (some 12) _ = _; simp only [Act.put, List.setIfInBounds_toArray, List.set_cons_zero, List.set_cons_succ, i64_w, i32_w]
  rfl
 refine one_ (i := 3) (N := none) #[true, true, true, true, false] rfl rfl (by kernel_rfl) (by decide) (fun K hK => ?_); have hs19 : w18.cell? ⟨gb385, 0, none⟩ = some (.slice none 0 0) := (blk_cell BK385.out 0).trans rfl; have hfs19 := blk_frozen BK385.out 0; have hns19_1 := NB386_385.out; have hns19_2 := NB397_385.out; have hms19_1 := NB385_386.out; have hms19_2 := NB385_397.out; have hs20 : w18.cell? ⟨gb385, 1, none⟩ = some (.slice none 0 0) := (blk_cell BK385.out 1).trans rfl; have hfs20 := blk_frozen BK385.out 1; have hns20_1 := NB386_385.out; have hns20_2 := NB397_385.out; have hms20_1 := NB385_386.out; have hms20_2 := NB385_397.out; refine skip_ (w1 := ?_) (by rfl) rfl ?_ ?_; rotate_left
 ·go_simp
  rfl
 refine hK.out _ _ ⟨((cell_far (p := ⟨gb385, _, none⟩) NB397_385.out _).trans (((cell_far (p := ⟨gb385, _, none⟩) NB397_385.out _).trans (hHeld.1)))), ((cell_far (p := ⟨gb385, _, none⟩) NB397_385.out _).trans (((cell_far (p := ⟨gb385, _, none⟩) NB397_385.out _).trans (hHeld.2))))⟩ (fun hHeld => ?_); clear hK K; refine one_ (i := 4) (N := none) #[true, true, true, true, true] rfl rfl (by kernel_rfl) (by decide) (fun K hK => ?_); have hs21 : w18.cell? ⟨gb386, 0, none⟩ = some (.int .i64 0) := (blk_cell BK386.out 0).trans rfl; have hfs21 := blk_frozen BK386.out 0; have hns21_0 := NB385_386.out; have hns21_2 := NB397_386.out; have hms21_0 := NB386_385.out; have hms21_2 := NB386_397.out; have hs22 : w18.cell? ⟨gb386, 1, none⟩ = some (.int .i64 0) := (blk_cell BK386.out 1).trans rfl; have hfs22 := blk_frozen BK386.out 1; have hns22_0 := NB385_386.out; have hns22_2 := NB397_386.out; have hms22_0 := NB386_385.out; have hms22_2 := NB386_397.out; have hs23 : w18.cell? ⟨gb386, 2, none⟩ = some (.int .i64 0) := (blk_cell BK386.out 2).trans rfl; have hfs23 := blk_frozen BK386.out 2; have hns23_0 := NB385_386.out; have hns23_2 := NB397_386.out; have hms23_0 := NB386_385.out; have hms23_2 := NB386_397.out; refine skip_ (w1 := ?_) (by rfl) rfl ?_ ?_; rotate_left
 ·go_simp
  rfl
 refine hK.out _ _ ⟨((cell_far (p := ⟨gb386, _, none⟩) NB397_386.out _).trans (((cell_far (p := ⟨gb386, _, none⟩) NB397_386.out _).trans (((cell_far (p := ⟨gb386, _, none⟩) NB397_386.out _).trans (hHeld.1)))))), ((cell_far (p := ⟨gb386, _, none⟩) NB397_386.out _).trans (((cell_far (p := ⟨gb386, _, none⟩) NB397_386.out _).trans (((cell_far (p := ⟨gb386, _, none⟩) NB397_386.out _).trans (hHeld.2))))))⟩ (fun hHeld => ?_); clear hK K; refine done_ (by kernel_rfl) ?_
 try go_wp2
 refine bodyPost_ret (results_cc rfl _ _ gb385 gb386 26 28 #[.slice Ao10 t390.length co10, .slice Ao15 t393.length co15] #[.int .i64 t398, .int .i64 t399, .int .i64 t400] (0, 0) (0, 0) _ _ rfl (by (with_reducible repeat (first | refine blk_drewN ?_ _ | refine blk_drew ?_ | refine blk_alloc ?_ _)); refine blk_far ?_ NB385_386.out _; (with_reducible repeat (first | refine blk_drewN ?_ _ | refine blk_drew ?_ | refine blk_alloc ?_ _)); refine blk_far ?_ NB385_386.out _; (with_reducible repeat (first | refine blk_drewN ?_ _ | refine blk_drew ?_ | refine blk_alloc ?_ _)); refine blk_far ?_ NB385_386.out _; (with_reducible repeat (first | refine blk_drewN ?_ _ | refine blk_drew ?_ | refine blk_alloc ?_ _)); refine blk_put (cs := #[.slice Ao10 t390.length co10, .slice none 0 0]) ?_ 1 _ rfl; (with_reducible repeat (first | refine blk_drewN ?_ _ | refine blk_drew ?_ | refine blk_alloc ?_ _)); refine blk_put (cs := #[.slice none 0 0, .slice none 0 0]) ?_ 0 _ rfl; (with_reducible repeat (first | refine blk_drewN ?_ _ | refine blk_drew ?_ | refine blk_alloc ?_ _)); exact BK385.out) Try.underlying26 rfl (by kernel_rfl) rfl (by (with_reducible repeat (first | refine blk_drewN ?_ _ | refine blk_drew ?_ | refine blk_alloc ?_ _)); refine blk_put (cs := #[.int .i64 t398, .int .i64 t399, .int .i64 0]) ?_ 2 _ rfl; (with_reducible repeat (first | refine blk_drewN ?_ _ | refine blk_drew ?_ | refine blk_alloc ?_ _)); refine blk_put (cs := #[.int .i64 t398, .int .i64 0, .int .i64 0]) ?_ 1 _ rfl; (with_reducible repeat (first | refine blk_drewN ?_ _ | refine blk_drew ?_ | refine blk_alloc ?_ _)); refine blk_put (cs := #[.int .i64 0, .int .i64 0, .int .i64 0]) ?_ 0 _ rfl; (with_reducible repeat (first | refine blk_drewN ?_ _ | refine blk_drew ?_ | refine blk_alloc ?_ _)); refine blk_far ?_ NB386_385.out _; (with_reducible repeat (first | refine blk_drewN ?_ _ | refine blk_drew ?_ | refine blk_alloc ?_ _)); refine blk_far ?_ NB386_385.out _; (with_reducible repeat (first | refine blk_drewN ?_ _ | refine blk_drew ?_ | refine blk_alloc ?_ _)); exact BK386.out) Try.underlying28 rfl (by kernel_rfl)) rfl ?_; exact ⟨_, _, er, by (with_reducible repeat (first | apply Kd.Q_alloc | apply Kd.Q_drewN | apply Kd.Q_drew)); exact Kd.Q_mono (Kd.Q_far (p := ⟨gb386, 2, none⟩) (Kd.Q_far (p := ⟨gb386, 1, none⟩) (Kd.Q_far (p := ⟨gb386, 0, none⟩) (Kd.Q_far (p := ⟨gb385, 1, none⟩) (Kd.Q_far (p := ⟨gb385, 0, none⟩) (Kd.Q_types (Kd.Q_types HO392.out BK385.out (by decide)) BK386.out (by decide)) (fun _ hk => hk.1.2) (.slice Ao10 t390.length co10)) (fun _ hk => hk.1.2) (.slice Ao15 t393.length co15)) (fun _ hk => hk.2) (.int .i64 t398)) (fun _ hk => hk.2) (.int .i64 t399)) (fun _ hk => hk.2) (.int .i64 t400)) (fun _ hk => trivial), by (with_reducible repeat (first | apply Kd.Q_alloc | apply Kd.Q_drewN | apply Kd.Q_drew)); exact Kd.Q_mono (Kd.Q_far (p := ⟨gb386, 2, none⟩) (Kd.Q_far (p := ⟨gb386, 1, none⟩) (Kd.Q_far (p := ⟨gb386, 0, none⟩) (Kd.Q_far (p := ⟨gb385, 1, none⟩) (Kd.Q_far (p := ⟨gb385, 0, none⟩) (Kd.Q_types (Kd.Q_types HO395.out BK385.out (by decide)) BK386.out (by decide)) (fun _ hk => hk.1.2) (.slice Ao10 t390.length co10)) (fun _ hk => hk.1.2) (.slice Ao15 t393.length co15)) (fun _ hk => hk.2) (.int .i64 t398)) (fun _ hk => hk.2) (.int .i64 t399)) (fun _ hk => hk.2) (.int .i64 t400)) (fun _ hk => hk.1.1), by repeat (first | (with_reducible first | exact HB.out | apply below_alloc | apply pw_below_drewN | apply below_drew1 | refine below_set ?_ (IsS81.ge HI389.out) | refine below_set ?_ GE385.out | refine below_set ?_ GE386.out | refine below_set ?_ GE397.out) | exact HB.out)⟩

/-! ### impl_within: function 79 -/
def impl_within.l0 : Nat → List Int → Int → List Int → Int → Int → Option (Bool)
 | 0, _, _, _, _, _ => none
 | k + 1, x0, x1, x7, x8, x9 => if x9 < x8 then (if 0 ≤ x9 then (if x9 < (x7.length : Int) then (if (rd x7 x9) < (wrap64 (-x1)) then (some false) else (if (rd x7 x9) > x1 then (some false) else (impl_within.l0 k x0 x1 x7 x8 (wrap64 (x9 + 1))))) else (none)) else (none)) else (some ((x0.length : Int) == 24))
def impl_within.f (k : Nat) (l0 : List Int) (a1 : Int) : Option (Bool) := impl_within.l0 k l0 a1 l0 (l0.length : Int) 0
set_option maxHeartbeats 8000000 in
set_option maxRecDepth 100000 in
theorem impl_within.calls (k : Nat) (A0 : Option Addr) (c0 : Nat) (l0 : List Int) (a1 : Int) (r : Bool) (w : World) (hr0 : Kd.C (Kd.int .i64) w A0 l0.length l0) (hc0 : l0.length ≤ c0) (h : impl_within.f k l0 a1 = some r) :
  Calls Try.prog 79 #[.slice A0 l0.length c0, .int .i64 a1] w fun e w' => e = .returned (.bool r) ∧ Drawn0 w w' := by
 have HR0 := qa hr0; have HC0 := qa hc0; clear hr0 hc0; have H : (impl_within.l0 k l0 a1 l0 (l0.length : Int) 0) = some r := h; clear h; have H' := qa H; clear H
 go_enter Try.func79, Try.ntmps79
 go_wp2
 go_loopg [9] k (fun kq v9 w' => ∃ (x9_1 : Int), v9 = .int .i64 x9_1 ∧ Aside0 (impl_within.l0 kq l0 a1 l0 (l0.length : Int) x9_1 = some r) ∧ Aside0 (kq ≤ k) ∧ Drawn0 w w')
 case atStart => exact ⟨(0), (sd), H', ⟨Nat.le_refl _⟩, by repeat (first | exact Drawn0.refl _ | apply Drawn0.step)⟩
 case round =>
  clear H'; obtain ⟨x9_1, rfl, HA, HK1, ⟨m1, rfl⟩⟩ := hrel
  cases gk with
  | zero => exact absurd HA.out (by simp [impl_within.l0])
  | succ k1 =>
   have H := HA.out; clear HA; simp only [impl_within.l0] at H; replace H := qe H; obtain ⟨c3b0, H⟩ | ⟨c3b0, H⟩ := H
   ·replace H := qd H; obtain ⟨c4b0, H⟩ := H; replace H := qd H; obtain ⟨c5b0, H⟩ := H; replace H := qe H; obtain ⟨c6b0, H⟩ | ⟨c6b0, H⟩ := H
    ·obtain rfl := Option.some.inj H; have p402 : 0 ≤ (x9_1 : Int) := qo; have q402 : x9_1 < (l0.length : Int) := qo; obtain ⟨ad402, e402, hx402_0⟩ := Kd.at_int HR0.out x9_1 p402 q402; cases e402; replace p402 := eq_true p402; replace q402 := eq_true q402; go_wp2; go_ret; exact ⟨sd, by repeat (first | exact Drawn0.refl _ | apply Drawn0.step)⟩
    ·by_cases c7 : (rd l0 x9_1) > a1
     ·rw [if_pos c7] at H; have c7b0 : decide (a1 < (rd l0 x9_1)) = true := decide_eq_true c7; clear c7; obtain rfl := Option.some.inj H; have p402 : 0 ≤ (x9_1 : Int) := qo; have q402 : x9_1 < (l0.length : Int) := qo; obtain ⟨ad402, e402, hx402_0⟩ := Kd.at_int HR0.out x9_1 p402 q402; cases e402; replace p402 := eq_true p402; replace q402 := eq_true q402; go_wp2; go_ret; exact ⟨sd, by repeat (first | exact Drawn0.refl _ | apply Drawn0.step)⟩
     ·rw [if_neg c7] at H; have c7b0 : decide (a1 < (rd l0 x9_1)) = false := decide_eq_false c7; clear c7; have H' := qa H; clear H; have p402 : 0 ≤ (x9_1 : Int) := qo; have q402 : x9_1 < (l0.length : Int) := qo; obtain ⟨ad402, e402, hx402_0⟩ := Kd.at_int HR0.out x9_1 p402 q402; cases e402; replace p402 := eq_true p402; replace q402 := eq_true q402; go_wp2
      go_roundg k1
      case measure => have := HK1.out; omega
      case rel => exact ⟨(wrap64 (x9_1 + 1)), (sd), H', ⟨by have := HK1.out; omega⟩, by repeat (first | exact Drawn0.refl _ | apply Drawn0.step)⟩
   ·obtain rfl := Option.some.inj H; go_wp2; go_ret; exact ⟨sd, by repeat (first | exact Drawn0.refl _ | apply Drawn0.step)⟩

/-! ### impl_RowOk: function 44 -/
def impl_RowOk.f (k : Nat) (l0 : List Int) : Option (Bool) := (impl_within.f k l0 1000000000).bind fun t403 => (some t403)
set_option maxHeartbeats 8000000 in
set_option maxRecDepth 100000 in
theorem impl_RowOk.calls (k : Nat) (A0 : Option Addr) (c0 : Nat) (l0 : List Int) (r : Bool) (w : World) (hr0 : Kd.C (Kd.int .i64) w A0 l0.length l0) (hc0 : l0.length ≤ c0) (h : impl_RowOk.f k l0 = some r) :
  Calls Try.prog 44 #[.slice A0 l0.length c0] w fun e w' => e = .returned (.bool r) ∧ Drawn0 w w' := by
 have HR0 := qa hr0; have HC0 := qa hc0; clear hr0 hc0; have H : ((impl_within.f k l0 1000000000).bind fun t403 => (some t403)) = some r := h; clear h; replace H := qb H; obtain ⟨t403, A2, H⟩ := H; obtain rfl := Option.some.inj H
 go_enter Try.func44, Try.ntmps44
 go_wp2_with (first | ((with_reducible refine gate_callee (f := 79) rfl ?_); refine goesL_ (some 4) rfl rfl Try.func79 (by kernel_rfl) rfl #[.slice A0 l0.length c0, .int .i64 1000000000] rfl am ?_; (with_reducible refine (impl_within.calls k _ _ l0 1000000000 t403 _ ?side1 ?side2 A2.out).mono ?_); (case side1 => exact cx HR0.out); (case side2 => exact HC0.out); rintro e w' ⟨rfl, ⟨nd, rfl⟩⟩; refine ⟨_, rfl, ?_⟩))
 go_ret; exact ⟨sd, by repeat (first | exact Drawn0.refl _ | apply Drawn0.step)⟩

/-! ### impl_DeskOk: function 11 -/
def impl_DeskOk.l0 : Nat → List (List Int) → Int → Int → List Int → List (List Int) → Option (Bool)
 | 0, _, _, _, _, _ => none
 | k + 1, x6, x7, x8, x405000, x405001 => if x8 < x7 then (if 0 ≤ x8 then (if x8 < (x6.length : Int) then ((impl_RowOk.f k (rd_L2 x6 x8)).bind fun t406 => (if t406 = true then (impl_DeskOk.l0 k x6 x7 (wrap64 (x8 + 1)) x405000 x405001) else (some false))) else (none)) else (none)) else ((impl_RowOk.f k x405000).bind fun t407 => (if t407 = true then (some (decide ((x405001.length : Int) ≤ 8))) else (some false)))
def impl_DeskOk.f (k : Nat) (l0_0 : List Int) (l0_1 : List (List Int)) : Option (Bool) := impl_DeskOk.l0 k l0_1 (l0_1.length : Int) 0 l0_0 l0_1
set_option maxHeartbeats 8000000 in
set_option maxRecDepth 100000 in
theorem impl_DeskOk.calls (k : Nat) (A0_0 : Option Addr) (c0_0 : Nat) (l0_0 : List Int) (A0_1 : Option Addr) (c0_1 : Nat) (l0_1 : List (List Int)) (r : Bool) (w : World) (hr0_0 : Kd.C (Kd.int .i64) w A0_0 l0_0.length l0_0) (hc0_0 : l0_0.length ≤ c0_0) (hr0_1 : Kd.C (Kd.slice 3 (Kd.int .i64)) w A0_1 l0_1.length l0_1) (hc0_1 : l0_1.length ≤ c0_1) (h : impl_DeskOk.f k l0_0 l0_1 = some r) :
  Calls Try.prog 11 #[.agg #[.slice A0_0 l0_0.length c0_0, .slice A0_1 l0_1.length c0_1]] w fun e w' => e = .returned (.bool r) ∧ Below w.heap.size w w' := by
 have hu26 := Try.underlying26; have HR0_0 := qa hr0_0; have HC0_0 := qa hc0_0; clear hr0_0 hc0_0; have HR0_1 := qa hr0_1; have HC0_1 := qa hc0_1; clear hr0_1 hc0_1; have HB := qa (Below.refl w.heap.size w); have H : (impl_DeskOk.l0 k l0_1 (l0_1.length : Int) 0 l0_0 l0_1) = some r := h; clear h; have H' := qa H; clear H
 go_enter Try.func11, Try.ntmps11
 go_wp2_with (first | ((with_reducible refine gate_dst (N := 1) rfl ?_); (try (refine gate_guard (by rfl) ?_; dsimp only)); refine box_event ?hg (N := 1) ?hd (cs := #[.slice A0_0 l0_0.length c0_0, .slice A0_1 l0_1.length c0_1]) (t := 26) ?hr ?_; (case hd => rfl); (case hg => rfl); (case hr => exact gr); intro gb404 hg w2 hbox hb; have BK404 := qa (hbox); have GW404 := qa ((by rw [hg]; exact (below_size (bl)) : w.heap.size ≤ gb404)); have GE404 := qa ((by rw [hg]; exact (below_size (bl)) : w.heap.size ≤ gb404)); replace HB := qa (below_step (bl) hb); clear hb hbox hg; obtain ⟨hcz3_0, hcz3_1, hfz3_0, hfz3_1⟩ := qk2 BK404))
 go_loopg [8] k (fun kq v8 w' => ∃ (x8_1 : Int), v8 = .int .i64 x8_1 ∧ Aside0 (impl_DeskOk.l0 kq l0_1 (l0_1.length : Int) x8_1 l0_0 l0_1 = some r) ∧ Aside0 (kq ≤ k) ∧ Aside0 (w'.heap[gb404]? = some (.cells #[(.slice A0_0 l0_0.length c0_0), (.slice A0_1 l0_1.length c0_1)] 26 (0, 0))) ∧ Aside0 (Below w.heap.size w w'))
 case atStart => exact ⟨(0), (sd), H', ⟨Nat.le_refl _⟩, ⟨bk⟩, ⟨bl⟩⟩
 case round =>
  clear H'; obtain ⟨x8_1, rfl, HA, HK1, BK404, HB⟩ := hrel
  cases gk with
  | zero => exact absurd HA.out (by simp [impl_DeskOk.l0])
  | succ k1 =>
   have H := HA.out; clear HA; simp only [impl_DeskOk.l0] at H; replace H := qe H; obtain ⟨c4b0, H⟩ | ⟨c4b0, H⟩ := H
   ·replace H := qd H; obtain ⟨c5b0, H⟩ := H; replace H := qd H; obtain ⟨c6b0, H⟩ := H; replace H := qb H; obtain ⟨t406, A7, H⟩ := H
    by_cases c8 : t406 = true
    ·subst c8; replace H := qt H; have H' := qa H; clear H; have p405 : 0 ≤ (x8_1 : Int) := qo; have q405 : x8_1 < (l0_1.length : Int) := qo; obtain ⟨ad405, A405_0, c405_0, e405, hx405_0, hl405_0, hi405_0⟩ := at_L2 HR0_1.out x8_1 p405 q405; cases e405; (try replace hx405_0 := (HB.out.cell (World.block_lt_of_cell? w _ hx405_0)).trans hx405_0); have HR405_0 := qa hi405_0; have HC405_0 := qa hl405_0; clear hi405_0 hl405_0; replace p405 := eq_true p405; replace q405 := eq_true q405
     go_wp2_with (first | ((with_reducible refine gate_callee (f := 44) rfl ?_); refine goesL_ (some 13) rfl rfl Try.func44 (by kernel_rfl) rfl #[.slice A405_0 (rd_L2 l0_1 x8_1).length c405_0] rfl am ?_; (with_reducible refine (impl_RowOk.calls k1 _ _ (rd_L2 l0_1 x8_1) true _ ?side1 ?side2 A7.out).mono ?_); (case side1 => exact cx (Kd.C_below HR405_0.out HB.out)); (case side2 => exact HC405_0.out); rintro e w' ⟨rfl, ⟨nd, rfl⟩⟩; refine ⟨_, rfl, ?_⟩))
     go_roundg k1
     case measure => have := HK1.out; omega
     case rel => exact ⟨(wrap64 (x8_1 + 1)), (sd), H', ⟨by have := HK1.out; omega⟩, ⟨bk⟩, ⟨bl⟩⟩
    ·replace c8 := Bool.eq_false_iff.mpr c8; subst c8; replace H := qf H; obtain rfl := Option.some.inj H; have p405 : 0 ≤ (x8_1 : Int) := qo; have q405 : x8_1 < (l0_1.length : Int) := qo; obtain ⟨ad405, A405_0, c405_0, e405, hx405_0, hl405_0, hi405_0⟩ := at_L2 HR0_1.out x8_1 p405 q405; cases e405; (try replace hx405_0 := (HB.out.cell (World.block_lt_of_cell? w _ hx405_0)).trans hx405_0); have HR405_0 := qa hi405_0; have HC405_0 := qa hl405_0; clear hi405_0 hl405_0; replace p405 := eq_true p405; replace q405 := eq_true q405
     go_wp2_with (first | ((with_reducible refine gate_callee (f := 44) rfl ?_); refine goesL_ (some 13) rfl rfl Try.func44 (by kernel_rfl) rfl #[.slice A405_0 (rd_L2 l0_1 x8_1).length c405_0] rfl am ?_; (with_reducible refine (impl_RowOk.calls k1 _ _ (rd_L2 l0_1 x8_1) false _ ?side1 ?side2 A7.out).mono ?_); (case side1 => exact cx (Kd.C_below HR405_0.out HB.out)); (case side2 => exact HC405_0.out); rintro e w' ⟨rfl, ⟨nd, rfl⟩⟩; refine ⟨_, rfl, ?_⟩))
     go_ret; exact ⟨er, bl⟩
   ·replace H := qb H; obtain ⟨t407, A9, H⟩ := H
    by_cases c10 : t407 = true
    ·subst c10; replace H := qt H; obtain rfl := Option.some.inj H; obtain ⟨hcz11_0, hcz11_1, hfz11_0, hfz11_1⟩ := qk2 BK404
     go_wp2_with (first | ((with_reducible refine gate_callee (f := 44) rfl ?_); refine goesL_ (some 18) rfl rfl Try.func44 (by kernel_rfl) rfl #[.slice A0_0 l0_0.length c0_0] rfl am ?_; (with_reducible refine (impl_RowOk.calls k1 _ _ l0_0 true _ ?side1 ?side2 A9.out).mono ?_); (case side1 => exact cx (Kd.C_below HR0_0.out HB.out)); (case side2 => exact HC0_0.out); rintro e w' ⟨rfl, ⟨nd, rfl⟩⟩; refine ⟨_, rfl, ?_⟩))
     go_ret; exact ⟨er, bl⟩
    ·replace c10 := Bool.eq_false_iff.mpr c10; subst c10; replace H := qf H; obtain rfl := Option.some.inj H; obtain ⟨hcz12_0, hcz12_1, hfz12_0, hfz12_1⟩ := qk2 BK404
     go_wp2_with (first | ((with_reducible refine gate_callee (f := 44) rfl ?_); refine goesL_ (some 18) rfl rfl Try.func44 (by kernel_rfl) rfl #[.slice A0_0 l0_0.length c0_0] rfl am ?_; (with_reducible refine (impl_RowOk.calls k1 _ _ l0_0 false _ ?side1 ?side2 A9.out).mono ?_); (case side1 => exact cx (Kd.C_below HR0_0.out HB.out)); (case side2 => exact HC0_0.out); rintro e w' ⟨rfl, ⟨nd, rfl⟩⟩; refine ⟨_, rfl, ?_⟩))
     go_ret; exact ⟨er, bl⟩

/-! ### impl_small: function 46 -/
def impl_small.f (k : Nat) (l0 : List Int) : Option (Bool) := (impl_within.f k l0 10000).bind fun t408 => (some t408)
set_option maxHeartbeats 8000000 in
set_option maxRecDepth 100000 in
theorem impl_small.calls (k : Nat) (A0 : Option Addr) (c0 : Nat) (l0 : List Int) (r : Bool) (w : World) (hr0 : Kd.C (Kd.int .i64) w A0 l0.length l0) (hc0 : l0.length ≤ c0) (h : impl_small.f k l0 = some r) :
  Calls Try.prog 46 #[.slice A0 l0.length c0] w fun e w' => e = .returned (.bool r) ∧ Drawn0 w w' := by
 have HR0 := qa hr0; have HC0 := qa hc0; clear hr0 hc0; have H : ((impl_within.f k l0 10000).bind fun t408 => (some t408)) = some r := h; clear h; replace H := qb H; obtain ⟨t408, A2, H⟩ := H; obtain rfl := Option.some.inj H
 go_enter Try.func46, Try.ntmps46
 go_wp2_with (first | ((with_reducible refine gate_callee (f := 79) rfl ?_); refine goesL_ (some 4) rfl rfl Try.func79 (by kernel_rfl) rfl #[.slice A0 l0.length c0, .int .i64 10000] rfl am ?_; (with_reducible refine (impl_within.calls k _ _ l0 10000 t408 _ ?side1 ?side2 A2.out).mono ?_); (case side1 => exact cx HR0.out); (case side2 => exact HC0.out); rintro e w' ⟨rfl, ⟨nd, rfl⟩⟩; refine ⟨_, rfl, ?_⟩))
 go_ret; exact ⟨sd, by repeat (first | exact Drawn0.refl _ | apply Drawn0.step)⟩

-- NOT PRINTED: function 47 (impl_rowBy)

/-! ### slices_Reverse_int_int: function 81 -/
def slices_Reverse_int_int.l0 : Nat → List Int → Int → Int → Option (List Int)
 | 0, _, _, _ => none
 | k + 1, x0, x2, x3 => if x2 < x3 then (if 0 ≤ x3 then (if x3 < (x0.length : Int) then (if 0 ≤ x2 then (if x2 < (x0.length : Int) then (slices_Reverse_int_int.l0 k ((x0.set (x2 : Int).toNat (rd x0 x3)).set (x3 : Int).toNat (rd x0 x2)) (wrap64 (x2 + 1)) (wrap64 (x3 - 1))) else (none)) else (none)) else (none)) else (none)) else (some x0)
def slices_Reverse_int_int.f (k : Nat) (l0 : List Int) : Option (List Int) := slices_Reverse_int_int.l0 k l0 0 (wrap64 ((l0.length : Int) - 1))
theorem slices_Reverse_int_int.mono_l : ∀ k, (∀ y0 y1 y2, LeO (slices_Reverse_int_int.l0 k y0 y1 y2) (slices_Reverse_int_int.l0 (k + 1) y0 y1 y2))
 | 0 => fun _ _ _ r h => by simp [slices_Reverse_int_int.l0] at h
 | k + 1 => by
  have ih0 := slices_Reverse_int_int.mono_l k
  ·intro y0 y1 y2; unfold slices_Reverse_int_int.l0; exact mz
theorem slices_Reverse_int_int.mono : ∀ a0 k, LeO (slices_Reverse_int_int.f k a0) (slices_Reverse_int_int.f (k + 1) a0) := by
 intro a0 k; have ih0 := slices_Reverse_int_int.mono_l k; unfold slices_Reverse_int_int.f; exact mz
def slices_Reverse_int_int.T3 : Bool × List (List Nat × List Nat) := (true, [([], []), ([], []), ([], []), ([], []), ([], []), ([], []), ([4, 5], [4, 5]), ([6], [6]), ([], []), ([], []), ([8, 9], [8, 9]), ([10], [10]), ([0, 1, 0, 1, 4, 5, 6, 7, 11], [0, 1]), ([12, 7, 0, 1, 4, 5, 6, 7, 11], [7, 12]), ([2, 3, 0, 1, 2, 3, 4, 5, 6, 7, 8, 9, 10, 11, 12, 13], [2, 3]), ([14, 11, 13, 0, 1, 2, 3, 4, 5, 6, 7, 8, 9, 10, 11, 12, 13], [11, 14])])
def slices_Reverse_int_int.B3 : List Nat := [0, 0, 0, 0, 0, 0, 48, 112, 0, 0, 768, 1792, 4083, 8179, 16383, 32767]
theorem slices_Reverse_int_int.tab3 : rtab .any (opsOf Try.f81 3) = slices_Reverse_int_int.T3 := by kernel_rfl
theorem slices_Reverse_int_int.bits3 : waitsOk slices_Reverse_int_int.T3.2 slices_Reverse_int_int.B3 = true := by kernel_rfl
set_option maxHeartbeats 8000000 in
set_option maxRecDepth 100000 in
theorem slices_Reverse_int_int.calls (k : Nat) (P0_ : Nat → Prop) (u9000_ : Value) (l0 : List Int) (r : List Int) (w0 w : World) (hB : Below w0.heap.size w0 w) (ho0 : Kd.R (Kd.int .i64) 3 w w0.heap.size P0_ u9000_ l0) (h : slices_Reverse_int_int.f k l0 = some r) :
  Calls Try.prog 81 #[u9000_] w fun e w' => e = .returned (.tuple #[]) ∧ Kd.R (Kd.int .i64) 3 w' w0.heap.size (fun k_ => (P0_ k_ ∨ w.heap.size ≤ k_)) u9000_ r ∧ Below w0.heap.size w0 w' ∧ Kept w w' (fun k_ => P0_ k_) := by
 have HO0 := qa (show Kd.R (Kd.int .i64) 3 w w0.heap.size (fun k_ => (P0_ k_ ∨ w.heap.size ≤ k_)) u9000_ l0 from Kd.R_mono ho0 (fun k_ hk => (.inl hk))); have HK := qa (Kept.refl w (fun k_ => P0_ k_)); have HW0 := qa hB.size; have HB := qa hB; clear hB; have H : (slices_Reverse_int_int.l0 k l0 0 (wrap64 ((l0.length : Int) - 1))) = some r := h; clear h; have H' := qa H; clear H; obtain ⟨Ao2, co2, eo2⟩ := Kd.R_slice HO0.out; subst eo2
 go_enter Try.func81, Try.ntmps81
 go_wp2
 go_loopg [2, 3] k (fun kq v2 v3 w' => ∃ (x0_1 : List Int) (x2_1 : Int) (x3_1 : Int), v2 = .int .i64 x2_1 ∧ v3 = .int .i64 x3_1 ∧ Aside0 (slices_Reverse_int_int.l0 kq x0_1 x2_1 x3_1 = some r) ∧ Aside0 (kq ≤ k) ∧ Aside0 (Kd.R (Kd.int .i64) 3 w' w0.heap.size (fun k_ => (P0_ k_ ∨ w.heap.size ≤ k_)) (.slice Ao2 l0.length co2) x0_1) ∧ Aside0 (Kept w w' (fun k_ => P0_ k_)) ∧ Aside0 (Below w0.heap.size w0 w'))
 case atStart => exact ⟨(l0), (0), (wrap64 ((l0.length : Int) - 1)), (sd), (sd), H', ⟨Nat.le_refl _⟩, ⟨kR HO0⟩, ⟨by repeat (first | (with_reducible first | exact HK.out | apply Kept.alloc | apply Kept.drewN | apply Kept.drew) | exact HK.out)⟩, ⟨bl⟩⟩
 case round =>
  clear H'; obtain ⟨x0_1, x2_1, x3_1, rfl, rfl, HA, HK1, HO_0, HK, HB⟩ := hrel; have hl0_1 := (Kd.R_reads' HO_0.out).1; rw [hl0_1] at HO_0; (try simp only [hl0_1])
  cases gk with
  | zero => exact absurd HA.out (by simp [slices_Reverse_int_int.l0])
  | succ k1 =>
   have H := HA.out; clear HA; simp only [slices_Reverse_int_int.l0] at H; replace H := qe H; obtain ⟨c3b0, H⟩ | ⟨c3b0, H⟩ := H
   ·replace H := qd H; obtain ⟨c4b0, H⟩ := H; replace H := qd H; obtain ⟨c5b0, H⟩ := H; replace H := qd H; obtain ⟨c6b0, H⟩ := H; replace H := qd H; obtain ⟨c7b0, H⟩ := H; obtain ⟨y411, hy_⟩ : ∃ y_ : List Int, y_ = (x0_1.set (x2_1 : Int).toNat (rd x0_1 x3_1)) := ⟨_, rfl⟩; replace H : (slices_Reverse_int_int.l0 k1 (y411.set (x3_1 : Int).toNat (rd x0_1 x2_1)) (wrap64 (x2_1 + 1)) (wrap64 (x3_1 - 1))) = some r := yh; have Ny411 := qa hy_; clear hy_; obtain ⟨y412, hy_⟩ : ∃ y_ : List Int, y_ = (y411.set (x3_1 : Int).toNat (rd x0_1 x2_1)) := ⟨_, rfl⟩; replace H : (slices_Reverse_int_int.l0 k1 y412 (wrap64 (x2_1 + 1)) (wrap64 (x3_1 - 1))) = some r := yh; have Ny412 := qa hy_; clear hy_; have H' := qa H; clear H
    try go_wp2
    replace HO_0 := qa (Kd.R_drew HO_0.out); replace HK := qa (Kept.drew HK.out); replace HB := qa (below_drew1 HB.out); have p409 : 0 ≤ (x3_1 : Int) := qo; have q409 : x3_1 < (x0_1.length : Int) := qo; obtain ⟨ad409, e409, hx409_0⟩ := Kd.at_int (Kd.R_reads' HO_0.out).2.2 x3_1 p409 q409; cases e409; replace p409 := eq_true p409; replace q409 := eq_true q409; have p410 : 0 ≤ (x2_1 : Int) := qo; have q410 : x2_1 < (x0_1.length : Int) := qo; obtain ⟨ad410, e410, hx410_0⟩ := Kd.at_int (Kd.R_reads' HO_0.out).2.2 x2_1 p410 q410; obtain rfl : ad409 = ad410 := (by injection e410); replace p410 := eq_true p410; replace q410 := eq_true q410; have p8 : 0 ≤ (x2_1 : Int) := qo; have q8 : (x2_1 : Int) < ((x0_1.length : Int) : Int) := qo; obtain ⟨go8, co8, eo8, gb8, gl8, cl8, HG8⟩ := Kd.R_form HO_0.out (by omega); (first | cases eo8 | (injection eo8 with ea_ en_ ec_; (first | subst ea_ | (injection ea_ with ea_; subst ea_)); subst ec_; clear en_)); have GB8 := qa gb8; have GG8 := qa HG8; clear gb8 gl8 HG8; have HMgo8 := qa (show (P0_ go8 ∨ w.heap.size ≤ go8) from (HO_0.out.1 _ rfl)); (first | simp only [add_plain] at hx409_0 | skip); (first | simp only [add_plain] at hx410_0 | skip); obtain ⟨hx8_0, hf8_0⟩ := Kd.R_celln 0 HO_0.out (x2_1 : Int) p8 q8; replace p8 := eq_true p8; replace q8 := eq_true q8; have HP11 := Kd.R_putn HO_0.out (x2_1 : Int) (rd x0_1 x3_1); rw [← Ny411.out] at HP11; have HQ11 := qa HP11; clear HP11; have p9 : 0 ≤ (x3_1 : Int) := qo; have q9 : (x3_1 : Int) < ((x0_1.length : Int) : Int) := qo; obtain ⟨hx9_0, hf9_0⟩ := Kd.R_celln 0 HQ11.out (x3_1 : Int) p9 q9; replace p9 := eq_true p9; replace q9 := eq_true q9; have HP12 := Kd.R_putn HQ11.out (x3_1 : Int) (rd x0_1 x2_1); rw [← Ny412.out] at HP12; have HQ12 := qa HP12; clear HP12; refine start_ (n := 16) (S := fun w' => w'.cell? ⟨go8, (x3_1).toNat, none⟩ = some (.int .i64 (rd x0_1 x3_1)) ∧ w'.cell? ⟨go8, (x2_1).toNat, none⟩ = some (.int .i64 (rd x0_1 x2_1))) (ds := [13, 15]) #[false, false, false, false, false, false, false, false, false, false, false, false, false, false, false, false] (by kernel_rfl) rfl rfl ⟨hx409_0, hx410_0⟩ (fun hHeld => ?_); refine with_tabW slices_Reverse_int_int.tab3 slices_Reverse_int_int.bits3 (fun HT_ HW_ => ?_); generalize wr.drew = w10 at HO_0 HK HB GG8 HQ11 HQ12 hf8_0 hf9_0 hx409_0 hx410_0 hx8_0 hx9_0 hHeld ⊢; refine pure_ (i := 0) (N := some 14) (v := ?_) (a' := ?_) #[true, false, false, false, false, false, false, false, false, false, false, false, false, false, false, false] rfl rfl (any_of HT_.out (by kernel_rfl)) (fun _ _ _ h => h) (Or.inl ⟨by rfl, ?_⟩) ?_ ?_; rotate_left
    ·intro w'
     go_simp
     with_reducible rfl
    rotate_left
    ·simp only [Act.put, List.setIfInBounds_toArray, List.set_cons_zero, List.set_cons_succ, i64_w, i32_w]
     rfl
    refine pure_ (i := 1) (N := some 15) (v := ?_) (a' := ?_) #[true, true, false, false, false, false, false, false, false, false, false, false, false, false, false, false] rfl rfl (any_of HT_.out (by kernel_rfl)) (fun _ _ _ h => h) (Or.inl ⟨by rfl, ?_⟩) ?_ ?_; rotate_left
    ·intro w'
     go_simp
     with_reducible rfl
    rotate_left
    ·simp only [Act.put, List.setIfInBounds_toArray, List.set_cons_zero, List.set_cons_succ, i64_w, i32_w]
     rfl
    refine pure_ (i := 2) (N := some 16) (v := ?_) (a' := ?_) #[true, true, true, false, false, false, false, false, false, false, false, false, false, false, false, false] rfl rfl (any_of HT_.out (by kernel_rfl)) (fun _ _ _ h => h) (Or.inl ⟨by rfl, ?_⟩) ?_ ?_; rotate_left
    ·intro w'
     go_simp
     with_reducible rfl
    rotate_left
    ·simp only [Act.put, List.setIfInBounds_toArray, List.set_cons_zero, List.set_cons_succ, i64_w, i32_w]
     rfl
    refine pure_ (i := 3) (N := some 17) (v := ?_) (a' := ?_) #[true, true, true, true, false, false, false, false, false, false, false, false, false, false, false, false] rfl rfl (any_of HT_.out (by kernel_rfl)) (fun _ _ _ h => h) (Or.inl ⟨by rfl, ?_⟩) ?_ ?_; rotate_left
    ·intro w'
     go_simp
     with_reducible rfl
    rotate_left
    ·simp only [Act.put, List.setIfInBounds_toArray, List.set_cons_zero, List.set_cons_succ, i64_w, i32_w]
     rfl
    refine pure_ (i := 4) (N := some 18) (v := ?_) (a' := ?_) #[true, true, true, true, true, false, false, false, false, false, false, false, false, false, false, false] rfl rfl (any_of HT_.out (by kernel_rfl)) (fun _ _ _ h => h) (Or.inl ⟨by rfl, ?_⟩) ?_ ?_; rotate_left
    ·intro w'
     go_simp
     with_reducible rfl
    rotate_left
    ·simp only [Act.put, List.setIfInBounds_toArray, List.set_cons_zero, List.set_cons_succ, i64_w, i32_w]
     rfl
    refine pure_ (i := 5) (N := some 19) (v := ?_) (a' := ?_) #[true, true, true, true, true, true, false, false, false, false, false, false, false, false, false, false] rfl rfl (any_of HT_.out (by kernel_rfl)) (fun _ _ _ h => h) (Or.inl ⟨by rfl, ?_⟩) ?_ ?_; rotate_left
    ·intro w'
     go_simp
     with_reducible rfl
    rotate_left
    ·simp only [Act.put, List.setIfInBounds_toArray, List.set_cons_zero, List.set_cons_succ, i64_w, i32_w]
     rfl
    refine pure_ (i := 6) (N := some 20) (v := ?_) (a' := ?_) #[true, true, true, true, true, true, true, false, false, false, false, false, false, false, false, false] rfl rfl (any_of HT_.out (by kernel_rfl)) (fun _ _ _ h => h) (Or.inl ⟨by rfl, ?_⟩) ?_ ?_; rotate_left
    ·intro w'
     go_simp
     with_reducible rfl
    rotate_left
    ·simp only [Act.put, List.setIfInBounds_toArray, List.set_cons_zero, List.set_cons_succ, i64_w, i32_w]
     rfl
    refine pure_ (i := 8) (N := some 22) (v := ?_) (a' := ?_) #[true, true, true, true, true, true, true, false, true, false, false, false, false, false, false, false] rfl rfl (any_of HT_.out (by kernel_rfl)) (fun _ _ _ h => h) (Or.inl ⟨by rfl, ?_⟩) ?_ ?_; rotate_left
    ·intro w'
     go_simp
     with_reducible rfl
    rotate_left
    ·simp only [Act.put, List.setIfInBounds_toArray, List.set_cons_zero, List.set_cons_succ, i64_w, i32_w]
     rfl
    refine pure_ (i := 9) (N := some 23) (v := ?_) (a' := ?_) #[true, true, true, true, true, true, true, false, true, true, false, false, false, false, false, false] rfl rfl (any_of HT_.out (by kernel_rfl)) (fun _ _ _ h => h) (Or.inl ⟨by rfl, ?_⟩) ?_ ?_; rotate_left
    ·intro w'
     go_simp
     with_reducible rfl
    rotate_left
    ·simp only [Act.put, List.setIfInBounds_toArray, List.set_cons_zero, List.set_cons_succ, i64_w, i32_w]
     rfl
    refine pure_ (i := 10) (N := some 24) (v := ?_) (a' := ?_) #[true, true, true, true, true, true, true, false, true, true, true, false, false, false, false, false] rfl rfl (any_of HT_.out (by kernel_rfl)) (fun _ _ _ h => h) (Or.inl ⟨by rfl, ?_⟩) ?_ ?_; rotate_left
    ·intro w'
     go_simp
     with_reducible rfl
    rotate_left
    ·simp only [Act.put, List.setIfInBounds_toArray, List.set_cons_zero, List.set_cons_succ, i64_w, i32_w]
     rfl
    refine take_ (i := 7) (N := some 21) (v := ?_) (a' := ?_) #[true, true, true, true, true, true, true, true, true, true, true, false, false, false, false, false] rfl rfl (take_ofW HT_.out HW_.out (by kernel_rfl)) (fun _ _ _ h => h) (Or.inl ⟨by rfl, ?_⟩) hHeld ?_ ?_; rotate_left
    ·rintro w' ⟨s0, s1⟩
     go_simp
     with_reducible rfl
    rotate_left
    ·simp only [Act.put, List.setIfInBounds_toArray, List.set_cons_zero, List.set_cons_succ, i64_w, i32_w]
     rfl
    refine take_ (i := 11) (N := some 25) (v := ?_) (a' := ?_) #[true, true, true, true, true, true, true, true, true, true, true, true, false, false, false, false] rfl rfl (take_ofW HT_.out HW_.out (by kernel_rfl)) (fun _ _ _ h => h) (Or.inl ⟨by rfl, ?_⟩) hHeld ?_ ?_; rotate_left
    ·rintro w' ⟨s0, s1⟩
     go_simp
     with_reducible rfl
    rotate_left
    ·simp only [Act.put, List.setIfInBounds_toArray, List.set_cons_zero, List.set_cons_succ, i64_w, i32_w]
     rfl
    refine pure_ (i := 12) (N := some 26) (v := ?_) (a' := ?_) #[true, true, true, true, true, true, true, true, true, true, true, true, true, false, false, false] rfl rfl (any_of HT_.out (by kernel_rfl)) (fun _ _ _ h => h) (Or.inl ⟨by rfl, ?_⟩) ?_ ?_; rotate_left
    ·intro w'
     go_simp
     with_reducible rfl
    rotate_left
    ·simp only [Act.put, List.setIfInBounds_toArray, List.set_cons_zero, List.set_cons_succ, i64_w, i32_w]
     rfl
    refine last_ (i := 13) (N := none) #[true, true, true, true, true, true, true, true, true, true, true, true, true, true, false, false] rfl rfl (one_of HT_.out (by kernel_rfl)) (by decide) (fun K hK => ?_); refine skip_ (w1 := ?_) (by rfl) rfl ?_ ?_; rotate_left
    ·go_simp
     rfl
    refine hK.out _ _ ?_; clear hK K; refine pure_ (i := 14) (N := some 27) (v := ?_) (a' := ?_) #[true, true, true, true, true, true, true, true, true, true, true, true, true, true, true, false] rfl rfl (any_of HT_.out (by kernel_rfl)) (fun _ _ _ h => h) (Or.inl ⟨by rfl, ?_⟩) ?_ ?_; rotate_left
    ·intro w'
     go_simp
     with_reducible rfl
    rotate_left
    ·simp only [Act.put, List.setIfInBounds_toArray, List.set_cons_zero, List.set_cons_succ, i64_w, i32_w]
     rfl
    refine last_ (i := 15) (N := none) #[true, true, true, true, true, true, true, true, true, true, true, true, true, true, true, true] rfl rfl (one_of HT_.out (by kernel_rfl)) (by decide) (fun K hK => ?_); refine skip_ (w1 := ?_) (by rfl) rfl ?_ ?_; rotate_left
    ·go_simp
     rfl
    refine hK.out _ _ ?_; clear hK K; refine done_ (done_of HT_.out (by kernel_rfl)) ?_
    try go_wp2
    (try simp only [← hl0_1])
    go_roundg k1
    case measure => have := HK1.out; omega
    case rel => exact ⟨(y412), (wrap64 (x2_1 + 1)), (wrap64 (x3_1 - 1)), (sd), (sd), H', ⟨by have := HK1.out; omega⟩, ⟨by (try simp only [hl0_1]); (with_reducible repeat (first | apply Kd.R_alloc | apply Kd.R_drewN | apply Kd.R_drew)); exact HQ12.out⟩, ⟨by repeat (first | (with_reducible first | exact HK.out | apply Kept.alloc | apply Kept.drewN | apply Kept.drew | refine Kept.setCell ?_ HMgo8.out _ | refine Kept.setCell ?_ HMgo8.out _) | exact HK.out)⟩, ⟨by repeat (first | (with_reducible first | exact HB.out | apply below_alloc | apply pw_below_drewN | apply below_drew1 | refine below_set ?_ GB8.out | refine below_set ?_ GB8.out) | exact HB.out)⟩⟩
   ·obtain rfl := Option.some.inj H; go_wp2
    first | go_end0 | ((try simp only [Exit.inBlock, Exit.then]); refine bodyPost_ret (results_none rfl _ _ _) rfl ?_)
    exact ⟨er, (by first | exact (kR HO_0) | (simp only [hl0_1]; exact (kR HO_0))), bl, by repeat (first | (with_reducible first | exact HK.out | apply Kept.alloc | apply Kept.drewN | apply Kept.drew) | exact HK.out)⟩

end Go.Proofs.Ytmgjidgfhlclmaa.PFnDeskDo
