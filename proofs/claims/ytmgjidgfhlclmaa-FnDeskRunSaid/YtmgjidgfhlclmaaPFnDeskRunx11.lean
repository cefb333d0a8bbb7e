-- Written for this claim by a program of this session (wip/myprint.sh), after the kit's print; some functions by hand
import Derived.Test.YtmgjidgfhlclmaaPFnDeskRunx0
import Derived.Test.YtmgjidgfhlclmaaPFnDeskRunx6
import Derived.Test.YtmgjidgfhlclmaaWPress
namespace Go.Proofs.Ytmgjidgfhlclmaa.PFnDeskRun
open Go.RowKit Go.Proofs.YtmgjidgfhlclmaaW.PrintWords Go.Proofs.YtmgjidgfhlclmaaW.PrintLast Go.Proofs.YtmgjidgfhlclmaaW.PrintMore
attribute [local go_sem] max2_int min2_int max_two min_two max_three min_three max_four min_four   -- for this text's walks alone
set_option linter.unusedVariables false
set_option linter.unusedSimpArgs false

/-! ### spec_DeskNew: function 69 -/
def spec_DeskNew.f (k : Nat) (a0 : Int) : Option (List Int × (List (List Int)) × Bool) := (spec_NamedRow.f k a0).bind fun t363 => (some (t363, ([] : List (List Int)), decide ((t363.length : Int) > 0)))
theorem spec_DeskNew.mono : ∀ a0 k, LeO (spec_DeskNew.f k a0) (spec_DeskNew.f (k + 1) a0) := by
 intro a0 k; unfold spec_DeskNew.f; have m0 := @spec_NamedRow.mono; exact mz
set_option maxHeartbeats 8000000 in
set_option maxRecDepth 100000 in
theorem spec_DeskNew.calls (k : Nat) (a0 : Int) (r1 : List Int) (r2 : List (List Int)) (r3 : Bool) (w : World) (h : spec_DeskNew.f k a0 = some (r1, r2, r3)) :
  Calls Try.prog 69 #[.int .i64 a0] w fun e w' => ∃ v0_ v1_ : Value, e = .returned (.tuple #[.agg #[v0_, v1_], .bool r3]) ∧ Kd.R (Kd.int .i64) 3 w' w.heap.size (fun _ => True) v0_ r1 ∧ Kd.S (Kd.slice 3 (Kd.int .i64)) 23 w' w.heap.size (fun k_ => some k_ ≠ (v0_ : Value).ownBlock) v1_ r2 ∧ Below w.heap.size w w' := by
 have hu26 := Try.underlying26; have HB := qa (Below.refl w.heap.size w); have H : ((spec_NamedRow.f k a0).bind fun t363 => (some (t363, ([] : List (List Int)), decide ((t363.length : Int) > 0)))) = some (r1, r2, r3) := h; clear h; replace H := qb H; obtain ⟨t363, A2, H⟩ := H; simp only [Option.some.injEq, Prod.mk.injEq] at H; obtain ⟨rfl, rfl, rfl⟩ := H
 go_enter Try.func69, Try.ntmps69
 go_wp2_with (first | ((with_reducible refine gate_dst (N := 2) rfl ?_); refine box_event ?hg (N := 2) ?hd (cs := #[.slice none 0 0, .slice none 0 0]) (t := 26) ?hr ?_; (case hd => rfl); (case hg => rfl); (case hr => exact gr); intro gb362 hg w3 hbox hb; have BK362 := qa (hbox); have GW362 := qa ((by rw [hg]; exact (below_size (bl)) : w.heap.size ≤ gb362)); have GE362 := qa ((by rw [hg]; exact (below_size (bl)) : w.heap.size ≤ gb362)); replace HB := qa (below_step (bl) hb); clear hb hbox hg) | ((with_reducible refine gate_callee (f := 75) rfl ?_); refine goesL_ (some 6) rfl rfl Try.func75 (by kernel_rfl) rfl #[.int .i64 a0] rfl am ?_; (with_reducible refine (spec_NamedRow.calls k a0 t363 _ A2.out).mono ?_); rintro e w4 ⟨v364, rfl, ho0, hb⟩; refine ⟨_, rfl, ?_⟩; have HO365 := qa (Kd.R_lower ho0 (below_size (bl))); replace BK362 := qbb BK362 hb; replace HB := qa (below_step (bl) hb); obtain ⟨Ao5, co5, eo5⟩ := Kd.R_slice HO365.out; subst eo5; obtain ⟨hcz6_0, hcz6_1, hfz6_0, hfz6_1⟩ := qk2 BK362))
 refine bodyPost_ret (results_ct rfl _ _ gb362 26 #[.slice Ao5 t363.length co5, .slice none 0 0] (0, 0) _ rfl (by (with_reducible repeat (first | refine blk_drewN ?_ _ | refine blk_drew ?_ | refine blk_alloc ?_ _)); refine blk_put (cs := #[.slice Ao5 t363.length co5, .slice none 0 0]) ?_ 1 _ rfl; (with_reducible repeat (first | refine blk_drewN ?_ _ | refine blk_drew ?_ | refine blk_alloc ?_ _)); refine blk_put (cs := #[.slice none 0 0, .slice none 0 0]) ?_ 0 _ rfl; (with_reducible repeat (first | refine blk_drewN ?_ _ | refine blk_drew ?_ | refine blk_alloc ?_ _)); exact BK362.out) Try.underlying26 rfl (by kernel_rfl)) rfl ?_; exact ⟨_, _, er, by (with_reducible repeat (first | apply Kd.R_alloc | apply Kd.R_drewN | apply Kd.R_drew)); exact Kd.R_mono (Kd.R_far (p := ⟨gb362, 1, none⟩) (Kd.R_far (p := ⟨gb362, 0, none⟩) (Kd.R_types HO365.out BK362.out (by decide)) (fun _ hk => hk.2) (.slice Ao5 t363.length co5)) (fun _ hk => hk.2) (.slice none 0 0)) (fun _ hk => trivial), z39_, bl⟩

end Go.Proofs.Ytmgjidgfhlclmaa.PFnDeskRun
