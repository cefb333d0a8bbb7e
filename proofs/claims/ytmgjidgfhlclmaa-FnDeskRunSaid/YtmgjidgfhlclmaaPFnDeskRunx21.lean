-- Written for this claim by a program of this session (wip/myprint.sh), after the kit's print; some functions by hand
import Derived.Test.YtmgjidgfhlclmaaPFnDeskRunx0
import Derived.Test.YtmgjidgfhlclmaaPFnDeskRunx2
import Derived.Test.YtmgjidgfhlclmaaWPress
namespace Go.Proofs.Ytmgjidgfhlclmaa.PFnDeskRun
open Go.RowKit Go.Proofs.YtmgjidgfhlclmaaW.PrintWords Go.Proofs.YtmgjidgfhlclmaaW.PrintLast Go.Proofs.YtmgjidgfhlclmaaW.PrintMore
attribute [local go_sem] max2_int min2_int max_two min_two max_three min_three max_four min_four   -- for this text's walks alone
set_option linter.unusedVariables false
set_option linter.unusedSimpArgs false

/-! ### laws_noDesk: function 26 -/
def laws_noDesk.f (k : Nat) (l0_0 : List Int) (l0_1 : List (List Int)) : Option (Bool) := (laws_sameDesk.f k l0_0 l0_1 ([] : List Int) ([] : List (List Int))).bind fun t638 => (some t638)
set_option maxHeartbeats 8000000 in
set_option maxRecDepth 100000 in
theorem laws_noDesk.calls (k : Nat) (A0_0 : Option Addr) (c0_0 : Nat) (l0_0 : List Int) (A0_1 : Option Addr) (c0_1 : Nat) (l0_1 : List (List Int)) (r : Bool) (w : World) (hr0_0 : Kd.C (Kd.int .i64) w A0_0 l0_0.length l0_0) (hc0_0 : l0_0.length ≤ c0_0) (hr0_1 : Kd.C (Kd.slice 3 (Kd.int .i64)) w A0_1 l0_1.length l0_1) (hc0_1 : l0_1.length ≤ c0_1) (h : laws_noDesk.f k l0_0 l0_1 = some r) :
  Calls Try.prog 26 #[.agg #[.slice A0_0 l0_0.length c0_0, .slice A0_1 l0_1.length c0_1]] w fun e w' => e = .returned (.bool r) ∧ Below w.heap.size w w' := by
 have hu26 := Try.underlying26; have HR0_0 := qa hr0_0; have HC0_0 := qa hc0_0; clear hr0_0 hc0_0; have HR0_1 := qa hr0_1; have HC0_1 := qa hc0_1; clear hr0_1 hc0_1; have HB := qa (Below.refl w.heap.size w); have H : ((laws_sameDesk.f k l0_0 l0_1 ([] : List Int) ([] : List (List Int))).bind fun t638 => (some t638)) = some r := h; clear h; replace H := qb H; obtain ⟨t638, A2, H⟩ := H; obtain rfl := Option.some.inj H
 go_enter Try.func26, Try.ntmps26
 go_wp2_with (first | ((with_reducible refine gate_dst (N := 1) rfl ?_); refine box_event ?hg (N := 1) ?hd (cs := #[.slice A0_0 l0_0.length c0_0, .slice A0_1 l0_1.length c0_1]) (t := 26) ?hr ?_; (case hd => rfl); (case hg => rfl); (case hr => exact gr); intro gb637 hg w3 hbox hb; have BK637 := qa (hbox); have GW637 := qa ((by rw [hg]; exact (below_size (bl)) : w.heap.size ≤ gb637)); have GE637 := qa ((by rw [hg]; exact (below_size (bl)) : w.heap.size ≤ gb637)); replace HB := qa (below_step (bl) hb); clear hb hbox hg; obtain ⟨hcz4_0, hcz4_1, hfz4_0, hfz4_1⟩ := qk2 BK637) | ((with_reducible refine gate_callee (f := 10) rfl ?_); refine goesL_ (some 5) rfl rfl Try.func10 (by kernel_rfl) rfl #[.agg #[.slice A0_0 l0_0.length c0_0, .slice A0_1 l0_1.length c0_1], .agg #[.slice none 0 0, .slice none 0 0]] rfl am ?_; (refine (laws_sameDesk.calls k _ _ l0_0 _ _ l0_1 _ _ ([] : List Int) _ _ ([] : List (List Int)) t638 _ ?side1 ?side2 ?side3 ?side4 ?side5 ?side6 ?side7 ?side8 A2.out).mono ?_); (case side1 => exact cx (Kd.C_below HR0_0.out HB.out)); (case side2 => exact HC0_0.out); (case side3 => exact cx (Kd.C_below HR0_1.out HB.out)); (case side4 => exact HC0_1.out); (case side5 => exact Kd.C_nil _ _); (case side6 => exact Nat.le_refl _); (case side7 => exact Kd.C_nil _ _); (case side8 => exact Nat.le_refl _); rintro e w5 ⟨rfl, hb⟩; refine ⟨_, rfl, ?_⟩; replace BK637 := qbb BK637 hb; replace HB := qa (below_step (bl) hb)))
 go_ret; exact ⟨er, bl⟩

end Go.Proofs.Ytmgjidgfhlclmaa.PFnDeskRun
