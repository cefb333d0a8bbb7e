/-
  The row of a law over a desk, by hand, after the printed rows.
-/
import Derived.Test.YtgkgpmnaflaaeaaRows
import Derived.Test.YtgkgpmnaflaaeaaOpenDesk
import Derived.Test.YtgkgpmnaflaaeaaPureFnExactDeskOk
import Derived.WalkKit
import Derived.ProofKit
import Derived.OpenShut
import Derived.ShutString
import Derived.ChangeOld
import Derived.Below
import Derived.SizedLaws
namespace Go.Proofs.Ytgkgpmnaflaaeaa.fnExactDeskOk
open Go.ChangeShapes Go.WideShapes Go.ChangeAt Go.RowKit
set_option linter.unusedVariables false
theorem own : ownKnob Try.prog.godebug = none := by kernel_rfl
theorem laidOut : laidOutB Try.prog = true := by kernel_rfl
set_option maxRecDepth 100000 in
theorem lifted (os : Os) (started : os.Started) (H : Type) (enc : TypeId × Value → H) :
    ReturnsInHanded {} Try.checked os 3 .any (Rows.fnExactDeskOkSpec.pre6 enc Try.prog Try.f3 Rows.fnExactDeskOkRow.domain false) (Rows.fnExactDeskOkSpec.post enc Try.prog Try.f3 false true false false) := by
  refine returnsInHanded_of_change_sized (C := Try.checked) own started (by kernel_rfl) Try.func3
    (ChangeSpec.witness6 (enc := enc) (C := Try.checked) false ⟨#[], #[.agg #[.slice none 0 0, .slice none 0 0]], []⟩ 8 (by kernel_rfl) (by kernel_rfl) (by kernel_rfl) (by kernel_rfl)) ?_
  intro W base args ds gs before hval0 hW hcnd hsz0 _
  have hval : ∀ (j : Nat) t v, Try.f3.params[j]? = some t → args[j]? = some v → Value.okWide Try.prog W .any base t v := hval0
  have hW' := hW
  obtain ⟨p, q, hA0, hV, rfl, hfz, hnd⟩ := hW
  have hA : DataW.TrodAll enc Try.prog W 0 (fun _ => true) true Try.f3.params.toList args.toList ds p := hA0
  rw [Try.params3] at hA hval
  obtain ⟨v0, vs0, d0, ds0, p0, q0, hargs, rfl, rfl, h0, r0⟩ := trodAll_cons hA
  obtain ⟨rfl, rfl, rfl⟩ := trodAll_nil r0
  obtain rfl : args = #[v0] := by cases args; simp_all
  obtain ⟨rfl, rfl⟩ := trodVars_none hV
  obtain ⟨cs, rfl, hcs⟩ := okWide_struct Try.underlying25 (hval 0 25 v0 rfl rfl)
  have k0 := h0
  have lt0 : ∀ x ∈ p0, x.block < W.heap.size := by obtain ⟨m, hm⟩ := k0; exact DataW.trod_lt m _ _ _ hm
  have k25 : Try.prog.cellsOf 25 = 2 := by kernel_rfl
  rw [k25] at hcs
  obtain ⟨A0, c0, l0, A1, c1, l1, rfl, q1, q2, q3, q4, q5, q6, q7⟩ := desk_open hcs h0
  clear hA0 hval0 hsz0 h0
  obtain ⟨k, hk⟩ := Pure.FnExactDeskOk l0 l1 q5 q6 q7
  refine (PFnExactDeskOk.laws_FnExactDeskOk.calls k A0 c0 l0 A1 c1 l1 true W q1 q2 q3 q4 hk).mono fun e W' ⟨he, bel⟩ => ?_
  subst he
  exact ⟨_, rfl, _, _, _, [], _, [], hW', trodAll_mk1 (shut_bool Try.underlying4 _), (trodAll_cons_mk (Below.trod laidOut (by kernel_rfl) (of_decide_eq_true (by kernel_rfl)) k0 bel lt0) trodAll_mk0), rfl, bel.frame _, fun h => by cases h⟩
theorem over : Rows.fnExactDeskOkRow.holds Try.pinned (OpenSpec.ofChange Rows.fnExactDeskOkSpec) :=
  OpenClaim.holds_of_wide 3 Try.f3 rfl rfl rfl rfl rfl rfl rfl ⟨rfl, rfl, rfl, rfl, rfl⟩ rfl rfl rfl rfl rfl (by kernel_rfl) Try.func3 (by kernel_rfl)
    (of_decide_eq_true (by kernel_rfl)) (by unfold Func.isWrapper; first | (rw [if_pos (by decide +kernel)]; kernel_rfl) | (rw [if_neg (by decide +kernel)]; exact ⟨rfl, rfl⟩))
    (fun os started H enc _ => lifted os started H enc)
theorem proved : Rows.FnExactDeskOkSaid := over
#print axioms proved
end Go.Proofs.Ytgkgpmnaflaaeaa.fnExactDeskOk
namespace Go.Proofs.Ytgkgpmnaflaaeaa
/-- The row, under a short name, for the claim. -/
theorem fnExactDeskOk_holds : Rows.FnExactDeskOkSaid := fnExactDeskOk.proved
end Go.Proofs.Ytgkgpmnaflaaeaa
