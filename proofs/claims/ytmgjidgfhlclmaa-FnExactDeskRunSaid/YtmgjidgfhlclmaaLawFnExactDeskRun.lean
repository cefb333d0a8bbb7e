/-
  The row of a law over a desk and what is done to it, by hand, after the printed rows.
-/
import Derived.Test.YtmgjidgfhlclmaaRows
import Derived.Test.YtmgjidgfhlclmaaOpenDesk
import Derived.Test.YtmgjidgfhlclmaaPureFnExactDeskRun
import Derived.WalkKit
import Derived.ProofKit
import Derived.OpenShut
import Derived.ShutString
import Derived.ChangeOld
import Derived.Below
import Derived.SizedLaws
namespace Go.Proofs.Ytmgjidgfhlclmaa.fnExactDeskRun
open Go.ChangeShapes Go.WideShapes Go.ChangeAt Go.RowKit Go.Deep Go.Proofs.YtmgjidgfhlclmaaW.PrintWords
set_option linter.unusedVariables false
set_option maxRecDepth 100000 in
theorem deeds_open {H : Type} {enc : TypeId × Value → H} {W : World} {a0 : Option Addr} {len0 cap0 : Nat} {d : DataW H} {p : List MemPlace} (h : DataW.Trod enc Try.prog W 0 (fun _ => true) true 53 (.slice a0 len0 cap0) d p) :
    ∃ l : List PFnExactDeskRun.S42, len0 = l.length ∧ Kd.C PFnExactDeskRun.k42 W a0 l.length l ∧ l.length ≤ cap0 ∧ l.length ≤ 9223372036854775807 := by
  obtain ⟨fuel, hf⟩ := h
  rcases open_slice Try.underlying53 hf with ⟨hcs, _⟩ | ⟨a, len, cap, m, n, D, Pl, hcs, _, hl, hm, hmm, _, hr⟩
  · have e := (List.cons.inj hcs).1
    injection e with e1 e2 e3
    subst e1; subst e2; subst e3
    exact ⟨[], rfl, ⟨rfl, by simp, fun hn => by simp at hn⟩, by simp, by simp⟩
  · have e := (List.cons.inj hcs).1
    injection e with e1 e2 e3
    subst e1; subst e2; subst e3
    have kT : Try.prog.cellsOf 42 = 3 := by kernel_rfl
    have k3 : Try.prog.cellsOf 3 = 1 := by kernel_rfl
    rw [kT] at hr
    have hM : maxLen = 9223372036854775807 := rfl
    have each : ∀ i, i < len0 → ∃ x : PFnExactDeskRun.S42, W.cell? (a.add (i * 3)) = some (.int .i64 x.f0) ∧ W.cell? (a.add (i * 3 + 1)) = some (.int .i64 x.f1) ∧ W.cell? (a.add (i * 3 + 2)) = some (.int .i64 x.f2) := by
      intro i hi
      obtain ⟨cs', h1, h2⟩ := hr i (by have hq := hmm; simp at hq; omega)
      obtain ⟨_, hl3, hc⟩ := World.cells?_some h1
      obtain ⟨u0, u1, u2, rfl⟩ : ∃ u0 u1 u2, cs' = [u0, u1, u2] := by
        match cs', hl3 with
        | [u0, u1, u2], _ => exact ⟨u0, u1, u2, rfl⟩
      obtain ⟨y0, y1, y2, n', hx, hl', e0, e1, e2⟩ := trod_struct3 Try.underlying42 h2
      have e0 : DataW.trod enc Try.prog W 0 (fun _ => true) true n' 3 [u0] = some y0 := by rw [k3] at e0; exact e0
      have e1 : DataW.trod enc Try.prog W 0 (fun _ => true) true n' 3 [u1] = some y1 := by rw [k3] at e1; exact e1
      have e2 : DataW.trod enc Try.prog W 0 (fun _ => true) true n' 3 [u2] = some y2 := by rw [k3] at e2; exact e2
      obtain ⟨z0, q0, _⟩ := DataW.trod_int Try.underlying3 e0
      obtain ⟨z1, q1, _⟩ := DataW.trod_int Try.underlying3 e1
      obtain ⟨z2, q2, _⟩ := DataW.trod_int Try.underlying3 e2
      have r0 := (List.cons.inj q0).1; have r1 := (List.cons.inj q1).1; have r2 := (List.cons.inj q2).1
      subst r0; subst r1; subst r2
      refine ⟨⟨z0, z1, z2⟩, ?_, ?_, ?_⟩
      · have := hc 0 (by omega); rw [Go.Deep.add_add, Nat.add_zero] at this; exact this
      · have := hc 1 (by omega); rw [Go.Deep.add_add] at this; exact this
      · have := hc 2 (by omega); rw [Go.Deep.add_add] at this; exact this
    haveI : Inhabited PFnExactDeskRun.S42 := ⟨PFnExactDeskRun.z42⟩
    obtain ⟨y, hy⟩ := choose_lt each
    have hlen : ((List.range len0).map y).length = len0 := by simp
    refine ⟨(List.range len0).map y, hlen.symm, ⟨rfl, by omega, fun _ => ⟨a, rfl, fun j q hq => ?_⟩⟩, by omega, by omega⟩
    have hj : j < len0 := by
      have := (List.getElem?_eq_some_iff.1 hq).1
      omega
    have hq2 : q = y j := by
      rw [List.getElem?_map, List.getElem?_range hj] at hq
      exact (Option.some.inj hq).symm
    subst hq2
    obtain ⟨z1, z2, z3⟩ := hy j hj
    refine ⟨[.int .i64 (y j).f0, .int .i64 (y j).f1, .int .i64 (y j).f2], rfl, PFnExactDeskRun.k42_mk W (y j), fun i u hu => ?_⟩
    match i, hu with
    | 0, hu => obtain rfl := Option.some.inj hu; exact z1
    | 1, hu => obtain rfl := Option.some.inj hu; exact z2
    | 2, hu => obtain rfl := Option.some.inj hu; exact z3
theorem own : ownKnob Try.prog.godebug = none := by kernel_rfl
theorem laidOut : laidOutB Try.prog = true := by kernel_rfl
set_option maxRecDepth 100000 in
theorem lifted (os : Os) (started : os.Started) (H : Type) (enc : TypeId × Value → H) :
    ReturnsInHanded {} Try.checked os 6 .any (Rows.fnExactDeskRunSpec.pre6 enc Try.prog Try.f6 Rows.fnExactDeskRunRow.domain false) (Rows.fnExactDeskRunSpec.post enc Try.prog Try.f6 false true false false) := by
  refine returnsInHanded_of_change_sized (C := Try.checked) own started (by kernel_rfl) Try.func6
    (ChangeSpec.witness6 (enc := enc) (C := Try.checked) false ⟨#[], #[.agg #[.slice none 0 0, .slice none 0 0], .slice none 0 0], []⟩ 8 (by kernel_rfl) (by kernel_rfl) (by kernel_rfl) (by kernel_rfl)) ?_
  intro W base args ds gs before hval0 hW hcnd hsz0 _
  have hval : ∀ (j : Nat) t v, Try.f6.params[j]? = some t → args[j]? = some v → Value.okWide Try.prog W .any base t v := hval0
  have hW' := hW
  obtain ⟨p, q, hA0, hV, rfl, hfz, hnd⟩ := hW
  have hA : DataW.TrodAll enc Try.prog W 0 (fun _ => true) true Try.f6.params.toList args.toList ds p := hA0
  rw [Try.params6] at hA hval
  obtain ⟨v0, vs0, d0, ds0, p0, q0, hargs, rfl, rfl, h0, r0⟩ := trodAll_cons hA
  obtain ⟨v1, vs1, d1, ds1, p1, q1, rfl, rfl, rfl, h1, r1⟩ := trodAll_cons r0
  obtain ⟨rfl, rfl, rfl⟩ := trodAll_nil r1
  obtain rfl : args = #[v0, v1] := by cases args; simp_all
  obtain ⟨rfl, rfl⟩ := trodVars_none hV
  obtain ⟨cs, rfl, hcs⟩ := okWide_struct Try.underlying41 (hval 0 41 v0 rfl rfl)
  obtain ⟨a1, len1, cap1, rfl⟩ := okWide_slice Try.underlying53 (hval 1 53 v1 rfl rfl)
  have k0 := h0
  have lt0 : ∀ x ∈ p0, x.block < W.heap.size := by obtain ⟨m, hm⟩ := k0; exact DataW.trod_lt m _ _ _ hm
  have k1 := h1
  have lt1 : ∀ x ∈ p1, x.block < W.heap.size := by obtain ⟨m, hm⟩ := k1; exact DataW.trod_lt m _ _ _ hm
  have kD : Try.prog.cellsOf 41 = 2 := by kernel_rfl
  rw [kD] at hcs
  obtain ⟨A0, c0, l0, A1, c1, l1, rfl, q1, q2, q3, q4, q5, q6, q7⟩ := desk_open hcs h0
  obtain ⟨l, rfl, b1, b2, b3⟩ := deeds_open h1
  clear hA0 hval0 hsz0 h0 h1
  obtain ⟨k, hk⟩ := Pure.FnExactDeskRun l0 l1 l q5 q6 q7 b3
  refine (PFnExactDeskRun.laws_FnExactDeskRun.calls k A0 c0 l0 A1 c1 l1 a1 cap1 l W q1 q2 q3 q4 b1 b2 hk).mono fun e W' ⟨he, bel⟩ => ?_
  subst he
  exact ⟨_, rfl, _, _, _, [], _, [], hW', trodAll_mk1 (shut_bool Try.underlying4 _), (trodAll_cons_mk (Below.trod laidOut (by kernel_rfl) (of_decide_eq_true (by kernel_rfl)) k0 bel lt0) (trodAll_cons_mk (Below.trod laidOut (by kernel_rfl) (of_decide_eq_true (by kernel_rfl)) k1 bel lt1) trodAll_mk0)), rfl, bel.frame _, fun h => by cases h⟩
theorem over : Rows.fnExactDeskRunRow.holds Try.pinned (OpenSpec.ofChange Rows.fnExactDeskRunSpec) :=
  OpenClaim.holds_of_wide 6 Try.f6 rfl rfl rfl rfl rfl rfl rfl ⟨rfl, rfl, rfl, rfl, rfl⟩ rfl rfl rfl rfl rfl (by kernel_rfl) Try.func6 (by kernel_rfl)
    (of_decide_eq_true (by kernel_rfl)) (by unfold Func.isWrapper; first | (rw [if_pos (by decide +kernel)]; kernel_rfl) | (rw [if_neg (by decide +kernel)]; exact ⟨rfl, rfl⟩))
    (fun os started H enc _ => lifted os started H enc)
theorem proved : Rows.FnExactDeskRunSaid := over
#print axioms proved
end Go.Proofs.Ytmgjidgfhlclmaa.fnExactDeskRun
namespace Go.Proofs.Ytmgjidgfhlclmaa
/-- The row, under a short name, for the claim. -/
theorem fnExactDeskRun_holds : Rows.FnExactDeskRunSaid := fnExactDeskRun.proved
end Go.Proofs.Ytmgjidgfhlclmaa
