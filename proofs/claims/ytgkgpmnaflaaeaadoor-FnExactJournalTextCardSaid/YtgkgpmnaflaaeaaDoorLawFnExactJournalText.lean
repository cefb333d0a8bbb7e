/-
  The tied card of the law FnExactJournalText: for every argument the call returns true. Conditions: the library's tables start as their own initialisers lay them (tied by the given tie).
-/
import Derived.Test.YtgkgpmnaflaaeaaDoorCards
import Derived.Test.YtgkgpmnaflaaeaaDoorTie
import Derived.Test.YtgkgpmnaflaaeaaDoorPFnExactJournalTextx6
import Derived.Test.YtgkgpmnaflaaeaaDoorPureFnExactJournalText
import Derived.WalkKit
import Derived.ProofKit
import Derived.OpenShut
import Derived.ShutString
import Derived.ChangeOld
import Derived.ChangeSame
import Derived.Below
import Derived.SizedLaws
import Derived.Deep.DeepHandedRow
import Derived.Deep.DeepWitnessRowRef
import Derived.Lib.LaidTab
import Derived.LaidMore
import Derived.Deep.Strs
import Derived.Deep.Slices
import Derived.Test.YtgkgpmnaflaaeaaDoorWSized
namespace Go.Proofs.YtgkgpmnaflaaeaaDoor.fnExactJournalText
open Go.ChangeShapes Go.WideShapes Go.ChangeAt Go.RowKit Go.Deep Go.Proofs.YtgkgpmnaflaaeaaDoorW.PrintWords
open Go.ChangeMaps (open_string shut_string)
set_option linter.unusedVariables false
theorem own : ownKnob Tryd.prog.godebug = none := by kernel_rfl
theorem laidOut : laidOutB Tryd.prog = true := by kernel_rfl
theorem gPow : Tryd.prog.globalNamed "internal/strconv.uint64pow10" = some 0 := by kernel_rfl
theorem gPowType : (Tryd.prog.globals[0]?).map (·.type) = some 48 := by kernel_rfl
theorem powData : (Rows.laid_internal_strconv_uint64pow10 : DataW Unit) = Go.Lib.tabData .u64 Go.Lib.pow10Tab := by rfl
theorem gl_of {W : World} (hL : laidMetH Tryd.prog Rows.fnExactJournalTextRow.laid W) (hsh : W.ShapedOpen Tryd.prog) : PFnExactJournalText.GL W := by
  have h : laidMet Tryd.prog Rows.fnExactJournalTextRow.laid W := hL
  obtain ⟨ps, ⟨g0, t0, cs0, f0, p0, q0, hg0, ht0, hv0, hd0, ⟨g1, t1, cs1, f1, p1, q1, hg1, ht1, hv1, hd1, ⟨g2, t2, cs2, f2, p2, q2, hg2, ht2, hv2, hd2, _, _⟩, _⟩, _⟩, _, _⟩ := h
  obtain rfl := Option.some.inj (gPow.symm.trans hg2)
  obtain rfl := Option.some.inj (gPowType.symm.trans ht2)
  have tab : Go.Lib.TabIs Tryd.prog W "internal/strconv.uint64pow10" .u64 Go.Lib.pow10Tab := by
    unfold Go.Lib.TabIs
    rw [powData] at hd2
    rw [hv2, ← Go.Lib.cells_of_tab Tryd.underlying48 Tryd.underlying41 (by kernel_rfl) (by kernel_rfl) hd2]
  exact ⟨tab⟩
set_option maxRecDepth 100000 in
theorem deeds_open {H : Type} {enc : TypeId × Value → H} {W : World} {a0 : Option Addr} {len0 cap0 : Nat} {d : DataW H} {p : List MemPlace} (h : DataW.Trod enc Tryd.prog W 0 (fun _ => true) true 28 (.slice a0 len0 cap0) d p) :
    ∃ l : List PFnExactJournalText.S23, len0 = l.length ∧ Kd.C PFnExactJournalText.k23 W a0 l.length l ∧ l.length ≤ cap0 ∧ l.length ≤ 9223372036854775807 := by
  obtain ⟨fuel, hf⟩ := h
  rcases open_slice Tryd.underlying28 hf with ⟨hcs, _⟩ | ⟨a, len, cap, m, n, D, Pl, hcs, _, hl, hm, hmm, _, hr⟩
  · have e := (List.cons.inj hcs).1
    injection e with e1 e2 e3
    subst e1; subst e2; subst e3
    exact ⟨[], rfl, ⟨rfl, by simp, fun hn => by simp at hn⟩, by simp, by simp⟩
  · have e := (List.cons.inj hcs).1
    injection e with e1 e2 e3
    subst e1; subst e2; subst e3
    have kT : Tryd.prog.cellsOf 23 = 3 := by kernel_rfl
    have k3 : Tryd.prog.cellsOf 3 = 1 := by kernel_rfl
    rw [kT] at hr
    have hM : maxLen = 9223372036854775807 := rfl
    have each : ∀ i, i < len0 → ∃ x : PFnExactJournalText.S23, W.cell? (a.add (i * 3)) = some (.int .i64 x.f0) ∧ W.cell? (a.add (i * 3 + 1)) = some (.int .i64 x.f1) ∧ W.cell? (a.add (i * 3 + 2)) = some (.int .i64 x.f2) := by
      intro i hi
      obtain ⟨cs', h1, h2⟩ := hr i (by have hq := hmm; simp at hq; omega)
      obtain ⟨_, hl3, hc⟩ := World.cells?_some h1
      obtain ⟨u0, u1, u2, rfl⟩ : ∃ u0 u1 u2, cs' = [u0, u1, u2] := by
        match cs', hl3 with
        | [u0, u1, u2], _ => exact ⟨u0, u1, u2, rfl⟩
      obtain ⟨y0, y1, y2, n', hx, hl', e0, e1, e2⟩ := trod_struct3 Tryd.underlying23 h2
      have e0 : DataW.trod enc Tryd.prog W 0 (fun _ => true) true n' 3 [u0] = some y0 := by rw [k3] at e0; exact e0
      have e1 : DataW.trod enc Tryd.prog W 0 (fun _ => true) true n' 3 [u1] = some y1 := by rw [k3] at e1; exact e1
      have e2 : DataW.trod enc Tryd.prog W 0 (fun _ => true) true n' 3 [u2] = some y2 := by rw [k3] at e2; exact e2
      obtain ⟨z0, q0, _⟩ := DataW.trod_int Tryd.underlying3 e0
      obtain ⟨z1, q1, _⟩ := DataW.trod_int Tryd.underlying3 e1
      obtain ⟨z2, q2, _⟩ := DataW.trod_int Tryd.underlying3 e2
      have r0 := (List.cons.inj q0).1; have r1 := (List.cons.inj q1).1; have r2 := (List.cons.inj q2).1
      subst r0; subst r1; subst r2
      refine ⟨⟨z0, z1, z2⟩, ?_, ?_, ?_⟩
      · have := hc 0 (by omega); rw [Go.Deep.add_add, Nat.add_zero] at this; exact this
      · have := hc 1 (by omega); rw [Go.Deep.add_add] at this; exact this
      · have := hc 2 (by omega); rw [Go.Deep.add_add] at this; exact this
    haveI : Inhabited PFnExactJournalText.S23 := ⟨PFnExactJournalText.z23⟩
    obtain ⟨y, hy⟩ := choose_lt each
    have hlen : ((List.range len0).map y).length = len0 := by simp
    refine ⟨(List.range len0).map y, hlen.symm, ⟨rfl, by omega, fun _ => ⟨a, rfl, fun j q hq => ?_⟩⟩, by omega, by omega⟩
    have hj : j < len0 := by
      have := (List.getElem?_eq_some_iff.1 hq).1
      omega
    have hq2 : q = y j := by
      rw [List.getElem?_map, List.getElem?_range hj] at hq
      exact (Option.some.inj hq).symm
    subst hq2
    obtain ⟨z1, z2, z3⟩ := hy j hj
    refine ⟨[.int .i64 (y j).f0, .int .i64 (y j).f1, .int .i64 (y j).f2], rfl, PFnExactJournalText.k23_mk W (y j), fun i u hu => ?_⟩
    match i, hu with
    | 0, hu => obtain rfl := Option.some.inj hu; exact z1
    | 1, hu => obtain rfl := Option.some.inj hu; exact z2
    | 2, hu => obtain rfl := Option.some.inj hu; exact z3
noncomputable abbrev door (os : Os) : World := World.doorLaid Tryd.prog 400 os
theorem door_met (os : Os) (args : Array Value) : laidMetH Tryd.prog Rows.fnExactJournalTextRow.laid ((door os).forCall (fun _ _ => 0) ⟨#[], args, []⟩).memory :=
  laidMetH_of_parts3 (fuel := 8) (laidMet_of_run' 8 (by kernel_rfl) (by kernel_rfl)) (by kernel_rfl) (by kernel_rfl)
theorem reads (os : Os) {H : Type} (enc : TypeId × Value → H) : ∃ places, DataW.whole enc Tryd.prog ((door os).forCall (fun _ _ => 0) ⟨#[], #[.slice none 0 0], []⟩).memory Tryd.f4.params.toList Rows.fnExactJournalTextSpec.vars false (#[.slice none 0 0] : Array Value).toList 8 = some ([.nil], [], places) :=
  ⟨[], by kernel_rfl⟩
set_option maxRecDepth 100000 in
theorem lifted (os : Os) (started : os.Started) (H : Type) (enc : TypeId × Value → H) (F : Stop.Interp) :
    ReturnsInHanded {} Tryd.checked os 4 .any ((OpenSpec.ofChange Rows.fnExactJournalTextSpec).preRow enc Tryd.prog Tryd.f4 Rows.fnExactJournalTextRow.domain false Rows.fnExactJournalTextRow.laid) (((OpenSpec.ofChange Rows.fnExactJournalTextSpec).at F).post enc Tryd.prog Tryd.f4 false true false false) := by
  obtain ⟨places, hx⟩ := reads os enc
  refine returnsInHanded_of_row (C := Tryd.checked) (s := OpenSpec.ofChange Rows.fnExactJournalTextSpec) own started (by kernel_rfl) Tryd.func4
    (witness_row_atRef (enc := enc) (C := Tryd.checked) false (door os) #[.slice none 0 0] rfl (by kernel_rfl) (by kernel_rfl) (by kernel_rfl)
      (OpenSpec.preRow_of_cond 8 hx (by kernel_rfl) (fun k hk => by cases hk) (by kernel_rfl) (by first | exact door_met os _ | exact laidMet_of_run' 8 (by kernel_rfl) (by kernel_rfl)))) ?_
  clear hx places
  intro W base args ds gs before hval0 hW _ _ hsz0 hL hsh _
  have hG : PFnExactJournalText.GL W := gl_of hL hsh
  clear hL hsh
  have hsz : (DataW.weightsEach Tryd.prog (Tryd.f4.params.toList ++ Rows.fnExactJournalTextSpec.plain.varTypes Tryd.prog) (ds ++ gs)).all (· ≤ reachBytes) = true := hsz0
  have hval : ∀ (j : Nat) t v, Tryd.f4.params[j]? = some t → args[j]? = some v → Value.okWide Tryd.prog W .any base t v := hval0
  have hW' := hW
  obtain ⟨p, q, hA0, hV, rfl, hfz, hnd⟩ := hW
  have hA : DataW.TrodAll enc Tryd.prog W 0 (fun _ => true) true Tryd.f4.params.toList args.toList ds p := hA0
  rw [Tryd.params4] at hA hval hsz
  obtain ⟨v0, vs0, d0, ds0, p0, q0, hargs, rfl, rfl, h0, r0⟩ := trodAll_cons hA
  obtain ⟨rfl, rfl, rfl⟩ := trodAll_nil r0
  obtain rfl : args = #[v0] := by cases args; simp_all
  obtain ⟨rfl, rfl⟩ := trodVars_none hV
  obtain ⟨a0, len0, cap0, rfl⟩ := okWide_slice Tryd.underlying28 (hval 0 28 v0 rfl rfl)
  have k0 := h0
  have lt0 : ∀ x ∈ p0, x.block < W.heap.size := by obtain ⟨m, hm⟩ := k0; exact DataW.trod_lt m _ _ _ hm
  obtain ⟨l, rfl, q1, q2, q3⟩ := deeds_open h0
  clear hA0 hval0 hsz0 h0
  obtain ⟨k, hk⟩ := Pure.FnExactJournalText l q3
  refine (PFnExactJournalText.laws_FnExactJournalText.calls k a0 cap0 l true W q1 q2 hk hG).mono fun e W' ⟨he, bel⟩ => ?_
  subst he
  exact ⟨_, rfl, _, _, _, [], _, [], hW', trodAll_mk1 (shut_bool Tryd.underlying4 _), (trodAll_cons_mk (Below.trod laidOut (by kernel_rfl) (of_decide_eq_true (by kernel_rfl)) k0 bel lt0) trodAll_mk0), rfl, bel.frame _, fun h => by cases h⟩
theorem said : Rows.FnExactJournalTextSaid :=
  OpenClaim.holds_of_cond 4 Tryd.f4 rfl rfl rfl rfl rfl rfl rfl ⟨rfl, rfl, rfl, rfl, rfl⟩ rfl rfl rfl rfl rfl (by kernel_rfl) Tryd.func4 (by kernel_rfl)
    (of_decide_eq_true (by kernel_rfl)) (by unfold Func.isWrapper; first | (rw [if_pos (by decide +kernel)]; kernel_rfl) | (rw [if_neg (by decide +kernel)]; exact ⟨rfl, rfl⟩))
    (fun os started H enc _ F => by rw [OpenClaim.pre_eq_preRow]; exact lifted os started H enc F)
theorem plain (f : FuncId) (fn : Func) (hf : Tryd.pinned.checked.prog.funcNamed "loop.example/divisorrows/laws.FnExactJournalText" = some f) (hfn : Tryd.pinned.checked.prog.funcs[f]? = some fn) :
    false = Tryd.pinned.checked.prog.looks [] ∧ ∀ (j : Nat) t, fn.params[j]? = some t → Tryd.pinned.checked.prog.wantsStandIn t = false := by
  obtain rfl : f = 4 := Option.some.inj ((show Tryd.prog.funcNamed "loop.example/divisorrows/laws.FnExactJournalText" = some 4 by kernel_rfl).symm.trans hf) |>.symm
  obtain rfl : fn = Tryd.f4 := (Option.some.inj (Tryd.func4.symm.trans hfn)).symm
  refine ⟨by kernel_rfl, fun j t ht => ?_⟩
  rw [Tryd.params4] at ht
  obtain rfl : t = 28 := by simpa using Array.mem_of_getElem? ht
  exact (show Tryd.prog.wantsStandIn 28 = false by kernel_rfl)
theorem card : Rows.FnExactJournalTextCardSaid :=
  Claim7.holds_tied_plain_at .later [] _ _ _ _ said (fun _ h => by cases h) (by kernel_rfl) (fun _ h => by cases h) fnExactJournalText_row_tie rfl ⟨rfl, rfl⟩ (by kernel_rfl) rfl plain (by kernel_rfl)
#print axioms card
end Go.Proofs.YtgkgpmnaflaaeaaDoor.fnExactJournalText
namespace Go.Proofs.YtgkgpmnaflaaeaaDoor
/-- The card, under a short name, for the claim. -/
theorem fnExactJournalText_holds : Rows.FnExactJournalTextCardSaid := fnExactJournalText.card
end Go.Proofs.YtgkgpmnaflaaeaaDoor
