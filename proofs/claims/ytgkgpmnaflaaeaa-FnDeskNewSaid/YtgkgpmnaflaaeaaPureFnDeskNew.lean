/-
  A new desk has one row, the named one; and the program and the reference agree: ten names are drawn, each is asked of the kernel.
-/
import Derived.Test.YtgkgpmnaflaaeaaPFnDeskNewx7
import Derived.Test.YtgkgpmnaflaaeaaLib
import Derived.Test.YtgkgpmnaflaaeaaLibDraw
namespace Go.Proofs.Ytgkgpmnaflaaeaa.Pure
open Go.RowKit Go.Proofs.Ytgkgpmnaflaaeaa.PFnDeskNew Go.Proofs.YtgkgpmnaflaaeaaW.PrintWords Go.Proofs.YtgkgpmnaflaaeaaW.PrintLast Go.Proofs.YtgkgpmnaflaaeaaW.PrintMore Go.Proofs.Ytgkgpmnaflaaeaa.Lib
set_option linter.unusedVariables false
set_option linter.unusedSimpArgs false

theorem pick_ev {bs : List Int} (hb : Bytes bs) (hl : bs.length ≤ 2000) {p n : Int} (h0 : 0 ≤ p) (h1 : p ≤ 1000000) (hn : 1 ≤ n) :
    ∃ r, 0 ≤ r ∧ r < n ∧ Ev (fun k => spec_l20Rd_pick.f k bs p n) (r, p + 1) := by
  have ep : wrap64 (p + 1) = p + 1 := w64 (by omega) (by omega)
  have e1 : wrap64 (p + 1 - 1) = p := by rw [w64 (by omega) (by omega)]; omega
  have hf : ∀ k, spec_l20Rd_pick.f k bs p n = spec_l20Rd_pick.j0 k n ((bs.length : Int) == 0) bs (p + 1) := by
    intro k
    unfold spec_l20Rd_pick.f
    rw [if_neg (by omega), ep]
  by_cases hz : bs.length = 0
  · refine ⟨0, by omega, by omega, Ev.congr hf (Ev.step (fun k => ?_) (Ev.now _))⟩
    simp only [spec_l20Rd_pick.j0]
    rw [if_pos (by simp [hz])]
  · have hz2 : ((bs.length : Int) == 0) = false := by simpa using hz
    by_cases hp : p < (bs.length : Int)
    · have hr := hb.at_ p
      have ht := tmod_range hr.1 hn
      refine ⟨Int.tmod (rd bs p) n, ht.1, ht.2, Ev.congr hf (Ev.step (fun k => ?_) (Ev.now _))⟩
      simp only [spec_l20Rd_pick.j0, hz2, e1]
      rw [if_neg (by simp), if_pos hp, if_pos h0, if_neg (by omega), w64 (by omega) (by omega)]
    · have hl1 : (1 : Int) ≤ (bs.length : Int) := by omega
      have t1 := tmod_range h0 hl1
      have t2 := tmod_range (show 0 ≤ p * 7 + 3 by omega) hl1
      have t3 := tdiv_range h0 hl1
      have e7 : wrap64 (p * 7) = p * 7 := w64 (by omega) (by omega)
      have e73 : wrap64 (p * 7 + 3) = p * 7 + 3 := w64 (by omega) (by omega)
      have u1 := hb.at_ (Int.tmod p (bs.length : Int))
      have u2 := hb.at_ (Int.tmod (p * 7 + 3) (bs.length : Int))
      have key : ∀ k, spec_l20Rd_pick.j0 (k + 1) n ((bs.length : Int) == 0) bs (p + 1) = some (Int.tmod (Go.bits .xor .i64 (rd bs (Int.tmod p (bs.length : Int)) * 131 + rd bs (Int.tmod (p * 7 + 3) (bs.length : Int)) * 1117 + p * 29 + Int.tdiv p (bs.length : Int) * 53) (Int.tdiv (rd bs (Int.tmod p (bs.length : Int)) * 131 + rd bs (Int.tmod (p * 7 + 3) (bs.length : Int)) * 1117 + p * 29 + Int.tdiv p (bs.length : Int) * 53) 64)) n, p + 1) := by
        intro k
        simp only [spec_l20Rd_pick.j0, hz2, e1, e7, e73]
        rw [if_neg (by simp), if_neg hp, if_neg (by omega), if_pos t1.1, if_pos t1.2, if_pos t2.1, if_pos t2.2, if_neg (by omega)]
        generalize rd bs (Int.tmod p (bs.length : Int)) = u at *
        generalize rd bs (Int.tmod (p * 7 + 3) (bs.length : Int)) = v at *
        generalize Int.tdiv p (bs.length : Int) = q at *
        rw [w64 (n := u) (by omega) (by omega), w64 (n := v) (by omega) (by omega), w64 (n := u * 131) (by omega) (by omega), w64 (n := v * 1117) (by omega) (by omega), w64 (n := u * 131 + v * 1117) (by omega) (by omega), w64 (n := p * 29) (by omega) (by omega), w64 (n := u * 131 + v * 1117 + p * 29) (by omega) (by omega), w64 (n := q) (by omega) (by omega), w64 (n := q * 53) (by omega) (by omega), w64 (n := u * 131 + v * 1117 + p * 29 + q * 53) (by omega) (by omega)]
        have t4 := tdiv_range (show 0 ≤ u * 131 + v * 1117 + p * 29 + q * 53 by omega) (show (1 : Int) ≤ 64 by omega)
        rw [w64 (n := Int.tdiv (u * 131 + v * 1117 + p * 29 + q * 53) 64) (by omega) (by omega)]
      generalize rd bs (Int.tmod p (bs.length : Int)) = u at *
      generalize rd bs (Int.tmod (p * 7 + 3) (bs.length : Int)) = v at *
      generalize Int.tdiv p (bs.length : Int) = q at *
      have t4 := tdiv_range (show 0 ≤ u * 131 + v * 1117 + p * 29 + q * 53 by omega) (show (1 : Int) ≤ 64 by omega)
      have hx := xor_pos (a := u * 131 + v * 1117 + p * 29 + q * 53) (b := Int.tdiv (u * 131 + v * 1117 + p * 29 + q * 53) 64) (by omega) (by omega) (by omega) (by omega)
      have ht := tmod_range hx hn
      exact ⟨_, ht.1, ht.2, Ev.congr hf (Ev.step key (Ev.now _))⟩
theorem open_ev {l0 : List Int} (hb : Bytes l0) : ∃ bs, Bytes bs ∧ bs.length ≤ 2000 ∧ spec_l20Open.f l0 = some (bs, 0) := by
  unfold spec_l20Open.f
  by_cases h : (l0.length : Int) > 2000
  · exact ⟨l0.take 2000, hb.take _, by rw [List.length_take]; omega, by rw [if_pos h, if_pos (by omega)]⟩
  · exact ⟨l0, hb, by omega, by rw [if_neg h]⟩

def tailF (k : Nat) (t : Int) : Option Bool := (impl_DeskNew.f k t).bind fun b => ((spec_DeskNew.f k t).bind fun c => ((laws_sameDesk.f k b.1 b.2.1 c.1 c.2.1).bind fun s => (if s = true then (laws_FnDeskNew.j0 k t b.2.2 (b.2.2 != c.2.2) b.1 b.2.1) else (laws_FnDeskNew.j0 k t b.2.2 true b.1 b.2.1))))
theorem tail_mono (t : Int) : ∀ k, LeO (tailF k t) (tailF (k + 1) t) := by
  intro k
  unfold tailF
  exact LeO.bind (impl_DeskNew.mono _ _) (fun _ => LeO.bind (spec_DeskNew.mono _ _) (fun _ => LeO.bind (laws_sameDesk.mono _ _ _ _ _) (fun _ => LeO.ite (laws_FnDeskNew.mono_l _ _ _ _ _ _) (laws_FnDeskNew.mono_l _ _ _ _ _ _))))
theorem tail_all : (List.range 10).all (fun n => tailF 200 ((n : Int) - 1) == some true) = true := by decide +kernel
theorem tail_ev {t : Int} (h0 : -1 ≤ t) (h1 : t ≤ 8) : Ev (fun k => tailF k t) true := by
  have h := List.all_eq_true.1 tail_all (t + 1).toNat (List.mem_range.2 (by omega))
  rw [show (((t + 1).toNat : Nat) : Int) - 1 = t by omega] at h
  exact Ev.of (tail_mono t) (by simpa using h)
theorem FnDeskNew : laws_FnDeskNew.Pure := by
  intro l0 _ _ hw
  refine Ev.rounds ?_
  unfold laws_FnDeskNew.f
  by_cases hl : (l0.length : Int) > 1048576
  · exact Ev.ite_pos hl (Ev.now _)
  refine Ev.ite_neg hl ?_
  obtain ⟨bs, h1, h2, h3⟩ := open_ev (Bytes.of hw)
  obtain ⟨r, a1, b1, c1⟩ := pick_ev h1 h2 (p := 0) (n := 10) (by omega) (by omega) (by omega)
  have hd : Ev (fun k => spec_DrawDeskNew.f k l0) (r - 1) := by
    unfold spec_DrawDeskNew.f
    refine Ev.bindc h3 (Ev.bind c1 (Ev.const ?_))
    rw [w64 (by omega) (by omega)]
  exact Ev.bind hd (tail_ev (by omega) (by omega))

end Go.Proofs.Ytgkgpmnaflaaeaa.Pure
