-- Written for this claim by a program of this session (wip/myprint.sh), after the kit's print; some functions by hand
import Derived.Test.YtmgjidgfhlclmaaDoorPFnReadDeedx0
import Derived.Test.YtmgjidgfhlclmaaDoorPFnReadDeedx1
import Derived.Test.YtmgjidgfhlclmaaDoorPFnReadDeedx2
import Derived.Test.YtmgjidgfhlclmaaDoorPFnReadDeedx3
import Derived.Test.YtmgjidgfhlclmaaDoorPFnReadDeedx5
import Derived.Test.YtmgjidgfhlclmaaDoorPFnReadDeedx7
import Derived.Test.YtmgjidgfhlclmaaDoorPFnReadDeedx8
import Derived.Test.YtmgjidgfhlclmaaDoorPFnReadDeedx9
namespace Go.Proofs.YtmgjidgfhlclmaaDoor.PFnReadDeed
open Go.RowKit Go.Proofs.YtmgjidgfhlclmaaDoorW.PrintWords Go.Proofs.YtmgjidgfhlclmaaDoorW.PrintLast Go.Proofs.YtmgjidgfhlclmaaDoorW.PrintMore
attribute [local go_sem] max2_int min2_int max_two min_two max_three min_three max_four min_four   -- for this text's walks alone
set_option linter.unusedVariables false
set_option linter.unusedSimpArgs false

attribute [local go_sem high] eqA24
/-! ### spec_l20Open: function 26 -/
def spec_l20Open.f (l0 : List Int) : Option (List Int × Int) := if (l0.length : Int) > 2000 then (if 2000 ≤ (l0.length : Int) then (some (l0.take 2000, 0)) else (none)) else (some (l0, 0))
set_option maxHeartbeats 8000000 in
set_option maxRecDepth 100000 in
theorem spec_l20Open.calls (A0 : Option Addr) (c0 : Nat) (l0 : List Int) (r1 : List Int) (r2 : Int) (w0 w : World) (hB : Below w0.heap.size w0 w) (hr0 : Kd.C (Kd.int .u8) w0 A0 l0.length l0) (hc0 : l0.length ≤ c0) (h : spec_l20Open.f l0 = some (r1, r2)) :
    Calls Tryd.prog 26 #[.slice A0 l0.length c0] w fun e w' => ∃ g_ : Nat, e = .returned (.pointer (some ⟨g_, 0, none⟩)) ∧ IsS64 w0 w' g_ r1 r2 ∧ Below w0.heap.size w0 w' ∧ Below w.heap.size w w' := by
  have hu64 := Tryd.underlying64
  have HR0 := Aside0.mk hr0
  have HC0 := Aside0.mk hc0
  clear hr0 hc0
  have HBW := Aside0.mk (Below.refl w.heap.size w)
  have HW0 := Aside0.mk hB.size
  have HB := Aside0.mk hB
  clear hB
  have H : (if (l0.length : Int) > 2000 then (if 2000 ≤ (l0.length : Int) then (some (l0.take 2000, 0)) else (none)) else (some (l0, 0))) = some (r1, r2) := h
  clear h
  by_cases c2 : (l0.length : Int) > 2000
  · rw [if_pos c2] at H
    have c2b0 : decide (2000 < (l0.length : Int)) = true := decide_eq_true c2
    have c2b1 : decide (2000 < l0.length) = true := decide_eq_true (by omega)
    clear c2
    by_cases c3 : 2000 ≤ (l0.length : Int)
    · rw [if_pos c3] at H
      have c3b0 := eq_true c3
      have c3b1 : decide (2000 ≤ (l0.length : Int)) = true := decide_eq_true c3
      clear c3
      simp only [Option.some.injEq, Prod.mk.injEq] at H
      obtain ⟨rfl, rfl⟩ := H
      obtain ⟨i04, hi04, _, hsz4, _⟩ := info_parts info5
      obtain ⟨hcut4, hA4, hC4⟩ := print_take_of (P := Tryd.prog) (Value.int .u8) 0 22 5 .i64 Tryd.underlying22 hi04 hsz4 A0 c0 l0 2000 (by omega) (of_decide_eq_true (by first | (with_reducible assumption) | assumption)) HC0.out
      have HR222 := Aside0.mk (Kd.C_of_reads (h1 := fun _ => rfl) (hA4 _ (Kd.reads_of_C HR0.out)))
      have HC222 := Aside0.mk hC4
      clear hA4 hC4 hi04 hsz4
      go_enter Tryd.func26, Tryd.ntmps26
      go_wp2_with (first | ((with_reducible refine gate_dst (N := 10) rfl ?_); refine box_event ?hg (N := 10) ?hd (cs := #[.slice A0 (l0.take 2000).length c0, .int .i64 0]) (t := 64) ?hr ?_; (case hd => rfl); (case hg => rfl); (case hr => first | (go_simp; done) | (go_simp; rfl)); intro gb223 hg w5 hbox hb; have n0_ := Aside0.mk (below_step HBW.out hb); have n1_ := Aside0.mk (below_step (by repeat (first | (with_reducible first | exact HB.out | apply below_alloc | apply pw_below_drewN | apply below_drew1) | exact HB.out)) hb); have n2_ := Aside0.mk (hbox); have n3_ := Aside0.mk ((by rw [hg]; exact (below_size (by repeat (first | (with_reducible first | exact HBW.out | apply below_alloc | apply pw_below_drewN | apply below_drew1) | exact HBW.out))) : w.heap.size ≤ gb223)); have n4_ := Aside0.mk ((Nat.le_trans HW0.out (by rw [hg]; exact (below_size (by repeat (first | (with_reducible first | exact HBW.out | apply below_alloc | apply pw_below_drewN | apply below_drew1) | exact HBW.out))) : w.heap.size ≤ gb223) : w0.heap.size ≤ gb223)); clear HBW; clear HB; have HBW := n0_; have HB := n1_; have BK223 := n2_; have GW223 := n3_; have GE223 := n4_; clear n0_ n1_ n2_ n3_ n4_; clear hb hbox hg))
      go_ret
      exact ⟨_, rfl, (show IsS64 w0 _ gb223 (l0.take 2000) 0 from ⟨_, _, by (with_reducible repeat (first | refine blk_drewN ?_ _ | refine blk_drew ?_ | refine blk_alloc ?_ _)); exact BK223.out, GE223.out, HR222.out⟩), by repeat (first | (with_reducible first | exact HB.out | apply below_alloc | apply pw_below_drewN | apply below_drew1 | refine below_set ?_ GE223.out) | exact HB.out), by repeat (first | (with_reducible first | exact HBW.out | apply below_alloc | apply pw_below_drewN | apply below_drew1 | refine below_set ?_ GW223.out) | exact HBW.out)⟩
    · rw [if_neg c3] at H
      exact absurd H (by simp)
  · rw [if_neg c2] at H
    have c2b0 : decide (2000 < (l0.length : Int)) = false := decide_eq_false c2
    have c2b1 : decide (2000 < l0.length) = false := decide_eq_false (by omega)
    clear c2
    simp only [Option.some.injEq, Prod.mk.injEq] at H
    obtain ⟨rfl, rfl⟩ := H
    go_enter Tryd.func26, Tryd.ntmps26
    go_wp2_with (first | ((with_reducible refine gate_dst (N := 10) rfl ?_); refine box_event ?hg (N := 10) ?hd (cs := #[.slice A0 l0.length c0, .int .i64 0]) (t := 64) ?hr ?_; (case hd => rfl); (case hg => rfl); (case hr => first | (go_simp; done) | (go_simp; rfl)); intro gb224 hg w6 hbox hb; have n0_ := Aside0.mk (below_step HBW.out hb); have n1_ := Aside0.mk (below_step (by repeat (first | (with_reducible first | exact HB.out | apply below_alloc | apply pw_below_drewN | apply below_drew1) | exact HB.out)) hb); have n2_ := Aside0.mk (hbox); have n3_ := Aside0.mk ((by rw [hg]; exact (below_size (by repeat (first | (with_reducible first | exact HBW.out | apply below_alloc | apply pw_below_drewN | apply below_drew1) | exact HBW.out))) : w.heap.size ≤ gb224)); have n4_ := Aside0.mk ((Nat.le_trans HW0.out (by rw [hg]; exact (below_size (by repeat (first | (with_reducible first | exact HBW.out | apply below_alloc | apply pw_below_drewN | apply below_drew1) | exact HBW.out))) : w.heap.size ≤ gb224) : w0.heap.size ≤ gb224)); clear HBW; clear HB; have HBW := n0_; have HB := n1_; have BK224 := n2_; have GW224 := n3_; have GE224 := n4_; clear n0_ n1_ n2_ n3_ n4_; clear hb hbox hg))
    go_ret
    exact ⟨_, rfl, (show IsS64 w0 _ gb224 l0 0 from ⟨_, _, by (with_reducible repeat (first | refine blk_drewN ?_ _ | refine blk_drew ?_ | refine blk_alloc ?_ _)); exact BK224.out, GE224.out, HR0.out⟩), by repeat (first | (with_reducible first | exact HB.out | apply below_alloc | apply pw_below_drewN | apply below_drew1 | refine below_set ?_ GE224.out) | exact HB.out), by repeat (first | (with_reducible first | exact HBW.out | apply below_alloc | apply pw_below_drewN | apply below_drew1 | refine below_set ?_ GW224.out) | exact HBW.out)⟩

/-! ### spec_l20Spoil: function 37 -/
def spec_l20Spoil.f (k : Nat) (s0_0 : List Int) (s0_1 : Int) (a1 : ByteArray) : Option (ByteArray × Int) := if (a1.size : Int) = 0 then (some ((⟨#[10]⟩ : ByteArray), s0_1)) else ((spec_l20Rd_pick.f k s0_0 s0_1 (a1.size : Int)).bind fun bt225 => (if 0 ≤ bt225.1 then (if bt225.1 ≤ (a1.size : Int) then ((some (([(⟨#[]⟩ : ByteArray), (⟨#[48]⟩ : ByteArray), (⟨#[32]⟩ : ByteArray), (⟨#[10]⟩ : ByteArray), (⟨#[45]⟩ : ByteArray), (⟨#[98, 97, 99, 107]⟩ : ByteArray)] : List ByteArray) : List ByteArray)).bind fun y227 => ((spec_l20Rd_pick.f k s0_0 bt225.2 6).bind fun bt230 => (if 0 ≤ bt230.1 then (if bt230.1 < (y227.length : Int) then (if (a1.extract 0 (bt225.1 : Int).toNat).size + (rdOf ByteArray.empty y227 bt230.1).size ≤ 9223372036854775807 then (if 0 ≤ (wrap64 (bt225.1 + 1)) then (if (wrap64 (bt225.1 + 1)) ≤ (a1.size : Int) then (if ((a1.extract 0 (bt225.1 : Int).toNat) ++ (rdOf ByteArray.empty y227 bt230.1)).size + (a1.extract ((wrap64 (bt225.1 + 1)) : Int).toNat a1.size).size ≤ 9223372036854775807 then (some (((a1.extract 0 (bt225.1 : Int).toNat) ++ (rdOf ByteArray.empty y227 bt230.1)) ++ (a1.extract ((wrap64 (bt225.1 + 1)) : Int).toNat a1.size), bt230.2)) else (none)) else (none)) else (none)) else (none)) else (none)) else (none)))) else (none)) else (none)))
theorem spec_l20Spoil.mono : ∀ a0 a1 a2 k, LeO (spec_l20Spoil.f k a0 a1 a2) (spec_l20Spoil.f (k + 1) a0 a1 a2) := by
  intro a0 a1 a2 k
  unfold spec_l20Spoil.f
  repeat' first
      | (with_reducible exact spec_l20Rd_pick.mono _ _ _ _)
      | (with_reducible exact LeO.refl _)
      | (with_reducible exact LeO.none _)
      | (with_reducible refine LeO.ite ?_ ?_)
      | (with_reducible refine LeO.bind ?_ (fun _ => ?_))
      | exact spec_l20Rd_pick.mono _ _ _ _
      | exact LeO.none _
      | refine LeO.ite ?_ ?_
      | refine LeO.bind ?_ (fun _ => ?_)
def spec_l20Spoil.T4 : Bool × List (List Nat × List Nat) := (true, [([], []), ([], []), ([0, 1], [0, 1]), ([], []), ([], []), ([4], [4]), ([3, 5], [3, 5]), ([6], [6]), ([2, 7], [2, 7]), ([], []), ([], []), ([10], [10]), ([9, 11], [9, 11]), ([8, 12], [8, 12]), ([13, 5, 0, 1, 2, 3, 4, 5, 6, 7, 8, 9, 10, 11, 12, 13], [13])])
def spec_l20Spoil.B4 : List Nat := [0, 0, 3, 0, 0, 16, 56, 120, 255, 0, 0, 1024, 3584, 8191, 16383]
theorem spec_l20Spoil.tab4 : rtab .any (opsOf Tryd.f37 4) = spec_l20Spoil.T4 := by kernel_rfl
theorem spec_l20Spoil.bits4 : waitsOk spec_l20Spoil.T4.2 spec_l20Spoil.B4 = true := by kernel_rfl
set_option maxHeartbeats 8000000 in
set_option maxRecDepth 100000 in
theorem spec_l20Spoil.calls (k : Nat) (g : Nat) (s0_0 : List Int) (s0_1 : Int) (a1 : ByteArray) (r1 : ByteArray) (r2 : Int) (w0 w : World) (hI : IsS64 w0 w g s0_0 s0_1) (hB : Below w0.heap.size w0 w) (h : spec_l20Spoil.f k s0_0 s0_1 a1 = some (r1, r2)) :
    Calls Tryd.prog 37 #[.pointer (some ⟨g, 0, none⟩), .string a1] w fun e w' => e = .returned (.string r1) ∧ IsS64 w0 w' g s0_0 r2 ∧ Below w0.heap.size w0 w' ∧ KeepBut w w' g none := by
  have HI0 := Aside0.mk hI
  have HK := Aside0.mk (KeepBut.refl w g none)
  have HL := Aside0.mk hB.size
  clear hI
  have HW0 := Aside0.mk hB.size
  have HB := Aside0.mk hB
  clear hB
  have H : (if (a1.size : Int) = 0 then (some ((⟨#[10]⟩ : ByteArray), s0_1)) else ((spec_l20Rd_pick.f k s0_0 s0_1 (a1.size : Int)).bind fun bt225 => (if 0 ≤ bt225.1 then (if bt225.1 ≤ (a1.size : Int) then ((some (([(⟨#[]⟩ : ByteArray), (⟨#[48]⟩ : ByteArray), (⟨#[32]⟩ : ByteArray), (⟨#[10]⟩ : ByteArray), (⟨#[45]⟩ : ByteArray), (⟨#[98, 97, 99, 107]⟩ : ByteArray)] : List ByteArray) : List ByteArray)).bind fun y227 => ((spec_l20Rd_pick.f k s0_0 bt225.2 6).bind fun bt230 => (if 0 ≤ bt230.1 then (if bt230.1 < (y227.length : Int) then (if (a1.extract 0 (bt225.1 : Int).toNat).size + (rdOf ByteArray.empty y227 bt230.1).size ≤ 9223372036854775807 then (if 0 ≤ (wrap64 (bt225.1 + 1)) then (if (wrap64 (bt225.1 + 1)) ≤ (a1.size : Int) then (if ((a1.extract 0 (bt225.1 : Int).toNat) ++ (rdOf ByteArray.empty y227 bt230.1)).size + (a1.extract ((wrap64 (bt225.1 + 1)) : Int).toNat a1.size).size ≤ 9223372036854775807 then (some (((a1.extract 0 (bt225.1 : Int).toNat) ++ (rdOf ByteArray.empty y227 bt230.1)) ++ (a1.extract ((wrap64 (bt225.1 + 1)) : Int).toNat a1.size), bt230.2)) else (none)) else (none)) else (none)) else (none)) else (none)) else (none)))) else (none)) else (none)))) = some (r1, r2) := h
  clear h
  by_cases c3 : (a1.size : Int) = 0
  · rw [if_pos c3] at H
    have c3b0 : ((a1.size : Int) == 0) = true := beq_iff_eq.mpr c3
    have c3b1 : ((a1.size : Int) != 0) = false := bne_eq_false_iff_eq.mpr c3
    clear c3
    simp only [Option.some.injEq, Prod.mk.injEq] at H
    obtain ⟨rfl, rfl⟩ := H
    go_enter Tryd.func37, Tryd.ntmps37
    go_wp2
    go_ret
    exact ⟨by first | rfl | (simp [errW_none, errW_some] <;> rfl) | (simp [*, errW_none, errW_some] <;> rfl), by repeat (first | (with_reducible first | exact HI0.out | apply IsS64.alloc | apply IsS64.drewN | apply IsS64.drew | apply IsS64.set_1) | exact HI0.out), by repeat (first | (with_reducible first | exact HB.out | apply below_alloc | apply pw_below_drewN | apply below_drew1 | refine below_set ?_ (IsS64.ge HI0.out)) | exact HB.out), by repeat (first | (with_reducible first | exact HK.out | apply KeepBut.set_ | apply keep_drewN | apply keep_drew | apply keep_alloc) | exact HK.out)⟩
  · rw [if_neg c3] at H
    have c3b0 : ((a1.size : Int) == 0) = false := beq_eq_false_iff_ne.mpr c3
    have c3b1 : ((a1.size : Int) != 0) = true := bne_iff_ne.mpr c3
    replace H := Option.bind_eq_some_iff.mp H
    obtain ⟨⟨t225, t226⟩, A40, H⟩ := H
    replace H : (if 0 ≤ t225 then (if t225 ≤ (a1.size : Int) then ((some (([(⟨#[]⟩ : ByteArray), (⟨#[48]⟩ : ByteArray), (⟨#[32]⟩ : ByteArray), (⟨#[10]⟩ : ByteArray), (⟨#[45]⟩ : ByteArray), (⟨#[98, 97, 99, 107]⟩ : ByteArray)] : List ByteArray) : List ByteArray)).bind fun y227 => ((spec_l20Rd_pick.f k s0_0 t226 6).bind fun bt230 => (if 0 ≤ bt230.1 then (if bt230.1 < (y227.length : Int) then (if (a1.extract 0 (t225 : Int).toNat).size + (rdOf ByteArray.empty y227 bt230.1).size ≤ 9223372036854775807 then (if 0 ≤ (wrap64 (t225 + 1)) then (if (wrap64 (t225 + 1)) ≤ (a1.size : Int) then (if ((a1.extract 0 (t225 : Int).toNat) ++ (rdOf ByteArray.empty y227 bt230.1)).size + (a1.extract ((wrap64 (t225 + 1)) : Int).toNat a1.size).size ≤ 9223372036854775807 then (some (((a1.extract 0 (t225 : Int).toNat) ++ (rdOf ByteArray.empty y227 bt230.1)) ++ (a1.extract ((wrap64 (t225 + 1)) : Int).toNat a1.size), bt230.2)) else (none)) else (none)) else (none)) else (none)) else (none)) else (none)))) else (none)) else (none)) = some (r1, r2) := H
    have A4 := Aside0.mk A40
    clear A40
    by_cases c5 : 0 ≤ t225
    · rw [if_pos c5] at H
      have c5b0 := eq_true c5
      have c5b1 : decide (0 ≤ t225) = true := decide_eq_true c5
      clear c5
      by_cases c6 : t225 ≤ (a1.size : Int)
      · rw [if_pos c6] at H
        have c6b0 := eq_true c6
        have c6b1 : decide (t225 ≤ (a1.size : Int)) = true := decide_eq_true c6
        clear c6
        obtain ⟨y227, hy227⟩ : ∃ y_ : List ByteArray, y_ = (([(⟨#[]⟩ : ByteArray), (⟨#[48]⟩ : ByteArray), (⟨#[32]⟩ : ByteArray), (⟨#[10]⟩ : ByteArray), (⟨#[45]⟩ : ByteArray), (⟨#[98, 97, 99, 107]⟩ : ByteArray)] : List ByteArray)) := ⟨_, rfl⟩
        replace H : ((spec_l20Rd_pick.f k s0_0 t226 6).bind fun bt230 => (if 0 ≤ bt230.1 then (if bt230.1 < (y227.length : Int) then (if (a1.extract 0 (t225 : Int).toNat).size + (rdOf ByteArray.empty y227 bt230.1).size ≤ 9223372036854775807 then (if 0 ≤ (wrap64 (t225 + 1)) then (if (wrap64 (t225 + 1)) ≤ (a1.size : Int) then (if ((a1.extract 0 (t225 : Int).toNat) ++ (rdOf ByteArray.empty y227 bt230.1)).size + (a1.extract ((wrap64 (t225 + 1)) : Int).toNat a1.size).size ≤ 9223372036854775807 then (some (((a1.extract 0 (t225 : Int).toNat) ++ (rdOf ByteArray.empty y227 bt230.1)) ++ (a1.extract ((wrap64 (t225 + 1)) : Int).toNat a1.size), bt230.2)) else (none)) else (none)) else (none)) else (none)) else (none)) else (none))) = some (r1, r2) := by first | (rw [hy227]; with_reducible exact H) | (have H2_ := (Option.bind_some _ _).symm.trans H; rw [hy227]; with_reducible exact H2_) | (have H2_ := (Option.bind_some _ _).symm.trans H; with_reducible exact H2_) | with_reducible exact H | (rw [hy227]; exact H) | exact H
        have Ny227 := Aside0.mk hy227
        clear hy227
        replace H := Option.bind_eq_some_iff.mp H
        obtain ⟨⟨t230, t231⟩, A70, H⟩ := H
        replace H : (if 0 ≤ t230 then (if t230 < (y227.length : Int) then (if (a1.extract 0 (t225 : Int).toNat).size + (rdOf ByteArray.empty y227 t230).size ≤ 9223372036854775807 then (if 0 ≤ (wrap64 (t225 + 1)) then (if (wrap64 (t225 + 1)) ≤ (a1.size : Int) then (if ((a1.extract 0 (t225 : Int).toNat) ++ (rdOf ByteArray.empty y227 t230)).size + (a1.extract ((wrap64 (t225 + 1)) : Int).toNat a1.size).size ≤ 9223372036854775807 then (some (((a1.extract 0 (t225 : Int).toNat) ++ (rdOf ByteArray.empty y227 t230)) ++ (a1.extract ((wrap64 (t225 + 1)) : Int).toNat a1.size), t231)) else (none)) else (none)) else (none)) else (none)) else (none)) else (none)) = some (r1, r2) := H
        have A7 := Aside0.mk A70
        clear A70
        by_cases c8 : 0 ≤ t230
        · rw [if_pos c8] at H
          have c8b0 : decide (0 ≤ t230) = true := decide_eq_true c8
          clear c8
          by_cases c9 : t230 < (y227.length : Int)
          · rw [if_pos c9] at H
            have c9b0 : decide (t230 < (y227.length : Int)) = true := decide_eq_true c9
            clear c9
            by_cases c10 : (a1.extract 0 (t225 : Int).toNat).size + (rdOf ByteArray.empty y227 t230).size ≤ 9223372036854775807
            · rw [if_pos c10] at H
              have c10b0 := eq_true c10
              have c10b1 : decide ((a1.extract 0 (t225 : Int).toNat).size + (rdOf ByteArray.empty y227 t230).size ≤ 9223372036854775807) = true := decide_eq_true c10
              try have c10b2 : (9223372036854775807 < (a1.extract 0 (t225 : Int).toNat).size + (rdOf ByteArray.empty y227 t230).size) = False := eq_false (Nat.not_lt.2 c10)
              obtain ⟨ji11, hji11⟩ : ∃ j_ : Int, (wrap64 (t225 + 1)) = j_ := ⟨_, rfl⟩
              replace H : (if 0 ≤ (ji11) then (if (ji11) ≤ (a1.size : Int) then (if ((a1.extract 0 (t225 : Int).toNat) ++ (rdOf ByteArray.empty y227 t230)).size + (a1.extract ((ji11) : Int).toNat a1.size).size ≤ 9223372036854775807 then (some (((a1.extract 0 (t225 : Int).toNat) ++ (rdOf ByteArray.empty y227 t230)) ++ (a1.extract ((ji11) : Int).toNat a1.size), t231)) else (none)) else (none)) else (none)) = some (r1, r2) := by first | (rw [hji11] at H; exact H) | (simp only [hji11] at H ⊢; exact H)
              (try rw [hji11] at A4)
              (try rw [hji11] at A7)
              have hji11w : (IntKind.i64.wrap (t225 + 1)) = ji11 := (i64_w _).trans hji11
              by_cases c12 : 0 ≤ (ji11)
              · rw [if_pos c12] at H
                have c12b0 := eq_true c12
                have c12b1 : decide (0 ≤ (ji11)) = true := decide_eq_true c12
                clear c12
                by_cases c13 : (ji11) ≤ (a1.size : Int)
                · rw [if_pos c13] at H
                  have c13b0 := eq_true c13
                  have c13b1 : decide ((ji11) ≤ (a1.size : Int)) = true := decide_eq_true c13
                  clear c13
                  by_cases c14 : ((a1.extract 0 (t225 : Int).toNat) ++ (rdOf ByteArray.empty y227 t230)).size + (a1.extract ((ji11) : Int).toNat a1.size).size ≤ 9223372036854775807
                  · rw [if_pos c14] at H
                    have c14b0 := eq_true c14
                    have c14b1 : decide (((a1.extract 0 (t225 : Int).toNat) ++ (rdOf ByteArray.empty y227 t230)).size + (a1.extract ((ji11) : Int).toNat a1.size).size ≤ 9223372036854775807) = true := decide_eq_true c14
                    try have c14b2 : (9223372036854775807 < ((a1.extract 0 (t225 : Int).toNat) ++ (rdOf ByteArray.empty y227 t230)).size + (a1.extract ((ji11) : Int).toNat a1.size).size) = False := eq_false (Nat.not_lt.2 c14)
                    try (have c14bq := c14b2; simp only [ByteArray.size_append] at c14bq)
                    simp only [Option.some.injEq, Prod.mk.injEq] at H
                    obtain ⟨rfl, rfl⟩ := H
                    go_enter Tryd.func37, Tryd.ntmps37
                    try go_wp2_with (first | ((with_reducible refine gate_callee (f := 36) rfl ?_); refine goesL_ (some 12) rfl rfl Tryd.func36 (by kernel_rfl) rfl #[.pointer (some ⟨g, 0, none⟩), .int .i64 (a1.size : Int)] rfl (by (try simp only [List.map_toArray, List.map_cons, List.map_nil]); first | done | rfl | (simp only [List.length_drop, List.length_take]; rfl)) ?_; (with_reducible refine (spec_l20Rd_pick.calls k g s0_0 s0_1 (a1.size : Int) t225 t226 w0 _ ?side1 ?side2 A4.out).mono ?_); (case side1 => repeat (first | (with_reducible first | exact HI0.out | apply IsS64.alloc | apply IsS64.drewN | apply IsS64.drew | apply IsS64.set_1) | exact HI0.out)); (case side2 => repeat (first | (with_reducible first | exact HB.out | apply below_alloc | apply pw_below_drewN | apply below_drew1 | refine below_set ?_ (IsS64.ge HI0.out)) | exact HB.out)); rintro e w15 ⟨rfl, hi, hb, hk⟩; refine ⟨_, rfl, ?_⟩; have n0_ := Aside0.mk (KeepBut.trans (by repeat (first | (with_reducible first | exact HK.out | apply KeepBut.set_ | apply keep_drewN | apply keep_drew | apply keep_alloc) | exact HK.out)) hk (.inl rfl)); have n1_ := Aside0.mk (hb); have n2_ := Aside0.mk (hi); clear HK; clear HB; clear HI0; have HK := n0_; have HB := n1_; have HI0 := n2_; clear n0_ n1_ n2_; (try clear hb); (try clear hb2); (try clear hk); (try clear hi)))
                    have pi232 : (0 ≤ (t230 : Int)) = True := eq_true (of_decide_eq_true (by first | (with_reducible assumption) | assumption))
                    have qi232 : (t230 < (y227.length : Int)) = True := eq_true (of_decide_eq_true (by first | (with_reducible assumption) | assumption))
                    have n0_ := Aside0.mk (IsS64.drew HI0.out)
                    have n1_ := Aside0.mk (keep_drew HK.out)
                    have n2_ := Aside0.mk (below_drew1 HB.out)
                    clear HI0
                    clear HK
                    clear HB
                    have HI0 := n0_
                    have HK := n1_
                    have HB := n2_
                    clear n0_ n1_ n2_
                    refine start_ (n := 15) (S := fun w' => True) (ds := []) #[false, false, false, false, false, false, false, false, false, false, false, false, false, false, false] (by kernel_rfl) rfl rfl trivial (fun hHeld => ?_); refine with_tabW spec_l20Spoil.tab4 spec_l20Spoil.bits4 (fun HT_ HW_ => ?_)
                    generalize w15.drew = w16 at HI0 HK HB hHeld ⊢
                    refine pure_ (i := 0) (N := some 13) (v := ?_) (a' := ?_) #[true, false, false, false, false, false, false, false, false, false, false, false, false, false, false] rfl rfl (any_of HT_.out (by kernel_rfl)) (fun _ _ _ h => h) (Or.inl ⟨by rfl, ?_⟩) ?_ ?_
                    rotate_left
                    · intro w'
                      go_simp
                      with_reducible rfl
                    rotate_left
                    · simp only [Act.put, List.setIfInBounds_toArray, List.set_cons_zero, List.set_cons_succ, i64_w, i32_w]
                      rfl
                    refine pure_ (i := 1) (N := some 14) (v := ?_) (a' := ?_) #[true, true, false, false, false, false, false, false, false, false, false, false, false, false, false] rfl rfl (any_of HT_.out (by kernel_rfl)) (fun _ _ _ h => h) (Or.inl ⟨by rfl, ?_⟩) ?_ ?_
                    rotate_left
                    · intro w'
                      go_simp
                      with_reducible rfl
                    rotate_left
                    · simp only [Act.put, List.setIfInBounds_toArray, List.set_cons_zero, List.set_cons_succ, i64_w, i32_w]
                      rfl
                    refine pure_ (i := 4) (N := some 17) (v := ?_) (a' := ?_) #[true, true, false, false, true, false, false, false, false, false, false, false, false, false, false] rfl rfl (any_of HT_.out (by kernel_rfl)) (fun _ _ _ h => h) (Or.inl ⟨by rfl, ?_⟩) ?_ ?_
                    rotate_left
                    · intro w'
                      go_simp
                      with_reducible rfl
                    rotate_left
                    · simp only [Act.put, List.setIfInBounds_toArray, List.set_cons_zero, List.set_cons_succ, i64_w, i32_w]
                      rfl
                    refine pure_ (i := 9) (N := some 22) (v := ?_) (a' := ?_) #[true, true, false, false, true, false, false, false, false, true, false, false, false, false, false] rfl rfl (any_of HT_.out (by kernel_rfl)) (fun _ _ _ h => h) (Or.inl ⟨by rfl, ?_⟩) ?_ ?_
                    rotate_left
                    · intro w'
                      go_simp
                      with_reducible rfl
                    rotate_left
                    · simp only [Act.put, List.setIfInBounds_toArray, List.set_cons_zero, List.set_cons_succ, i64_w, i32_w]
                      rfl
                    refine pure_ (i := 10) (N := some 23) (v := ?_) (a' := ?_) #[true, true, false, false, true, false, false, false, false, true, true, false, false, false, false] rfl rfl (any_of HT_.out (by kernel_rfl)) (fun _ _ _ h => h) (Or.inl ⟨by rfl, ?_⟩) ?_ ?_
                    rotate_left
                    · intro w'
                      go_simp
                      with_reducible rfl
                    rotate_left
                    · simp only [Act.put, List.setIfInBounds_toArray, List.set_cons_zero, List.set_cons_succ, i64_w, i32_w]
                      rfl
                    refine inv_at [2, 3, 5, 6, 7, 8, 11, 12, 13, 14] (fun a0_ b a w' => ∃ (v228 : Value) (adz_v228 : Addr) (m6_ : Value), a = putSel a0_ b [(2, 15, .string (a1.extract 0 (t225 : Int).toNat)), (3, 16, v228), (5, 18, .int .i64 t230), (6, 19, m6_), (7, 20, .string (rdOf ByteArray.empty y227 t230)), (8, 21, .string ((a1.extract 0 (t225 : Int).toNat) ++ (rdOf ByteArray.empty y227 t230))), (11, 24, .int .i64 ji11), (12, 25, .string (a1.extract ((ji11) : Int).toNat a1.size)), (13, 26, .string (((a1.extract 0 (t225 : Int).toNat) ++ (rdOf ByteArray.empty y227 t230)) ++ (a1.extract ((ji11) : Int).toNat a1.size))), (14, 4, .string (((a1.extract 0 (t225 : Int).toNat) ++ (rdOf ByteArray.empty y227 t230)) ++ (a1.extract ((ji11) : Int).toNat a1.size)))] ∧ (b 5 = false → IsS64 w0 w' g s0_0 t226) ∧ (KeepBut w w' g none) ∧ (Below w0.heap.size w0 w') ∧ (b 3 = true → Kd.R Kd.string 9 w' w.heap.size (fun _ => True) v228 y227) ∧ (b 3 = true → ∃ c_, (v228 : Value) = .slice (some adz_v228) y227.length c_) ∧ (b 5 = true → IsS64 w0 w' g s0_0 t231) ∧ (b 6 = true → (m6_ : Value) = .pointer (some (adz_v228.add (t230).toNat)))) HT_.out HW_.out (by kernel_rfl) (by kernel_rfl) ?_ ?_ ?_
                    · exact ⟨.bool false, ⟨0, 0, none⟩, .bool false, by simp only [putSel, Bool.false_eq_true, if_false], fun _ => HI0.out, HK.out, HB.out, fun h_ => absurd h_ (by decide), fun h_ => absurd h_ (by decide), fun h_ => absurd h_ (by decide), fun h_ => absurd h_ (by decide)⟩
                    · skip
                      clear HB HI0 HK
                      refine steps_cons ?_ ?_
                      · rintro b a w' ⟨v228, adz_v228, m6_, ha, Q_HI0, Q_HK, Q_HB, Q_HO229, Q_HA_HO229, Q_HI0_e5, Q_X6_⟩ hb_ hon hoff
                        refine ⟨_, rfl, fun K hK => ?_⟩
                        have e13 : a.tmps[13]? = some (.string a1) := by rw [ha]; exact (putSel_off rfl).trans rfl
                        have e14 : a.tmps[14]? = some (.int .i64 t225) := by rw [ha]; exact (putSel_off rfl).trans rfl
                        replace ha := Aside0.mk ha
                        have HK := Aside0.mk Q_HK
                        have HB := Aside0.mk Q_HB
                        refine value_ (w1 := w') (v := .string (a1.extract 0 (t225 : Int).toNat)) (by rfl) rfl ?_ ?_
                        · go_simp
                          (try simp only [i64_w])
                          try rfl
                        refine hK.out _ _ ⟨v228, adz_v228, m6_, (by rw [ha.out]; exact putSel_upk 0 hb_ rfl rfl rfl), Q_HI0, Q_HK, Q_HB, Q_HO229, Q_HA_HO229, Q_HI0_e5, Q_X6_⟩
                      refine steps_cons ?_ ?_
                      · rintro b a w' ⟨v228, adz_v228, m6_, ha, Q_HI0, Q_HK, Q_HB, Q_HO229, Q_HA_HO229, Q_HI0_e5, Q_X6_⟩ hb_ hon hoff
                        refine ⟨_, rfl, fun K hK => ?_⟩
                        replace ha := Aside0.mk ha
                        have HK := Aside0.mk Q_HK
                        have HB := Aside0.mk Q_HB
                        refine Kd.R_lit_step Kd.string _ 9 ?hg (N := 16) ?hd (xs := ([(⟨#[]⟩ : ByteArray), (⟨#[48]⟩ : ByteArray), (⟨#[32]⟩ : ByteArray), (⟨#[10]⟩ : ByteArray), (⟨#[45]⟩ : ByteArray), (⟨#[98, 97, 99, 107]⟩ : ByteArray)] : List ByteArray)) (inner := [.string (⟨#[]⟩ : ByteArray), .string (⟨#[48]⟩ : ByteArray), .string (⟨#[32]⟩ : ByteArray), .string (⟨#[10]⟩ : ByteArray), .string (⟨#[45]⟩ : ByteArray), .string (⟨#[98, 97, 99, 107]⟩ : ByteArray)]) (ok := fun _ => True) (okp := fun _ => True) ?hr ?hp (fun _ hk => hk) trivial (Below.refl _ _) (Nat.le_refl _) (by simp) ?_; (case hd => rfl); (case hg => rfl); (case hr => first | (go_simp; done) | (go_simp; rfl)); (case hp => exact (Reps.one (show Kd.M Kd.string _ _ _ (⟨#[]⟩ : ByteArray) [.string (⟨#[]⟩ : ByteArray)] from rfl) (Reps.one (show Kd.M Kd.string _ _ _ (⟨#[48]⟩ : ByteArray) [.string (⟨#[48]⟩ : ByteArray)] from rfl) (Reps.one (show Kd.M Kd.string _ _ _ (⟨#[32]⟩ : ByteArray) [.string (⟨#[32]⟩ : ByteArray)] from rfl) (Reps.one (show Kd.M Kd.string _ _ _ (⟨#[10]⟩ : ByteArray) [.string (⟨#[10]⟩ : ByteArray)] from rfl) (Reps.one (show Kd.M Kd.string _ _ _ (⟨#[45]⟩ : ByteArray) [.string (⟨#[45]⟩ : ByteArray)] from rfl) (Reps.one (show Kd.M Kd.string _ _ _ (⟨#[98, 97, 99, 107]⟩ : ByteArray) [.string (⟨#[98, 97, 99, 107]⟩ : ByteArray)] from rfl) (Reps.none _ _))))))))
                        intro v228 w17 ho18 hb hg_ hnew_
                        clear hg_ hnew_
                        (first | rw [← Ny227.out] at ho18 | (simp only [Int.reduceToNat] at ho18; rw [← Ny227.out] at ho18))
                        have n0_ := Aside0.mk (Kd.R_lower ho18 (keep_size (w := w) (g := g) (row := none) (by repeat (first | (with_reducible first | exact HK.out | apply KeepBut.set_ | apply keep_drewN | apply keep_drew | apply keep_alloc) | exact HK.out))))
                        have n2_ := Aside0.mk (KeepBut.trans (by repeat (first | (with_reducible first | exact HK.out | apply KeepBut.set_ | apply keep_drewN | apply keep_drew | apply keep_alloc) | exact HK.out)) (KeepBut.of_below hb g none) (.inl rfl))
                        have n3_ := Aside0.mk (below_step (by repeat (first | (with_reducible first | exact HB.out | apply below_alloc | apply pw_below_drewN | apply below_drew1) | exact HB.out)) hb)
                        have z_HI0 := fun (h0_ : b 5 = false) => (show IsS64 w0 w17 g s0_0 t226 from by first | exact (IsS64.below (by repeat (first | (with_reducible first | exact (Q_HI0 h0_) | apply IsS64.alloc | apply IsS64.drewN | apply IsS64.drew | apply IsS64.set_1) | exact (Q_HI0 h0_))) hb))
                        have z_HI0_e5 := fun (h0_ : b 5 = true) => (show IsS64 w0 w17 g s0_0 t231 from by first | exact (IsS64.below (by repeat (first | (with_reducible first | exact (Q_HI0_e5 h0_) | apply IsS64.alloc | apply IsS64.drewN | apply IsS64.drew | apply IsS64.set_1) | exact (Q_HI0_e5 h0_))) hb))
                        clear HK
                        clear HB
                        have HO229 := n0_
                        have HK := n2_
                        have HB := n3_
                        clear n0_ n2_ n3_
                        clear hb ho18
                        obtain ⟨Ao19, co19, eo19⟩ := Kd.R_slice HO229.out
                        subst eo19
                        obtain ⟨ado19, fo19, _⟩ := Kd.at_string (Kd.R_reads' HO229.out).2.2 0 (by decide) (by rw [Ny227.out]; simp)
                        cases fo19
                        refine hK.out _ _ ⟨.slice (some ado19) y227.length co19, ado19, m6_, (by rw [ha.out]; exact putSel_upk 1 hb_ rfl rfl rfl), z_HI0, (by repeat (first | (with_reducible first | exact HK.out | apply KeepBut.set_ | apply keep_drewN | apply keep_drew | apply keep_alloc) | exact HK.out)), (by repeat (first | (with_reducible first | exact HB.out | apply below_alloc | apply pw_below_drewN | apply below_drew1) | exact HB.out)), fun _ => (by (with_reducible repeat (first | apply Kd.R_alloc | apply Kd.R_drewN | apply Kd.R_drew)); exact HO229.out), fun _ => ⟨_, rfl⟩, z_HI0_e5, fun h0_ => absurd ((hoff 6 (by kernel_rfl)).symm.trans h0_) (by decide)⟩
                      refine steps_cons ?_ ?_
                      · rintro b a w' ⟨v228, adz_v228, m6_, ha, Q_HI0, Q_HK, Q_HB, Q_HO229, Q_HA_HO229, Q_HI0_e5, Q_X6_⟩ hb_ hon hoff
                        refine ⟨_, rfl, fun K hK => ?_⟩
                        have e17 : a.tmps[17]? = some (.pointer (some ⟨g, 0, none⟩)) := by rw [ha]; exact (putSel_off rfl).trans rfl
                        replace ha := Aside0.mk ha
                        have HI0 := Aside0.mk (Q_HI0 hb_)
                        have HK := Aside0.mk Q_HK
                        have HB := Aside0.mk Q_HB
                        refine goes_ Tryd.func36 (by kernel_rfl) rfl #[.pointer (some ⟨g, 0, none⟩), .int .i64 6] (by rfl) rfl rfl (by first | (simp only [List.map_toArray, List.map_cons, List.map_nil, Act.eval, Array.getD_eq_getD_getElem?, Option.getD_some, e17]; done) | (simp only [List.map_toArray, List.map_cons, List.map_nil, Act.eval, Array.getD_eq_getD_getElem?, Option.getD_some, e17]; rfl)) ?_
                        with_reducible refine (spec_l20Rd_pick.calls k g s0_0 t226 6 t230 t231 w0 _ ?side1 ?side2 A7.out).mono ?_
                        (case side1 => repeat (first | (with_reducible first | exact HI0.out | apply IsS64.alloc | apply IsS64.drewN | apply IsS64.drew | apply IsS64.set_1) | exact HI0.out))
                        (case side2 => repeat (first | (with_reducible first | exact HB.out | apply below_alloc | apply pw_below_drewN | apply below_drew1 | refine below_set ?_ (IsS64.ge HI0.out)) | exact HB.out))
                        rintro e w17 ⟨rfl, hi, hb, hk⟩
                        refine ⟨_, rfl, ?_⟩
                        have n0_ := Aside0.mk (KeepBut.trans (by repeat (first | (with_reducible first | exact HK.out | apply KeepBut.set_ | apply keep_drewN | apply keep_drew | apply keep_alloc) | exact HK.out)) hk (.inl rfl))
                        have n1_ := Aside0.mk (hb)
                        have n2_ := Aside0.mk (hi)
                        have z_HO229 := fun (h0_ : b 3 = true) => (show Kd.R Kd.string 9 w17 w.heap.size (fun _ => True) v228 y227 from by first | exact (Kd.R_mono (Kd.R_keep (IsS64.apart (show IsS64 w0 _ g s0_0 t226 from by repeat (first | (with_reducible first | exact HI0.out | apply IsS64.alloc | apply IsS64.drewN | apply IsS64.drew | apply IsS64.set_1) | exact HI0.out)) (by (with_reducible repeat (first | apply Kd.R_alloc | apply Kd.R_drewN | apply Kd.R_drew)); exact (Q_HO229 h0_)) (by decide)) hk (fun _ h => h.2)) (fun _ h => h.1)) | exact Kd.R_mono (Kd.R_mono (Kd.R_keep (IsS64.apart (show IsS64 w0 _ g s0_0 t226 from by repeat (first | (with_reducible first | exact HI0.out | apply IsS64.alloc | apply IsS64.drewN | apply IsS64.drew | apply IsS64.set_1) | exact HI0.out)) (by (with_reducible repeat (first | apply Kd.R_alloc | apply Kd.R_drewN | apply Kd.R_drew)); exact (Q_HO229 h0_)) (by decide)) hk (fun _ h => h.2)) (fun _ h => h.1)) (fun _ h_ => by first | trivial | exact h_ | exact h_.1))
                        clear HK
                        clear HB
                        clear HI0
                        have HK := n0_
                        have HB := n1_
                        have HI0 := n2_
                        clear n0_ n1_ n2_
                        (try clear hb)
                        (try clear hb2)
                        (try clear hk)
                        (try clear hi)
                        refine hK.out _ _ ⟨v228, adz_v228, m6_, (by rw [ha.out]; exact putSel_upk 2 hb_ rfl rfl rfl), fun h0_ => absurd ((up_self b 5).symm.trans h0_) (by decide), (by repeat (first | (with_reducible first | exact HK.out | apply KeepBut.set_ | apply keep_drewN | apply keep_drew | apply keep_alloc) | exact HK.out)), (by repeat (first | (with_reducible first | exact HB.out | apply below_alloc | apply pw_below_drewN | apply below_drew1 | refine below_set ?_ (IsS64.ge HI0.out)) | exact HB.out)), z_HO229, Q_HA_HO229, fun _ => (by repeat (first | (with_reducible first | exact HI0.out | apply IsS64.alloc | apply IsS64.drewN | apply IsS64.drew | apply IsS64.set_1) | exact HI0.out)), fun h0_ => absurd ((hoff 6 (by kernel_rfl)).symm.trans h0_) (by decide)⟩
                      refine steps_cons ?_ ?_
                      · rintro b a w' ⟨v228, adz_v228, m6_, ha, Q_HI0, Q_HK, Q_HB, Q_HO229, Q_HA_HO229, Q_HI0_e5, Q_X6_⟩ hb_ hon hoff
                        refine ⟨_, rfl, fun K hK => ?_⟩
                        have e16 : a.tmps[16]? = some (v228) := by rw [ha]; exact putSel_on (e := (3, 16, v228)) 1 rfl rfl (hon 3 (by kernel_rfl)) rfl
                        have e18 : a.tmps[18]? = some (.int .i64 t230) := by rw [ha]; exact putSel_on (e := (5, 18, .int .i64 t230)) 2 rfl rfl (hon 5 (by kernel_rfl)) rfl
                        replace ha := Aside0.mk ha
                        have HK := Aside0.mk Q_HK
                        have HB := Aside0.mk Q_HB
                        have HO229 := Aside0.mk (Q_HO229 (hon 3 (by kernel_rfl)))
                        have HA_HO229 := Aside0.mk (Q_HA_HO229 (hon 3 (by kernel_rfl)))
                        have HI0 := Aside0.mk (Q_HI0_e5 (hon 5 (by kernel_rfl)))
                        obtain ⟨c_, hv_⟩ := HA_HO229.out
                        rw [hv_] at e16
                        refine value_ (w1 := w') (v := .pointer (some (adz_v228.add (t230).toNat))) (by rfl) rfl ?_ ?_
                        · go_simp
                          (try simp only [i64_w])
                          try rfl
                        refine hK.out _ _ ⟨v228, adz_v228, (.pointer (some (adz_v228.add (t230).toNat))), (by rw [ha.out]; exact putSel_upk 3 hb_ rfl rfl rfl), fun h0_ => absurd ((hon 5 (by kernel_rfl)).symm.trans h0_) (by decide), Q_HK, Q_HB, Q_HO229, Q_HA_HO229, Q_HI0_e5, fun _ => rfl⟩
                      refine steps_cons ?_ ?_
                      · rintro b a w' ⟨v228, adz_v228, m6_, ha, Q_HI0, Q_HK, Q_HB, Q_HO229, Q_HA_HO229, Q_HI0_e5, Q_X6_⟩ hb_ hon hoff
                        refine ⟨_, rfl, fun K hK => ?_⟩
                        have e19 : a.tmps[19]? = some (m6_) := by rw [ha]; exact putSel_on (e := (6, 19, m6_)) 3 rfl rfl (hon 6 (by kernel_rfl)) rfl
                        rw [Q_X6_ (hon 6 (by kernel_rfl))] at e19
                        replace ha := Aside0.mk ha
                        have HK := Aside0.mk Q_HK
                        have HB := Aside0.mk Q_HB
                        have HO229 := Aside0.mk (Q_HO229 (hon 3 (by kernel_rfl)))
                        have HA_HO229 := Aside0.mk (Q_HA_HO229 (hon 3 (by kernel_rfl)))
                        have HI0 := Aside0.mk (Q_HI0_e5 (hon 5 (by kernel_rfl)))
                        obtain ⟨c_, hv_⟩ := HA_HO229.out
                        have hF_ := HO229.out
                        rw [hv_] at hF_
                        obtain ⟨ad_, ea_, hx_⟩ := Kd.at_string (Kd.R_reads' hF_).2.2 t230 (of_eq_true pi232) (of_eq_true qi232)
                        cases ea_
                        refine value_ (w1 := w') (v := .string (rdOf ByteArray.empty y227 t230)) (by rfl) rfl ?_ ?_
                        · go_simp
                          (try simp only [i64_w])
                          try rfl
                        refine hK.out _ _ ⟨v228, adz_v228, m6_, (by rw [ha.out]; exact putSel_upk 4 hb_ rfl rfl rfl), fun h0_ => absurd ((hon 5 (by kernel_rfl)).symm.trans h0_) (by decide), Q_HK, Q_HB, Q_HO229, Q_HA_HO229, Q_HI0_e5, Q_X6_⟩
                      refine steps_cons ?_ ?_
                      · rintro b a w' ⟨v228, adz_v228, m6_, ha, Q_HI0, Q_HK, Q_HB, Q_HO229, Q_HA_HO229, Q_HI0_e5, Q_X6_⟩ hb_ hon hoff
                        refine ⟨_, rfl, fun K hK => ?_⟩
                        have e15 : a.tmps[15]? = some (.string (a1.extract 0 (t225 : Int).toNat)) := by rw [ha]; exact putSel_on (e := (2, 15, .string (a1.extract 0 (t225 : Int).toNat))) 0 rfl rfl (hon 2 (by kernel_rfl)) rfl
                        have e20 : a.tmps[20]? = some (.string (rdOf ByteArray.empty y227 t230)) := by rw [ha]; exact putSel_on (e := (7, 20, .string (rdOf ByteArray.empty y227 t230))) 4 rfl rfl (hon 7 (by kernel_rfl)) rfl
                        replace ha := Aside0.mk ha
                        have HK := Aside0.mk Q_HK
                        have HB := Aside0.mk Q_HB
                        have HO229 := Aside0.mk (Q_HO229 (hon 3 (by kernel_rfl)))
                        have HA_HO229 := Aside0.mk (Q_HA_HO229 (hon 3 (by kernel_rfl)))
                        have HI0 := Aside0.mk (Q_HI0_e5 (hon 5 (by kernel_rfl)))
                        refine value_ (w1 := w') (v := .string ((a1.extract 0 (t225 : Int).toNat) ++ (rdOf ByteArray.empty y227 t230))) (by rfl) rfl ?_ ?_
                        · go_simp
                          (try simp only [i64_w])
                          try rfl
                          all_goals (try (have z1_ := c10; have z2_ := of_eq_true c6b0; simp only [ByteArray.size_append, ByteArray.size_extract] at z1_; omega))
                          all_goals (try (have z1_ := c14; have z2_ := of_eq_true c6b0; have z3_ := of_eq_true c13b0; simp only [ByteArray.size_append, ByteArray.size_extract] at z1_; omega))
                        refine hK.out _ _ ⟨v228, adz_v228, m6_, (by rw [ha.out]; exact putSel_upk 5 hb_ rfl rfl rfl), fun h0_ => absurd ((hon 5 (by kernel_rfl)).symm.trans h0_) (by decide), Q_HK, Q_HB, Q_HO229, Q_HA_HO229, Q_HI0_e5, Q_X6_⟩
                      refine steps_cons ?_ ?_
                      · rintro b a w' ⟨v228, adz_v228, m6_, ha, Q_HI0, Q_HK, Q_HB, Q_HO229, Q_HA_HO229, Q_HI0_e5, Q_X6_⟩ hb_ hon hoff
                        refine ⟨_, rfl, fun K hK => ?_⟩
                        have e23 : a.tmps[23]? = some (.int .i64 t225) := by rw [ha]; exact (putSel_off rfl).trans rfl
                        replace ha := Aside0.mk ha
                        have HK := Aside0.mk Q_HK
                        have HB := Aside0.mk Q_HB
                        refine value_ (w1 := w') (v := .int .i64 ji11) (by rfl) rfl ?_ ?_
                        · go_simp
                          (try simp only [i64_w])
                          try rfl
                        refine hK.out _ _ ⟨v228, adz_v228, m6_, (by rw [ha.out]; exact putSel_upk 6 hb_ rfl rfl rfl), Q_HI0, Q_HK, Q_HB, Q_HO229, Q_HA_HO229, Q_HI0_e5, Q_X6_⟩
                      refine steps_cons ?_ ?_
                      · rintro b a w' ⟨v228, adz_v228, m6_, ha, Q_HI0, Q_HK, Q_HB, Q_HO229, Q_HA_HO229, Q_HI0_e5, Q_X6_⟩ hb_ hon hoff
                        refine ⟨_, rfl, fun K hK => ?_⟩
                        have e22 : a.tmps[22]? = some (.string a1) := by rw [ha]; exact (putSel_off rfl).trans rfl
                        have e24 : a.tmps[24]? = some (.int .i64 ji11) := by rw [ha]; exact putSel_on (e := (11, 24, .int .i64 ji11)) 6 rfl rfl (hon 11 (by kernel_rfl)) rfl
                        replace ha := Aside0.mk ha
                        have HK := Aside0.mk Q_HK
                        have HB := Aside0.mk Q_HB
                        refine value_ (w1 := w') (v := .string (a1.extract ((ji11) : Int).toNat a1.size)) (by rfl) rfl ?_ ?_
                        · go_simp
                          (try simp only [i64_w])
                          try rfl
                        refine hK.out _ _ ⟨v228, adz_v228, m6_, (by rw [ha.out]; exact putSel_upk 7 hb_ rfl rfl rfl), Q_HI0, Q_HK, Q_HB, Q_HO229, Q_HA_HO229, Q_HI0_e5, Q_X6_⟩
                      refine steps_cons ?_ ?_
                      · rintro b a w' ⟨v228, adz_v228, m6_, ha, Q_HI0, Q_HK, Q_HB, Q_HO229, Q_HA_HO229, Q_HI0_e5, Q_X6_⟩ hb_ hon hoff
                        refine ⟨_, rfl, fun K hK => ?_⟩
                        have e21 : a.tmps[21]? = some (.string ((a1.extract 0 (t225 : Int).toNat) ++ (rdOf ByteArray.empty y227 t230))) := by rw [ha]; exact putSel_on (e := (8, 21, .string ((a1.extract 0 (t225 : Int).toNat) ++ (rdOf ByteArray.empty y227 t230)))) 5 rfl rfl (hon 8 (by kernel_rfl)) rfl
                        have e25 : a.tmps[25]? = some (.string (a1.extract ((ji11) : Int).toNat a1.size)) := by rw [ha]; exact putSel_on (e := (12, 25, .string (a1.extract ((ji11) : Int).toNat a1.size))) 7 rfl rfl (hon 12 (by kernel_rfl)) rfl
                        replace ha := Aside0.mk ha
                        have HK := Aside0.mk Q_HK
                        have HB := Aside0.mk Q_HB
                        have HO229 := Aside0.mk (Q_HO229 (hon 3 (by kernel_rfl)))
                        have HA_HO229 := Aside0.mk (Q_HA_HO229 (hon 3 (by kernel_rfl)))
                        have HI0 := Aside0.mk (Q_HI0_e5 (hon 5 (by kernel_rfl)))
                        refine value_ (w1 := w') (v := .string (((a1.extract 0 (t225 : Int).toNat) ++ (rdOf ByteArray.empty y227 t230)) ++ (a1.extract ((ji11) : Int).toNat a1.size))) (by rfl) rfl ?_ ?_
                        · go_simp
                          (try simp only [i64_w])
                          try rfl
                          all_goals (try (have z1_ := c10; have z2_ := of_eq_true c6b0; simp only [ByteArray.size_append, ByteArray.size_extract] at z1_; omega))
                          all_goals (try (have z1_ := c14; have z2_ := of_eq_true c6b0; have z3_ := of_eq_true c13b0; simp only [ByteArray.size_append, ByteArray.size_extract] at z1_; omega))
                        refine hK.out _ _ ⟨v228, adz_v228, m6_, (by rw [ha.out]; exact putSel_upk 8 hb_ rfl rfl rfl), fun h0_ => absurd ((hon 5 (by kernel_rfl)).symm.trans h0_) (by decide), Q_HK, Q_HB, Q_HO229, Q_HA_HO229, Q_HI0_e5, Q_X6_⟩
                      refine steps_cons ?_ ?_
                      · rintro b a w' ⟨v228, adz_v228, m6_, ha, Q_HI0, Q_HK, Q_HB, Q_HO229, Q_HA_HO229, Q_HI0_e5, Q_X6_⟩ hb_ hon hoff
                        refine ⟨_, rfl, fun K hK => ?_⟩
                        have e26 : a.tmps[26]? = some (.string (((a1.extract 0 (t225 : Int).toNat) ++ (rdOf ByteArray.empty y227 t230)) ++ (a1.extract ((ji11) : Int).toNat a1.size))) := by rw [ha]; exact putSel_on (e := (13, 26, .string (((a1.extract 0 (t225 : Int).toNat) ++ (rdOf ByteArray.empty y227 t230)) ++ (a1.extract ((ji11) : Int).toNat a1.size)))) 8 rfl rfl (hon 13 (by kernel_rfl)) rfl
                        replace ha := Aside0.mk ha
                        have HK := Aside0.mk Q_HK
                        have HB := Aside0.mk Q_HB
                        have HO229 := Aside0.mk (Q_HO229 (hon 3 (by kernel_rfl)))
                        have HA_HO229 := Aside0.mk (Q_HA_HO229 (hon 3 (by kernel_rfl)))
                        have HI0 := Aside0.mk (Q_HI0_e5 (hon 5 (by kernel_rfl)))
                        refine value_ (w1 := w') (v := .string (((a1.extract 0 (t225 : Int).toNat) ++ (rdOf ByteArray.empty y227 t230)) ++ (a1.extract ((ji11) : Int).toNat a1.size))) (by rfl) rfl ?_ ?_
                        · go_simp
                          (try simp only [i64_w])
                          try rfl
                          all_goals (try (have z1_ := c10; have z2_ := of_eq_true c6b0; simp only [ByteArray.size_append, ByteArray.size_extract] at z1_; omega))
                          all_goals (try (have z1_ := c14; have z2_ := of_eq_true c6b0; have z3_ := of_eq_true c13b0; simp only [ByteArray.size_append, ByteArray.size_extract] at z1_; omega))
                        refine hK.out _ _ ⟨v228, adz_v228, m6_, (by rw [ha.out]; exact putSel_upk 9 hb_ rfl rfl rfl), fun h0_ => absurd ((hon 5 (by kernel_rfl)).symm.trans h0_) (by decide), Q_HK, Q_HB, Q_HO229, Q_HA_HO229, Q_HI0_e5, Q_X6_⟩
                      exact steps_nil
                    rintro b a w21 hall ⟨v228, adz_v228, m6_, ha, Q_HI0, Q_HK, Q_HB, Q_HO229, Q_HA_HO229, Q_HI0_e5, Q_X6_⟩
                    clear HB HI0 HK
                    have hb2_ := hall 2 (by kernel_rfl)
                    have hb3_ := hall 3 (by kernel_rfl)
                    have hb5_ := hall 5 (by kernel_rfl)
                    have hb6_ := hall 6 (by kernel_rfl)
                    have hb7_ := hall 7 (by kernel_rfl)
                    have hb8_ := hall 8 (by kernel_rfl)
                    have hb11_ := hall 11 (by kernel_rfl)
                    have hb12_ := hall 12 (by kernel_rfl)
                    have hb13_ := hall 13 (by kernel_rfl)
                    have hb14_ := hall 14 (by kernel_rfl)
                    subst ha
                    obtain rfl := Q_X6_ hb6_
                    simp only [putSel, hb2_, hb3_, hb5_, hb6_, hb7_, hb8_, hb11_, hb12_, hb13_, hb14_, if_true, Act.put, List.setIfInBounds_toArray, List.set_cons_zero, List.set_cons_succ]
                    clear Q_HI0
                    have HK := Aside0.mk Q_HK
                    clear Q_HK
                    have HB := Aside0.mk Q_HB
                    clear Q_HB
                    have HO229 := Aside0.mk (Q_HO229 hb3_)
                    clear Q_HO229
                    have HA_HO229 := Aside0.mk (Q_HA_HO229 hb3_)
                    clear Q_HA_HO229
                    have HI0 := Aside0.mk (Q_HI0_e5 hb5_)
                    clear Q_HI0_e5
                    clear hall hb2_ hb3_ hb5_ hb6_ hb7_ hb8_ hb11_ hb12_ hb13_ hb14_
                    obtain ⟨co22, eo22⟩ := HA_HO229.out
                    clear HA_HO229
                    subst eo22
                    try go_wp2
                    go_ret
                    exact ⟨by first | rfl | (simp [errW_none, errW_some] <;> rfl) | (simp only [← hji11]; first | rfl | (simp [errW_none, errW_some] <;> rfl)) | (simp [*, errW_none, errW_some] <;> rfl), by repeat (first | (with_reducible first | exact HI0.out | apply IsS64.alloc | apply IsS64.drewN | apply IsS64.drew | apply IsS64.set_1) | exact HI0.out), by repeat (first | (with_reducible first | exact HB.out | apply below_alloc | apply pw_below_drewN | apply below_drew1 | refine below_set ?_ (IsS64.ge HI0.out)) | exact HB.out), by repeat (first | (with_reducible first | exact HK.out | apply KeepBut.set_ | apply keep_drewN | apply keep_drew | apply keep_alloc) | exact HK.out)⟩
                  · rw [if_neg c14] at H
                    exact absurd H (by simp)
                · rw [if_neg c13] at H
                  exact absurd H (by simp)
              · rw [if_neg c12] at H
                exact absurd H (by simp)
            · rw [if_neg c10] at H
              exact absurd H (by simp)
          · rw [if_neg c9] at H
            exact absurd H (by simp)
        · rw [if_neg c8] at H
          exact absurd H (by simp)
      · rw [if_neg c6] at H
        exact absurd H (by simp)
    · rw [if_neg c5] at H
      exact absurd H (by simp)

/-! ### spec_DrawReadDeed: function 15 -/
def spec_DrawReadDeed.f (k : Nat) (l0 : List Int) : Option (ByteArray) := (spec_l20Open.f l0).bind fun bt233 => ((spec_l20Deed.f k bt233.1 bt233.2).bind fun bt236 => ((spec_DeedText.f k bt236.1 bt236.2.1 bt236.2.2.1).bind fun t240 => ((spec_l20Rd_pick.f k bt233.1 bt236.2.2.2 3).bind fun bt241 => (if bt241.1 = 0 then ((spec_l20Spoil.f k bt233.1 bt241.2 t240).bind fun bt243 => (some bt243.1)) else (some t240)))))
theorem spec_DrawReadDeed.mono : ∀ a0 k, LeO (spec_DrawReadDeed.f k a0) (spec_DrawReadDeed.f (k + 1) a0) := by
  intro a0 k
  unfold spec_DrawReadDeed.f
  repeat' first
      | (with_reducible exact spec_DeedText.mono _ _ _ _)
      | (with_reducible exact spec_l20Deed.mono _ _ _)
      | (with_reducible exact spec_l20Rd_pick.mono _ _ _ _)
      | (with_reducible exact spec_l20Spoil.mono _ _ _ _)
      | (with_reducible exact LeO.refl _)
      | (with_reducible exact LeO.none _)
      | (with_reducible refine LeO.ite ?_ ?_)
      | (with_reducible refine LeO.bind ?_ (fun _ => ?_))
      | exact spec_DeedText.mono _ _ _ _
      | exact spec_l20Deed.mono _ _ _
      | exact spec_l20Rd_pick.mono _ _ _ _
      | exact spec_l20Spoil.mono _ _ _ _
      | exact LeO.none _
      | refine LeO.ite ?_ ?_
      | refine LeO.bind ?_ (fun _ => ?_)
set_option maxHeartbeats 8000000 in
set_option maxRecDepth 100000 in
theorem spec_DrawReadDeed.calls (k : Nat) (A0 : Option Addr) (c0 : Nat) (l0 : List Int) (r : ByteArray) (w : World) (hr0 : Kd.C (Kd.int .u8) w A0 l0.length l0) (hc0 : l0.length ≤ c0) (h : spec_DrawReadDeed.f k l0 = some r) :
    Calls Tryd.prog 15 #[.slice A0 l0.length c0] w fun e w' => e = .returned (.string r) ∧ Below w.heap.size w w' := by
  have HR0 := Aside0.mk hr0
  have HC0 := Aside0.mk hc0
  clear hr0 hc0
  have HB := Aside0.mk (Below.refl w.heap.size w)
  have H : ((spec_l20Open.f l0).bind fun bt233 => ((spec_l20Deed.f k bt233.1 bt233.2).bind fun bt236 => ((spec_DeedText.f k bt236.1 bt236.2.1 bt236.2.2.1).bind fun t240 => ((spec_l20Rd_pick.f k bt233.1 bt236.2.2.2 3).bind fun bt241 => (if bt241.1 = 0 then ((spec_l20Spoil.f k bt233.1 bt241.2 t240).bind fun bt243 => (some bt243.1)) else (some t240)))))) = some r := h
  clear h
  replace H := Option.bind_eq_some_iff.mp H
  obtain ⟨⟨t233, t234⟩, A20, H⟩ := H
  replace H : ((spec_l20Deed.f k t233 t234).bind fun bt236 => ((spec_DeedText.f k bt236.1 bt236.2.1 bt236.2.2.1).bind fun t240 => ((spec_l20Rd_pick.f k t233 bt236.2.2.2 3).bind fun bt241 => (if bt241.1 = 0 then ((spec_l20Spoil.f k t233 bt241.2 t240).bind fun bt243 => (some bt243.1)) else (some t240))))) = some r := H
  have A2 := Aside0.mk A20
  clear A20
  replace H := Option.bind_eq_some_iff.mp H
  obtain ⟨⟨t236, t237, t238, t239⟩, A30, H⟩ := H
  replace H : ((spec_DeedText.f k t236 t237 t238).bind fun t240 => ((spec_l20Rd_pick.f k t233 t239 3).bind fun bt241 => (if bt241.1 = 0 then ((spec_l20Spoil.f k t233 bt241.2 t240).bind fun bt243 => (some bt243.1)) else (some t240)))) = some r := H
  have A3 := Aside0.mk A30
  clear A30
  replace H := Option.bind_eq_some_iff.mp H
  obtain ⟨t240, A40, H⟩ := H
  replace H : ((spec_l20Rd_pick.f k t233 t239 3).bind fun bt241 => (if bt241.1 = 0 then ((spec_l20Spoil.f k t233 bt241.2 t240).bind fun bt243 => (some bt243.1)) else (some t240))) = some r := H
  have A4 := Aside0.mk A40
  clear A40
  replace H := Option.bind_eq_some_iff.mp H
  obtain ⟨⟨t241, t242⟩, A50, H⟩ := H
  replace H : (if t241 = 0 then ((spec_l20Spoil.f k t233 t242 t240).bind fun bt243 => (some bt243.1)) else (some t240)) = some r := H
  have A5 := Aside0.mk A50
  clear A50
  by_cases c6 : t241 = 0
  · rw [if_pos c6] at H
    have c6b0 : (t241 == 0) = true := beq_iff_eq.mpr c6
    have c6b1 : (t241 != 0) = false := bne_eq_false_iff_eq.mpr c6
    clear c6
    replace H := Option.bind_eq_some_iff.mp H
    obtain ⟨⟨t243, t244⟩, A70, H⟩ := H
    replace H : (some t243) = some r := H
    have A7 := Aside0.mk A70
    clear A70
    obtain rfl := Option.some.inj H
    go_enter Tryd.func15, Tryd.ntmps15
    go_wp2_with (first | ((with_reducible refine gate_callee (f := 26) rfl ?_); refine goesL_ (some 6) rfl rfl Tryd.func26 (by kernel_rfl) rfl #[.slice A0 l0.length c0] rfl (by (try simp only [List.map_toArray, List.map_cons, List.map_nil]); first | done | rfl | (simp only [List.length_drop, List.length_take]; rfl)) ?_; (with_reducible refine (spec_l20Open.calls _ _ l0 t233 t234 w _ ?side1 ?side2 ?side3 A2.out).mono ?_); (case side1 => repeat (first | (with_reducible first | exact HB.out | apply below_alloc | apply pw_below_drewN | apply below_drew1) | exact HB.out)); (case side2 => exact HR0.out); (case side3 => exact HC0.out); rintro e w8 ⟨g235, rfl, hi, hb, hb2⟩; refine ⟨_, rfl, ?_⟩; have n0_ := Aside0.mk (hb); have n1_ := Aside0.mk (hi); clear HB; have HB := n0_; have HI235 := n1_; clear n0_ n1_; (try clear hb); (try clear hb2); (try clear hk); (try clear hi)) | ((with_reducible refine gate_callee (f := 25) rfl ?_); refine goesL_ (some 8) rfl rfl Tryd.func25 (by kernel_rfl) rfl #[.pointer (some ⟨g235, 0, none⟩)] rfl (by (try simp only [List.map_toArray, List.map_cons, List.map_nil]); first | done | rfl | (simp only [List.length_drop, List.length_take]; rfl)) ?_; (with_reducible refine (spec_l20Deed.calls k g235 t233 t234 t236 t237 t238 t239 w _ ?side1 ?side2 A3.out).mono ?_); (case side1 => repeat (first | (with_reducible first | exact HI235.out | apply IsS64.alloc | apply IsS64.drewN | apply IsS64.drew | apply IsS64.set_1) | exact HI235.out)); (case side2 => repeat (first | (with_reducible first | exact HB.out | apply below_alloc | apply pw_below_drewN | apply below_drew1 | refine below_set ?_ (IsS64.ge HI235.out)) | exact HB.out)); rintro e w9 ⟨rfl, hi, hb, hk⟩; refine ⟨_, rfl, ?_⟩; have n0_ := Aside0.mk (hb); have n1_ := Aside0.mk (hi); clear HB; clear HI235; have HB := n0_; have HI235 := n1_; clear n0_ n1_; (try clear hb); (try clear hb2); (try clear hk); (try clear hi)) | ((with_reducible refine gate_callee (f := 10) rfl ?_); refine goesL_ (some 9) rfl rfl Tryd.func10 (by kernel_rfl) rfl #[.agg #[.int .i64 t236, .int .i64 t237, .int .i64 t238]] rfl (by (try simp only [List.map_toArray, List.map_cons, List.map_nil]); first | done | rfl | (simp only [List.length_drop, List.length_take]; rfl)) ?_; (with_reducible refine (spec_DeedText.calls k t236 t237 t238 t240 _ A4.out).mono ?_); rintro e w10 ⟨rfl, hb⟩; refine ⟨_, rfl, ?_⟩; have n0_ := Aside0.mk (IsS64.below (by repeat (first | (with_reducible first | exact HI235.out | apply IsS64.alloc | apply IsS64.drewN | apply IsS64.drew | apply IsS64.set_1) | exact HI235.out)) hb); have n1_ := Aside0.mk (below_step (by repeat (first | (with_reducible first | exact HB.out | apply below_alloc | apply pw_below_drewN | apply below_drew1 | refine below_set ?_ (IsS64.ge HI235.out)) | exact HB.out)) hb); clear HI235; clear HB; have HI235 := n0_; have HB := n1_; clear n0_ n1_; (try clear hb); (try clear hb2); (try clear hk); (try clear hi)) | ((with_reducible refine gate_callee (f := 36) rfl ?_); refine goesL_ (some 11) rfl rfl Tryd.func36 (by kernel_rfl) rfl #[.pointer (some ⟨g235, 0, none⟩), .int .i64 3] rfl (by (try simp only [List.map_toArray, List.map_cons, List.map_nil]); first | done | rfl | (simp only [List.length_drop, List.length_take]; rfl)) ?_; (with_reducible refine (spec_l20Rd_pick.calls k g235 t233 t239 3 t241 t242 w _ ?side1 ?side2 A5.out).mono ?_); (case side1 => repeat (first | (with_reducible first | exact HI235.out | apply IsS64.alloc | apply IsS64.drewN | apply IsS64.drew | apply IsS64.set_1) | exact HI235.out)); (case side2 => repeat (first | (with_reducible first | exact HB.out | apply below_alloc | apply pw_below_drewN | apply below_drew1 | refine below_set ?_ (IsS64.ge HI235.out)) | exact HB.out)); rintro e w11 ⟨rfl, hi, hb, hk⟩; refine ⟨_, rfl, ?_⟩; have n0_ := Aside0.mk (hb); have n1_ := Aside0.mk (hi); clear HB; clear HI235; have HB := n0_; have HI235 := n1_; clear n0_ n1_; (try clear hb); (try clear hb2); (try clear hk); (try clear hi)) | ((with_reducible refine gate_callee (f := 37) rfl ?_); refine goesL_ (some 15) rfl rfl Tryd.func37 (by kernel_rfl) rfl #[.pointer (some ⟨g235, 0, none⟩), .string t240] rfl (by (try simp only [List.map_toArray, List.map_cons, List.map_nil]); first | done | rfl | (simp only [List.length_drop, List.length_take]; rfl)) ?_; (with_reducible refine (spec_l20Spoil.calls k g235 t233 t242 t240 t243 t244 w _ ?side1 ?side2 A7.out).mono ?_); (case side1 => repeat (first | (with_reducible first | exact HI235.out | apply IsS64.alloc | apply IsS64.drewN | apply IsS64.drew | apply IsS64.set_1) | exact HI235.out)); (case side2 => repeat (first | (with_reducible first | exact HB.out | apply below_alloc | apply pw_below_drewN | apply below_drew1 | refine below_set ?_ (IsS64.ge HI235.out)) | exact HB.out)); rintro e w12 ⟨rfl, hi, hb, hk⟩; refine ⟨_, rfl, ?_⟩; have n0_ := Aside0.mk (hb); have n1_ := Aside0.mk (hi); clear HB; clear HI235; have HB := n0_; have HI235 := n1_; clear n0_ n1_; (try clear hb); (try clear hb2); (try clear hk); (try clear hi)))
    go_ret
    exact ⟨by first | rfl | (simp [errW_none, errW_some] <;> rfl) | (simp [*, errW_none, errW_some] <;> rfl), by repeat (first | (with_reducible first | exact HB.out | apply below_alloc | apply pw_below_drewN | apply below_drew1 | refine below_set ?_ (IsS64.ge HI235.out)) | exact HB.out)⟩
  · rw [if_neg c6] at H
    have c6b0 : (t241 == 0) = false := beq_eq_false_iff_ne.mpr c6
    have c6b1 : (t241 != 0) = true := bne_iff_ne.mpr c6
    obtain rfl := Option.some.inj H
    go_enter Tryd.func15, Tryd.ntmps15
    go_wp2_with (first | ((with_reducible refine gate_callee (f := 26) rfl ?_); refine goesL_ (some 6) rfl rfl Tryd.func26 (by kernel_rfl) rfl #[.slice A0 l0.length c0] rfl (by (try simp only [List.map_toArray, List.map_cons, List.map_nil]); first | done | rfl | (simp only [List.length_drop, List.length_take]; rfl)) ?_; (with_reducible refine (spec_l20Open.calls _ _ l0 t233 t234 w _ ?side1 ?side2 ?side3 A2.out).mono ?_); (case side1 => repeat (first | (with_reducible first | exact HB.out | apply below_alloc | apply pw_below_drewN | apply below_drew1) | exact HB.out)); (case side2 => exact HR0.out); (case side3 => exact HC0.out); rintro e w13 ⟨g235, rfl, hi, hb, hb2⟩; refine ⟨_, rfl, ?_⟩; have n0_ := Aside0.mk (hb); have n1_ := Aside0.mk (hi); clear HB; have HB := n0_; have HI235 := n1_; clear n0_ n1_; (try clear hb); (try clear hb2); (try clear hk); (try clear hi)) | ((with_reducible refine gate_callee (f := 25) rfl ?_); refine goesL_ (some 8) rfl rfl Tryd.func25 (by kernel_rfl) rfl #[.pointer (some ⟨g235, 0, none⟩)] rfl (by (try simp only [List.map_toArray, List.map_cons, List.map_nil]); first | done | rfl | (simp only [List.length_drop, List.length_take]; rfl)) ?_; (with_reducible refine (spec_l20Deed.calls k g235 t233 t234 t236 t237 t238 t239 w _ ?side1 ?side2 A3.out).mono ?_); (case side1 => repeat (first | (with_reducible first | exact HI235.out | apply IsS64.alloc | apply IsS64.drewN | apply IsS64.drew | apply IsS64.set_1) | exact HI235.out)); (case side2 => repeat (first | (with_reducible first | exact HB.out | apply below_alloc | apply pw_below_drewN | apply below_drew1 | refine below_set ?_ (IsS64.ge HI235.out)) | exact HB.out)); rintro e w14 ⟨rfl, hi, hb, hk⟩; refine ⟨_, rfl, ?_⟩; have n0_ := Aside0.mk (hb); have n1_ := Aside0.mk (hi); clear HB; clear HI235; have HB := n0_; have HI235 := n1_; clear n0_ n1_; (try clear hb); (try clear hb2); (try clear hk); (try clear hi)) | ((with_reducible refine gate_callee (f := 10) rfl ?_); refine goesL_ (some 9) rfl rfl Tryd.func10 (by kernel_rfl) rfl #[.agg #[.int .i64 t236, .int .i64 t237, .int .i64 t238]] rfl (by (try simp only [List.map_toArray, List.map_cons, List.map_nil]); first | done | rfl | (simp only [List.length_drop, List.length_take]; rfl)) ?_; (with_reducible refine (spec_DeedText.calls k t236 t237 t238 t240 _ A4.out).mono ?_); rintro e w15 ⟨rfl, hb⟩; refine ⟨_, rfl, ?_⟩; have n0_ := Aside0.mk (IsS64.below (by repeat (first | (with_reducible first | exact HI235.out | apply IsS64.alloc | apply IsS64.drewN | apply IsS64.drew | apply IsS64.set_1) | exact HI235.out)) hb); have n1_ := Aside0.mk (below_step (by repeat (first | (with_reducible first | exact HB.out | apply below_alloc | apply pw_below_drewN | apply below_drew1 | refine below_set ?_ (IsS64.ge HI235.out)) | exact HB.out)) hb); clear HI235; clear HB; have HI235 := n0_; have HB := n1_; clear n0_ n1_; (try clear hb); (try clear hb2); (try clear hk); (try clear hi)) | ((with_reducible refine gate_callee (f := 36) rfl ?_); refine goesL_ (some 11) rfl rfl Tryd.func36 (by kernel_rfl) rfl #[.pointer (some ⟨g235, 0, none⟩), .int .i64 3] rfl (by (try simp only [List.map_toArray, List.map_cons, List.map_nil]); first | done | rfl | (simp only [List.length_drop, List.length_take]; rfl)) ?_; (with_reducible refine (spec_l20Rd_pick.calls k g235 t233 t239 3 t241 t242 w _ ?side1 ?side2 A5.out).mono ?_); (case side1 => repeat (first | (with_reducible first | exact HI235.out | apply IsS64.alloc | apply IsS64.drewN | apply IsS64.drew | apply IsS64.set_1) | exact HI235.out)); (case side2 => repeat (first | (with_reducible first | exact HB.out | apply below_alloc | apply pw_below_drewN | apply below_drew1 | refine below_set ?_ (IsS64.ge HI235.out)) | exact HB.out)); rintro e w16 ⟨rfl, hi, hb, hk⟩; refine ⟨_, rfl, ?_⟩; have n0_ := Aside0.mk (hb); have n1_ := Aside0.mk (hi); clear HB; clear HI235; have HB := n0_; have HI235 := n1_; clear n0_ n1_; (try clear hb); (try clear hb2); (try clear hk); (try clear hi)))
    go_ret
    exact ⟨by first | rfl | (simp [errW_none, errW_some] <;> rfl) | (simp [*, errW_none, errW_some] <;> rfl), by repeat (first | (with_reducible first | exact HB.out | apply below_alloc | apply pw_below_drewN | apply below_drew1 | refine below_set ?_ (IsS64.ge HI235.out)) | exact HB.out)⟩

/-! ### laws_FnReadDeed: function 5 -/
def laws_FnReadDeed.j0 : Nat → ByteArray → Bool → Bool → Int → Int → Int → Option (Bool)
  | 0, _, _, _, _, _, _ => none
  | k + 1, x3, x5, x32, x251000, x251001, x251002 => if x32 = true then (some false) else (if x5 = true then (if x3.size + 1 ≤ 9223372036854775807 then ((impl_ReadDeed.f k (x3 ++ (⟨#[32]⟩ : ByteArray))).bind fun bt256 => ((impl_DeedText.f k x251000 x251001 x251002).bind fun t261 => (if t261.toList = x3.toList then (some (!bt256.2.2.2)) else (some false)))) else (none)) else (if (x251000 == 0 && (x251001 == 0 && (x251002 == 0))) = true then ((laws_alive.f).bind fun t262 => (some t262)) else (some false)))
def laws_FnReadDeed.f (k : Nat) (l0 : List Int) : Option (Bool) := if (l0.length : Int) > 1048576 then (some true) else ((spec_DrawReadDeed.f k l0).bind fun t245 => ((impl_ReadDeed.f k t245).bind fun bt246 => ((spec_ReadDeed.f k t245).bind fun bt251 => (if (!(bt246.1 == bt251.1) || (!(bt246.2.1 == bt251.2.1) || (!(bt246.2.2.1 == bt251.2.2.1)))) = true then (laws_FnReadDeed.j0 k t245 bt246.2.2.2 true bt246.1 bt246.2.1 bt246.2.2.1) else (laws_FnReadDeed.j0 k t245 bt246.2.2.2 (bt246.2.2.2 != bt251.2.2.2) bt246.1 bt246.2.1 bt246.2.2.1)))))
theorem laws_FnReadDeed.mono_l : ∀ k, (∀ y0 y1 y2 y3 y4 y5, LeO (laws_FnReadDeed.j0 k y0 y1 y2 y3 y4 y5) (laws_FnReadDeed.j0 (k + 1) y0 y1 y2 y3 y4 y5))
  | 0 => fun _ _ _ _ _ _ r h => by simp [laws_FnReadDeed.j0] at h
  | k + 1 => by
    have ih0 := laws_FnReadDeed.mono_l k
    · intro y0 y1 y2 y3 y4 y5
      unfold laws_FnReadDeed.j0
      repeat' first
      | (with_reducible exact ih0 _ _ _ _ _ _)
      | (with_reducible exact impl_DeedText.mono _ _ _ _)
      | (with_reducible exact impl_ReadDeed.mono _ _)
      | (with_reducible exact spec_DrawReadDeed.mono _ _)
      | (with_reducible exact spec_ReadDeed.mono _ _)
      | (with_reducible exact LeO.refl _)
      | (with_reducible exact LeO.none _)
      | (with_reducible refine LeO.ite ?_ ?_)
      | (with_reducible refine LeO.bind ?_ (fun _ => ?_))
      | exact ih0 _ _ _ _ _ _
      | exact impl_DeedText.mono _ _ _ _
      | exact impl_ReadDeed.mono _ _
      | exact spec_DrawReadDeed.mono _ _
      | exact spec_ReadDeed.mono _ _
      | exact LeO.none _
      | refine LeO.ite ?_ ?_
      | refine LeO.bind ?_ (fun _ => ?_)
theorem laws_FnReadDeed.mono : ∀ a0 k, LeO (laws_FnReadDeed.f k a0) (laws_FnReadDeed.f (k + 1) a0) := by
  intro a0 k
  have ih0 := laws_FnReadDeed.mono_l k
  unfold laws_FnReadDeed.f
  repeat' first
      | (with_reducible exact ih0 _ _ _ _ _ _)
      | (with_reducible exact impl_DeedText.mono _ _ _ _)
      | (with_reducible exact impl_ReadDeed.mono _ _)
      | (with_reducible exact spec_DrawReadDeed.mono _ _)
      | (with_reducible exact spec_ReadDeed.mono _ _)
      | (with_reducible exact LeO.refl _)
      | (with_reducible exact LeO.none _)
      | (with_reducible refine LeO.ite ?_ ?_)
      | (with_reducible refine LeO.bind ?_ (fun _ => ?_))
      | exact ih0 _ _ _ _ _ _
      | exact impl_DeedText.mono _ _ _ _
      | exact impl_ReadDeed.mono _ _
      | exact spec_DrawReadDeed.mono _ _
      | exact spec_ReadDeed.mono _ _
      | exact LeO.none _
      | refine LeO.ite ?_ ?_
      | refine LeO.bind ?_ (fun _ => ?_)
set_option maxHeartbeats 8000000 in
set_option maxRecDepth 100000 in
theorem laws_FnReadDeed.calls (k : Nat) (A0 : Option Addr) (c0 : Nat) (l0 : List Int) (r : Bool) (w : World) (hr0 : Kd.C (Kd.int .u8) w A0 l0.length l0) (hc0 : l0.length ≤ c0) (h : laws_FnReadDeed.f k l0 = some r) (hG_ : GL w) :
    Calls Tryd.prog 5 #[.slice A0 l0.length c0] w fun e w' => e = .returned (.bool r) ∧ Below w.heap.size w w' := by
  have hu24 := Tryd.underlying24
  have HR0 := Aside0.mk hr0
  have HC0 := Aside0.mk hc0
  clear hr0 hc0
  have HB := Aside0.mk (Below.refl w.heap.size w)
  have H : (if (l0.length : Int) > 1048576 then (some true) else ((spec_DrawReadDeed.f k l0).bind fun t245 => ((impl_ReadDeed.f k t245).bind fun bt246 => ((spec_ReadDeed.f k t245).bind fun bt251 => (if (!(bt246.1 == bt251.1) || (!(bt246.2.1 == bt251.2.1) || (!(bt246.2.2.1 == bt251.2.2.1)))) = true then (laws_FnReadDeed.j0 k t245 bt246.2.2.2 true bt246.1 bt246.2.1 bt246.2.2.1) else (laws_FnReadDeed.j0 k t245 bt246.2.2.2 (bt246.2.2.2 != bt251.2.2.2) bt246.1 bt246.2.1 bt246.2.2.1)))))) = some r := h
  clear h
  by_cases c2 : (l0.length : Int) > 1048576
  · rw [if_pos c2] at H
    have c2b0 : decide (1048576 < (l0.length : Int)) = true := decide_eq_true c2
    have c2b1 : decide (1048576 < l0.length) = true := decide_eq_true (by omega)
    clear c2
    obtain rfl := Option.some.inj H
    go_enter Tryd.func5, Tryd.ntmps5
    go_wp2
    go_ret
    exact ⟨by first | rfl | (simp [errW_none, errW_some] <;> rfl) | (simp [*, errW_none, errW_some] <;> rfl), by repeat (first | (with_reducible first | exact HB.out | apply below_alloc | apply pw_below_drewN | apply below_drew1) | exact HB.out)⟩
  · rw [if_neg c2] at H
    have c2b0 : decide (1048576 < (l0.length : Int)) = false := decide_eq_false c2
    have c2b1 : decide (1048576 < l0.length) = false := decide_eq_false (by omega)
    clear c2
    replace H := Option.bind_eq_some_iff.mp H
    obtain ⟨t245, A30, H⟩ := H
    replace H : ((impl_ReadDeed.f k t245).bind fun bt246 => ((spec_ReadDeed.f k t245).bind fun bt251 => (if (!(bt246.1 == bt251.1) || (!(bt246.2.1 == bt251.2.1) || (!(bt246.2.2.1 == bt251.2.2.1)))) = true then (laws_FnReadDeed.j0 k t245 bt246.2.2.2 true bt246.1 bt246.2.1 bt246.2.2.1) else (laws_FnReadDeed.j0 k t245 bt246.2.2.2 (bt246.2.2.2 != bt251.2.2.2) bt246.1 bt246.2.1 bt246.2.2.1)))) = some r := H
    have A3 := Aside0.mk A30
    clear A30
    replace H := Option.bind_eq_some_iff.mp H
    obtain ⟨⟨t246, t247, t248, t249⟩, A40, H⟩ := H
    replace H : ((spec_ReadDeed.f k t245).bind fun bt251 => (if (!(t246 == bt251.1) || (!(t247 == bt251.2.1) || (!(t248 == bt251.2.2.1)))) = true then (laws_FnReadDeed.j0 k t245 t249 true t246 t247 t248) else (laws_FnReadDeed.j0 k t245 t249 (t249 != bt251.2.2.2) t246 t247 t248))) = some r := H
    have A4 := Aside0.mk A40
    clear A40
    replace H := Option.bind_eq_some_iff.mp H
    obtain ⟨⟨t251, t252, t253, t254⟩, A50, H⟩ := H
    replace H : (if (!(t246 == t251) || (!(t247 == t252) || (!(t248 == t253)))) = true then (laws_FnReadDeed.j0 k t245 t249 true t246 t247 t248) else (laws_FnReadDeed.j0 k t245 t249 (t249 != t254) t246 t247 t248)) = some r := H
    have A5 := Aside0.mk A50
    clear A50
    have HC6 := Aside0.mk H
    clear H
    go_enter Tryd.func5, Tryd.ntmps5
    go_upto_region 6 with (first | ((with_reducible refine gate_callee (f := 15) rfl ?_); refine goesL_ (some 14) rfl rfl Tryd.func15 (by kernel_rfl) rfl #[.slice A0 l0.length c0] rfl (by (try simp only [List.map_toArray, List.map_cons, List.map_nil]); first | done | rfl | (simp only [List.length_drop, List.length_take]; rfl)) ?_; (with_reducible refine (spec_DrawReadDeed.calls k _ _ l0 t245 _ ?side1 ?side2 A3.out).mono ?_); (case side1 => repeat (first | exact HR0.out | (with_reducible refine Kd.C_alloc ?_ _) | (with_reducible refine Kd.C_drewN ?_ _) | (with_reducible refine Kd.C_drew ?_))); (case side2 => exact HC0.out); rintro e w7 ⟨rfl, hb⟩; refine ⟨_, rfl, ?_⟩; have n0_ := Aside0.mk (below_step (by repeat (first | (with_reducible first | exact HB.out | apply below_alloc | apply pw_below_drewN | apply below_drew1) | exact HB.out)) hb); clear HB; have HB := n0_; clear n0_; (try clear hb); (try clear hb2); (try clear hk); (try clear hi)) | ((with_reducible refine gate_callee (f := 12) rfl ?_); refine goesL_ (some 17) rfl rfl Tryd.func12 (by kernel_rfl) rfl #[.string t245] rfl (by (try simp only [List.map_toArray, List.map_cons, List.map_nil]); first | done | rfl | (simp only [List.length_drop, List.length_take]; rfl)) ?_; (with_reducible refine (impl_ReadDeed.calls k t245 t246 t247 t248 t249 _ A4.out ?side1).mono ?_); (case side1 => exact GL_below hG_ (by repeat (first | (with_reducible first | exact HB.out | apply below_alloc | apply pw_below_drewN | apply below_drew1) | exact HB.out))); rintro e w8 ⟨rfl, hb⟩; refine ⟨_, rfl, ?_⟩; have n0_ := Aside0.mk (below_step (by repeat (first | (with_reducible first | exact HB.out | apply below_alloc | apply pw_below_drewN | apply below_drew1) | exact HB.out)) hb); clear HB; have HB := n0_; clear n0_; (try clear hb); (try clear hb2); (try clear hk); (try clear hi)) | ((with_reducible refine gate_dst (N := 4) rfl ?_); refine box_event ?hg (N := 4) ?hd (cs := #[.int .i64 0, .int .i64 0, .int .i64 0]) (t := 24) ?hr ?_; (case hd => rfl); (case hg => rfl); (case hr => first | (go_simp; done) | (go_simp; rfl)); intro gb250 hg w9 hbox hb; have n0_ := Aside0.mk (below_step (by repeat (first | (with_reducible first | exact HB.out | apply below_alloc | apply pw_below_drewN | apply below_drew1) | exact HB.out)) hb); have n1_ := Aside0.mk (hbox); have n2_ := Aside0.mk ((by rw [hg]; exact (below_size (by repeat (first | (with_reducible first | exact HB.out | apply below_alloc | apply pw_below_drewN | apply below_drew1) | exact HB.out))) : w.heap.size ≤ gb250)); have n3_ := Aside0.mk ((by rw [hg]; exact (below_size (by repeat (first | (with_reducible first | exact HB.out | apply below_alloc | apply pw_below_drewN | apply below_drew1) | exact HB.out))) : w.heap.size ≤ gb250)); clear HB; have HB := n0_; have BK250 := n1_; have GW250 := n2_; have GE250 := n3_; clear n0_ n1_ n2_ n3_; clear hb hbox hg; have hcz10_0 : w9.cell? ⟨gb250, 0, none⟩ = some (.int .i64 0) := (blk_cell BK250.out 0).trans rfl; have hcz10_1 : w9.cell? ⟨gb250, 1, none⟩ = some (.int .i64 0) := (blk_cell BK250.out 1).trans rfl; have hcz10_2 : w9.cell? ⟨gb250, 2, none⟩ = some (.int .i64 0) := (blk_cell BK250.out 2).trans rfl; have hfz10_0 := blk_frozen BK250.out 0; have hfz10_1 := blk_frozen BK250.out 1; have hfz10_2 := blk_frozen BK250.out 2) | ((with_reducible refine gate_callee (f := 13) rfl ?_); refine goesL_ (some 22) rfl rfl Tryd.func13 (by kernel_rfl) rfl #[.string t245] rfl (by (try simp only [List.map_toArray, List.map_cons, List.map_nil]); first | done | rfl | (simp only [List.length_drop, List.length_take]; rfl)) ?_; (with_reducible refine (spec_ReadDeed.calls k t245 t251 t252 t253 t254 _ A5.out).mono ?_); rintro e w11 ⟨rfl, hb⟩; refine ⟨_, rfl, ?_⟩; have n0_ := Aside0.mk (blk_below (g := gb250) (o := .cells #[.int .i64 t246, .int .i64 t247, .int .i64 t248] 24 (0, 0)) (by (with_reducible repeat (first | refine blk_drewN ?_ _ | refine blk_drew ?_ | refine blk_alloc ?_ _)); refine blk_put (cs := #[.int .i64 t246, .int .i64 t247, .int .i64 0]) ?_ 2 _ rfl; (with_reducible repeat (first | refine blk_drewN ?_ _ | refine blk_drew ?_ | refine blk_alloc ?_ _)); refine blk_put (cs := #[.int .i64 t246, .int .i64 0, .int .i64 0]) ?_ 1 _ rfl; (with_reducible repeat (first | refine blk_drewN ?_ _ | refine blk_drew ?_ | refine blk_alloc ?_ _)); refine blk_put (cs := #[.int .i64 0, .int .i64 0, .int .i64 0]) ?_ 0 _ rfl; (with_reducible repeat (first | refine blk_drewN ?_ _ | refine blk_drew ?_ | refine blk_alloc ?_ _)); exact BK250.out) hb); have n1_ := Aside0.mk (below_step (by repeat (first | (with_reducible first | exact HB.out | apply below_alloc | apply pw_below_drewN | apply below_drew1 | refine below_set ?_ GE250.out) | exact HB.out)) hb); clear BK250; clear HB; have BK250 := n0_; have HB := n1_; clear n0_ n1_; (try clear hb); (try clear hb2); (try clear hk); (try clear hi)) | ((with_reducible refine gate_dst (N := 6) rfl ?_); refine box_event ?hg (N := 6) ?hd (cs := #[.int .i64 0, .int .i64 0, .int .i64 0]) (t := 24) ?hr ?_; (case hd => rfl); (case hg => rfl); (case hr => first | (go_simp; done) | (go_simp; rfl)); intro gb255 hg w12 hbox hb; have n0_ := Aside0.mk (blk_below (g := gb250) (o := .cells #[.int .i64 t246, .int .i64 t247, .int .i64 t248] 24 (0, 0)) (by (with_reducible repeat (first | refine blk_drewN ?_ _ | refine blk_drew ?_ | refine blk_alloc ?_ _)); exact BK250.out) hb); have n1_ := Aside0.mk (below_step (by repeat (first | (with_reducible first | exact HB.out | apply below_alloc | apply pw_below_drewN | apply below_drew1 | refine below_set ?_ GE250.out) | exact HB.out)) hb); have n2_ := Aside0.mk (hbox); have n3_ := Aside0.mk ((by rw [hg]; exact (below_size (by repeat (first | (with_reducible first | exact HB.out | apply below_alloc | apply pw_below_drewN | apply below_drew1 | refine below_set ?_ GE250.out) | exact HB.out))) : w.heap.size ≤ gb255)); have n4_ := Aside0.mk ((by rw [hg]; exact (below_size (by repeat (first | (with_reducible first | exact HB.out | apply below_alloc | apply pw_below_drewN | apply below_drew1 | refine below_set ?_ GE250.out) | exact HB.out))) : w.heap.size ≤ gb255)); have n5_ := Aside0.mk ((by rw [hg]; exact Nat.ne_of_lt (blk_lt (g := gb250) (o := .cells #[.int .i64 t246, .int .i64 t247, .int .i64 t248] 24 (0, 0)) (by (with_reducible repeat (first | refine blk_drewN ?_ _ | refine blk_drew ?_ | refine blk_alloc ?_ _)); exact BK250.out)) : gb250 ≠ gb255)); have n6_ := Aside0.mk ((by rw [hg]; exact Nat.ne_of_gt (blk_lt (g := gb250) (o := .cells #[.int .i64 t246, .int .i64 t247, .int .i64 t248] 24 (0, 0)) (by (with_reducible repeat (first | refine blk_drewN ?_ _ | refine blk_drew ?_ | refine blk_alloc ?_ _)); exact BK250.out)) : gb255 ≠ gb250)); clear BK250; clear HB; have BK250 := n0_; have HB := n1_; have BK255 := n2_; have GW255 := n3_; have GE255 := n4_; have NB250_255 := n5_; have NB255_250 := n6_; clear n0_ n1_ n2_ n3_ n4_ n5_ n6_; clear hb hbox hg; have hnb13 := NB255_250.out; have hnc13 := NB250_255.out; have hcz14_0 : w12.cell? ⟨gb255, 0, none⟩ = some (.int .i64 0) := (blk_cell BK255.out 0).trans rfl; have hcz14_1 : w12.cell? ⟨gb255, 1, none⟩ = some (.int .i64 0) := (blk_cell BK255.out 1).trans rfl; have hcz14_2 : w12.cell? ⟨gb255, 2, none⟩ = some (.int .i64 0) := (blk_cell BK255.out 2).trans rfl; have hfz14_0 := blk_frozen BK255.out 0; have hfz14_1 := blk_frozen BK255.out 1; have hfz14_2 := blk_frozen BK255.out 2))
    (try simp only [Act.put, List.setIfInBounds_toArray, List.set_cons_zero, List.set_cons_succ])
    go_cut [32] (fun v32 wc => ∃ (kq : Nat) (x32_5 : Bool), v32 = .bool x32_5 ∧ Aside0 (laws_FnReadDeed.j0 kq t245 t249 x32_5 t246 t247 t248 = some r) ∧ Aside0 (kq ≤ k) ∧ Aside0 (wc.heap[gb250]? = some (.cells #[.int .i64 t246, .int .i64 t247, .int .i64 t248] 24 (0, 0))) ∧ Aside0 (wc.heap[gb255]? = some (.cells #[.int .i64 t251, .int .i64 t252, .int .i64 t253] 24 (0, 0))) ∧ Aside0 (Below w.heap.size w wc))
    case first =>
      have H := HC6.out
      clear HC6
      by_cases c15 : (!(t246 == t251) || (!(t247 == t252) || (!(t248 == t253)))) = true
      · rw [if_pos c15] at H
        have c15b0 : (!(t246 == t251) || (!(t247 == t252) || (!(t248 == t253)))) = true := c15
        clear c15
        (first | rw [c15b0] | (simp only [i64_w, i32_w]; rw [c15b0]) | skip)
        have H' := Aside0.mk H
        clear H
        have hnb16 := NB250_255.out
        have hnc16 := NB255_250.out
        have hcz17_0 : w12.cell? ⟨gb250, 0, none⟩ = some (.int .i64 t246) := (blk_cell BK250.out 0).trans rfl
        have hcz17_1 : w12.cell? ⟨gb250, 1, none⟩ = some (.int .i64 t247) := (blk_cell BK250.out 1).trans rfl
        have hcz17_2 : w12.cell? ⟨gb250, 2, none⟩ = some (.int .i64 t248) := (blk_cell BK250.out 2).trans rfl
        have hfz17_0 := blk_frozen BK250.out 0
        have hfz17_1 := blk_frozen BK250.out 1
        have hfz17_2 := blk_frozen BK250.out 2
        have hcz18_0 : w12.cell? ⟨gb255, 0, none⟩ = some (.int .i64 0) := (blk_cell BK255.out 0).trans rfl
        have hcz18_1 : w12.cell? ⟨gb255, 1, none⟩ = some (.int .i64 0) := (blk_cell BK255.out 1).trans rfl
        have hcz18_2 : w12.cell? ⟨gb255, 2, none⟩ = some (.int .i64 0) := (blk_cell BK255.out 2).trans rfl
        have hfz18_0 := blk_frozen BK255.out 0
        have hfz18_1 := blk_frozen BK255.out 1
        have hfz18_2 := blk_frozen BK255.out 2
        go_wp2
        go_meet
        case rel => exact ⟨_, (true), (by first | rfl | (simp; done) | (simp [*]; done)), H', ⟨by first | omega | exact Nat.le_refl _⟩, ⟨by (with_reducible repeat (first | refine blk_drewN ?_ _ | refine blk_drew ?_ | refine blk_alloc ?_ _)); refine blk_far ?_ NB250_255.out _; (with_reducible repeat (first | refine blk_drewN ?_ _ | refine blk_drew ?_ | refine blk_alloc ?_ _)); refine blk_far ?_ NB250_255.out _; (with_reducible repeat (first | refine blk_drewN ?_ _ | refine blk_drew ?_ | refine blk_alloc ?_ _)); refine blk_far ?_ NB250_255.out _; (with_reducible repeat (first | refine blk_drewN ?_ _ | refine blk_drew ?_ | refine blk_alloc ?_ _)); exact BK250.out⟩, ⟨by (with_reducible repeat (first | refine blk_drewN ?_ _ | refine blk_drew ?_ | refine blk_alloc ?_ _)); refine blk_put (cs := #[.int .i64 t251, .int .i64 t252, .int .i64 0]) ?_ 2 _ rfl; (with_reducible repeat (first | refine blk_drewN ?_ _ | refine blk_drew ?_ | refine blk_alloc ?_ _)); refine blk_put (cs := #[.int .i64 t251, .int .i64 0, .int .i64 0]) ?_ 1 _ rfl; (with_reducible repeat (first | refine blk_drewN ?_ _ | refine blk_drew ?_ | refine blk_alloc ?_ _)); refine blk_put (cs := #[.int .i64 0, .int .i64 0, .int .i64 0]) ?_ 0 _ rfl; (with_reducible repeat (first | refine blk_drewN ?_ _ | refine blk_drew ?_ | refine blk_alloc ?_ _)); exact BK255.out⟩, ⟨by repeat (first | (with_reducible first | exact HB.out | apply below_alloc | apply pw_below_drewN | apply below_drew1 | refine below_set ?_ GE250.out | refine below_set ?_ GE255.out) | exact HB.out)⟩⟩
      · rw [if_neg c15] at H
        have c15b0 : (!(t246 == t251) || (!(t247 == t252) || (!(t248 == t253)))) = false := by simpa using c15
        clear c15
        (first | rw [c15b0] | (simp only [i64_w, i32_w]; rw [c15b0]) | skip)
        have H' := Aside0.mk H
        clear H
        have hnb19 := NB250_255.out
        have hnc19 := NB255_250.out
        have hcz20_0 : w12.cell? ⟨gb250, 0, none⟩ = some (.int .i64 t246) := (blk_cell BK250.out 0).trans rfl
        have hcz20_1 : w12.cell? ⟨gb250, 1, none⟩ = some (.int .i64 t247) := (blk_cell BK250.out 1).trans rfl
        have hcz20_2 : w12.cell? ⟨gb250, 2, none⟩ = some (.int .i64 t248) := (blk_cell BK250.out 2).trans rfl
        have hfz20_0 := blk_frozen BK250.out 0
        have hfz20_1 := blk_frozen BK250.out 1
        have hfz20_2 := blk_frozen BK250.out 2
        have hcz21_0 : w12.cell? ⟨gb255, 0, none⟩ = some (.int .i64 0) := (blk_cell BK255.out 0).trans rfl
        have hcz21_1 : w12.cell? ⟨gb255, 1, none⟩ = some (.int .i64 0) := (blk_cell BK255.out 1).trans rfl
        have hcz21_2 : w12.cell? ⟨gb255, 2, none⟩ = some (.int .i64 0) := (blk_cell BK255.out 2).trans rfl
        have hfz21_0 := blk_frozen BK255.out 0
        have hfz21_1 := blk_frozen BK255.out 1
        have hfz21_2 := blk_frozen BK255.out 2
        go_wp2
        go_meet
        case rel => exact ⟨_, ((t249 != t254)), (by first | rfl | (simp; done) | (simp [*]; done)), H', ⟨by first | omega | exact Nat.le_refl _⟩, ⟨by (with_reducible repeat (first | refine blk_drewN ?_ _ | refine blk_drew ?_ | refine blk_alloc ?_ _)); refine blk_far ?_ NB250_255.out _; (with_reducible repeat (first | refine blk_drewN ?_ _ | refine blk_drew ?_ | refine blk_alloc ?_ _)); refine blk_far ?_ NB250_255.out _; (with_reducible repeat (first | refine blk_drewN ?_ _ | refine blk_drew ?_ | refine blk_alloc ?_ _)); refine blk_far ?_ NB250_255.out _; (with_reducible repeat (first | refine blk_drewN ?_ _ | refine blk_drew ?_ | refine blk_alloc ?_ _)); exact BK250.out⟩, ⟨by (with_reducible repeat (first | refine blk_drewN ?_ _ | refine blk_drew ?_ | refine blk_alloc ?_ _)); refine blk_put (cs := #[.int .i64 t251, .int .i64 t252, .int .i64 0]) ?_ 2 _ rfl; (with_reducible repeat (first | refine blk_drewN ?_ _ | refine blk_drew ?_ | refine blk_alloc ?_ _)); refine blk_put (cs := #[.int .i64 t251, .int .i64 0, .int .i64 0]) ?_ 1 _ rfl; (with_reducible repeat (first | refine blk_drewN ?_ _ | refine blk_drew ?_ | refine blk_alloc ?_ _)); refine blk_put (cs := #[.int .i64 0, .int .i64 0, .int .i64 0]) ?_ 0 _ rfl; (with_reducible repeat (first | refine blk_drewN ?_ _ | refine blk_drew ?_ | refine blk_alloc ?_ _)); exact BK255.out⟩, ⟨by repeat (first | (with_reducible first | exact HB.out | apply below_alloc | apply pw_below_drewN | apply below_drew1 | refine below_set ?_ GE250.out | refine below_set ?_ GE255.out) | exact HB.out)⟩⟩
    case rest =>
      clear HC6
      try clear c1
      try clear c2
      try clear c2b0
      try clear c2b1
      try clear p2
      try clear c5
      try clear c12
      try clear c13
      try clear c15
      try clear c15b0
      try clear c16
      try clear c19
      try clear hcz10_0
      try clear hcz10_1
      try clear hcz10_2
      try clear hcz14_0
      try clear hcz14_1
      try clear hcz14_2
      try clear hcz17_0
      try clear hcz17_1
      try clear hcz17_2
      try clear hcz18_0
      try clear hcz18_1
      try clear hcz18_2
      try clear hcz20_0
      try clear hcz20_1
      try clear hcz20_2
      try clear hcz21_0
      try clear hcz21_1
      try clear hcz21_2
      try clear hfz10_0
      try clear hfz10_1
      try clear hfz10_2
      try clear hfz14_0
      try clear hfz14_1
      try clear hfz14_2
      try clear hfz17_0
      try clear hfz17_1
      try clear hfz17_2
      try clear hfz18_0
      try clear hfz18_1
      try clear hfz18_2
      try clear hfz20_0
      try clear hfz20_1
      try clear hfz20_2
      try clear hfz21_0
      try clear hfz21_1
      try clear hfz21_2
      obtain ⟨kq, x32_5, rfl, HA, HJ5, BK250, BK255, HB⟩ := hcut
      cases kq with
      | zero => exact absurd HA.out (by simp [laws_FnReadDeed.j0])
      | succ kj5 =>
        have H := HA.out
        clear HA
        simp only [laws_FnReadDeed.j0] at H
        by_cases c22 : x32_5 = true
        · subst c22
          have H1 : (some false) = some r := by rw [if_pos rfl] at H; exact H
          clear H
          have H := H1
          clear H1
          obtain rfl := Option.some.inj H
          go_wp2
          go_ret
          exact ⟨by first | rfl | (simp [errW_none, errW_some] <;> rfl) | (simp [*, errW_none, errW_some] <;> rfl), by repeat (first | (with_reducible first | exact HB.out | apply below_alloc | apply pw_below_drewN | apply below_drew1 | refine below_set ?_ GE250.out | refine below_set ?_ GE255.out) | exact HB.out)⟩
        · replace c22 := Bool.eq_false_iff.mpr c22
          subst c22
          have H1 : (if t249 = true then (if t245.size + 1 ≤ 9223372036854775807 then ((impl_ReadDeed.f kj5 (t245 ++ (⟨#[32]⟩ : ByteArray))).bind fun bt256 => ((impl_DeedText.f kj5 t246 t247 t248).bind fun t261 => (if t261.toList = t245.toList then (some (!bt256.2.2.2)) else (some false)))) else (none)) else (if (t246 == 0 && (t247 == 0 && (t248 == 0))) = true then ((laws_alive.f).bind fun t262 => (some t262)) else (some false))) = some r := by rw [if_neg (show ¬ (false = true) by decide)] at H; exact H
          clear H
          have H := H1
          clear H1
          by_cases c23 : t249 = true
          · subst c23
            have H1 : (if t245.size + 1 ≤ 9223372036854775807 then ((impl_ReadDeed.f kj5 (t245 ++ (⟨#[32]⟩ : ByteArray))).bind fun bt256 => ((impl_DeedText.f kj5 t246 t247 t248).bind fun t261 => (if t261.toList = t245.toList then (some (!bt256.2.2.2)) else (some false)))) else (none)) = some r := by rw [if_pos rfl] at H; exact H
            clear H
            have H := H1
            clear H1
            by_cases c24 : t245.size + 1 ≤ 9223372036854775807
            · rw [if_pos c24] at H
              have c24b0 := eq_true c24
              have c24b1 : decide (t245.size + 1 ≤ 9223372036854775807) = true := decide_eq_true c24
              try have c24b2 : (9223372036854775807 < t245.size + 1) = False := eq_false (Nat.not_lt.2 c24)
              replace H := Option.bind_eq_some_iff.mp H
              obtain ⟨⟨t256, t257, t258, t259⟩, A250, H⟩ := H
              replace H : ((impl_DeedText.f kj5 t246 t247 t248).bind fun t261 => (if t261.toList = t245.toList then (some (!t259)) else (some false))) = some r := H
              have A25 := Aside0.mk A250
              clear A250
              replace H := Option.bind_eq_some_iff.mp H
              obtain ⟨t261, A260, H⟩ := H
              replace H : (if t261.toList = t245.toList then (some (!t259)) else (some false)) = some r := H
              have A26 := Aside0.mk A260
              clear A260
              by_cases c27 : t261.toList = t245.toList
              · rw [if_pos c27] at H
                have c27b0 : (t261.toList == t245.toList) = true := beq_iff_eq.mpr c27
                have c27b1 : (t261.toList != t245.toList) = false := bne_eq_false_iff_eq.mpr c27
                clear c27
                obtain rfl := Option.some.inj H
                go_wp2_with (first | ((with_reducible refine gate_callee (f := 12) rfl ?_); refine goesL_ (some 44) rfl rfl Tryd.func12 (by kernel_rfl) rfl #[.string (t245 ++ (⟨#[32]⟩ : ByteArray))] rfl (by (try simp only [List.map_toArray, List.map_cons, List.map_nil]); first | done | rfl | (simp only [List.length_drop, List.length_take]; rfl)) ?_; (with_reducible refine (impl_ReadDeed.calls kj5 (t245 ++ (⟨#[32]⟩ : ByteArray)) t256 t257 t258 t259 _ A25.out ?side1).mono ?_); (case side1 => exact GL_below hG_ (by repeat (first | (with_reducible first | exact HB.out | apply below_alloc | apply pw_below_drewN | apply below_drew1 | refine below_set ?_ GE250.out | refine below_set ?_ GE255.out) | exact HB.out))); rintro e w28 ⟨rfl, hb⟩; refine ⟨_, rfl, ?_⟩; have n0_ := Aside0.mk (blk_below (g := gb250) (o := .cells #[.int .i64 t246, .int .i64 t247, .int .i64 t248] 24 (0, 0)) (by (with_reducible repeat (first | refine blk_drewN ?_ _ | refine blk_drew ?_ | refine blk_alloc ?_ _)); exact BK250.out) hb); have n1_ := Aside0.mk (blk_below (g := gb255) (o := .cells #[.int .i64 t251, .int .i64 t252, .int .i64 t253] 24 (0, 0)) (by (with_reducible repeat (first | refine blk_drewN ?_ _ | refine blk_drew ?_ | refine blk_alloc ?_ _)); exact BK255.out) hb); have n2_ := Aside0.mk (below_step (by repeat (first | (with_reducible first | exact HB.out | apply below_alloc | apply pw_below_drewN | apply below_drew1 | refine below_set ?_ GE250.out | refine below_set ?_ GE255.out) | exact HB.out)) hb); clear BK250; clear BK255; clear HB; have BK250 := n0_; have BK255 := n1_; have HB := n2_; clear n0_ n1_ n2_; (try clear hb); (try clear hb2); (try clear hk); (try clear hi)) | ((with_reducible refine gate_dst (N := 8) rfl ?_); refine box_event ?hg (N := 8) ?hd (cs := #[.int .i64 0, .int .i64 0, .int .i64 0]) (t := 24) ?hr ?_; (case hd => rfl); (case hg => rfl); (case hr => first | (go_simp; done) | (go_simp; rfl)); intro gb260 hg w29 hbox hb; have n0_ := Aside0.mk (blk_below (g := gb250) (o := .cells #[.int .i64 t246, .int .i64 t247, .int .i64 t248] 24 (0, 0)) (by (with_reducible repeat (first | refine blk_drewN ?_ _ | refine blk_drew ?_ | refine blk_alloc ?_ _)); exact BK250.out) hb); have n1_ := Aside0.mk (blk_below (g := gb255) (o := .cells #[.int .i64 t251, .int .i64 t252, .int .i64 t253] 24 (0, 0)) (by (with_reducible repeat (first | refine blk_drewN ?_ _ | refine blk_drew ?_ | refine blk_alloc ?_ _)); exact BK255.out) hb); have n2_ := Aside0.mk (below_step (by repeat (first | (with_reducible first | exact HB.out | apply below_alloc | apply pw_below_drewN | apply below_drew1 | refine below_set ?_ GE250.out | refine below_set ?_ GE255.out) | exact HB.out)) hb); have n3_ := Aside0.mk (hbox); have n4_ := Aside0.mk ((by rw [hg]; exact (below_size (by repeat (first | (with_reducible first | exact HB.out | apply below_alloc | apply pw_below_drewN | apply below_drew1 | refine below_set ?_ GE250.out | refine below_set ?_ GE255.out) | exact HB.out))) : w.heap.size ≤ gb260)); have n5_ := Aside0.mk ((by rw [hg]; exact (below_size (by repeat (first | (with_reducible first | exact HB.out | apply below_alloc | apply pw_below_drewN | apply below_drew1 | refine below_set ?_ GE250.out | refine below_set ?_ GE255.out) | exact HB.out))) : w.heap.size ≤ gb260)); have n6_ := Aside0.mk ((by rw [hg]; exact Nat.ne_of_lt (blk_lt (g := gb250) (o := .cells #[.int .i64 t246, .int .i64 t247, .int .i64 t248] 24 (0, 0)) (by (with_reducible repeat (first | refine blk_drewN ?_ _ | refine blk_drew ?_ | refine blk_alloc ?_ _)); exact BK250.out)) : gb250 ≠ gb260)); have n7_ := Aside0.mk ((by rw [hg]; exact Nat.ne_of_gt (blk_lt (g := gb250) (o := .cells #[.int .i64 t246, .int .i64 t247, .int .i64 t248] 24 (0, 0)) (by (with_reducible repeat (first | refine blk_drewN ?_ _ | refine blk_drew ?_ | refine blk_alloc ?_ _)); exact BK250.out)) : gb260 ≠ gb250)); have n8_ := Aside0.mk ((by rw [hg]; exact Nat.ne_of_lt (blk_lt (g := gb255) (o := .cells #[.int .i64 t251, .int .i64 t252, .int .i64 t253] 24 (0, 0)) (by (with_reducible repeat (first | refine blk_drewN ?_ _ | refine blk_drew ?_ | refine blk_alloc ?_ _)); exact BK255.out)) : gb255 ≠ gb260)); have n9_ := Aside0.mk ((by rw [hg]; exact Nat.ne_of_gt (blk_lt (g := gb255) (o := .cells #[.int .i64 t251, .int .i64 t252, .int .i64 t253] 24 (0, 0)) (by (with_reducible repeat (first | refine blk_drewN ?_ _ | refine blk_drew ?_ | refine blk_alloc ?_ _)); exact BK255.out)) : gb260 ≠ gb255)); clear BK250; clear BK255; clear HB; have BK250 := n0_; have BK255 := n1_; have HB := n2_; have BK260 := n3_; have GW260 := n4_; have GE260 := n5_; have NB250_260 := n6_; have NB260_250 := n7_; have NB255_260 := n8_; have NB260_255 := n9_; clear n0_ n1_ n2_ n3_ n4_ n5_ n6_ n7_ n8_ n9_; clear hb hbox hg; have hnb30 := NB260_250.out; have hnc30 := NB250_260.out; have hnb31 := NB260_255.out; have hnc31 := NB255_260.out; have hcz32_0 : w29.cell? ⟨gb260, 0, none⟩ = some (.int .i64 0) := (blk_cell BK260.out 0).trans rfl; have hcz32_1 : w29.cell? ⟨gb260, 1, none⟩ = some (.int .i64 0) := (blk_cell BK260.out 1).trans rfl; have hcz32_2 : w29.cell? ⟨gb260, 2, none⟩ = some (.int .i64 0) := (blk_cell BK260.out 2).trans rfl; have hfz32_0 := blk_frozen BK260.out 0; have hfz32_1 := blk_frozen BK260.out 1; have hfz32_2 := blk_frozen BK260.out 2; have hnb33 := NB250_255.out; have hnc33 := NB255_250.out; have hcz34_0 : w29.cell? ⟨gb250, 0, none⟩ = some (.int .i64 t246) := (blk_cell BK250.out 0).trans rfl; have hcz34_1 : w29.cell? ⟨gb250, 1, none⟩ = some (.int .i64 t247) := (blk_cell BK250.out 1).trans rfl; have hcz34_2 : w29.cell? ⟨gb250, 2, none⟩ = some (.int .i64 t248) := (blk_cell BK250.out 2).trans rfl; have hfz34_0 := blk_frozen BK250.out 0; have hfz34_1 := blk_frozen BK250.out 1; have hfz34_2 := blk_frozen BK250.out 2) | ((with_reducible refine gate_callee (f := 9) rfl ?_); refine goesL_ (some 48) rfl rfl Tryd.func9 (by kernel_rfl) rfl #[.agg #[.int .i64 t246, .int .i64 t247, .int .i64 t248]] rfl (by (try simp only [List.map_toArray, List.map_cons, List.map_nil]); first | done | rfl | (simp only [List.length_drop, List.length_take]; rfl)) ?_; (with_reducible refine (impl_DeedText.calls kj5 t246 t247 t248 t261 _ A26.out ?side1).mono ?_); (case side1 => exact GL_below hG_ (by repeat (first | (with_reducible first | exact HB.out | apply below_alloc | apply pw_below_drewN | apply below_drew1 | refine below_set ?_ GE250.out | refine below_set ?_ GE255.out | refine below_set ?_ GE260.out) | exact HB.out))); rintro e w35 ⟨rfl, hb⟩; refine ⟨_, rfl, ?_⟩; have n0_ := Aside0.mk (blk_below (g := gb250) (o := .cells #[.int .i64 t246, .int .i64 t247, .int .i64 t248] 24 (0, 0)) (by (with_reducible repeat (first | refine blk_drewN ?_ _ | refine blk_drew ?_ | refine blk_alloc ?_ _)); refine blk_far ?_ NB250_260.out _; (with_reducible repeat (first | refine blk_drewN ?_ _ | refine blk_drew ?_ | refine blk_alloc ?_ _)); refine blk_far ?_ NB250_260.out _; (with_reducible repeat (first | refine blk_drewN ?_ _ | refine blk_drew ?_ | refine blk_alloc ?_ _)); refine blk_far ?_ NB250_260.out _; (with_reducible repeat (first | refine blk_drewN ?_ _ | refine blk_drew ?_ | refine blk_alloc ?_ _)); exact BK250.out) hb); have n1_ := Aside0.mk (blk_below (g := gb255) (o := .cells #[.int .i64 t251, .int .i64 t252, .int .i64 t253] 24 (0, 0)) (by (with_reducible repeat (first | refine blk_drewN ?_ _ | refine blk_drew ?_ | refine blk_alloc ?_ _)); refine blk_far ?_ NB255_260.out _; (with_reducible repeat (first | refine blk_drewN ?_ _ | refine blk_drew ?_ | refine blk_alloc ?_ _)); refine blk_far ?_ NB255_260.out _; (with_reducible repeat (first | refine blk_drewN ?_ _ | refine blk_drew ?_ | refine blk_alloc ?_ _)); refine blk_far ?_ NB255_260.out _; (with_reducible repeat (first | refine blk_drewN ?_ _ | refine blk_drew ?_ | refine blk_alloc ?_ _)); exact BK255.out) hb); have n2_ := Aside0.mk (blk_below (g := gb260) (o := .cells #[.int .i64 t256, .int .i64 t257, .int .i64 t258] 24 (0, 0)) (by (with_reducible repeat (first | refine blk_drewN ?_ _ | refine blk_drew ?_ | refine blk_alloc ?_ _)); refine blk_put (cs := #[.int .i64 t256, .int .i64 t257, .int .i64 0]) ?_ 2 _ rfl; (with_reducible repeat (first | refine blk_drewN ?_ _ | refine blk_drew ?_ | refine blk_alloc ?_ _)); refine blk_put (cs := #[.int .i64 t256, .int .i64 0, .int .i64 0]) ?_ 1 _ rfl; (with_reducible repeat (first | refine blk_drewN ?_ _ | refine blk_drew ?_ | refine blk_alloc ?_ _)); refine blk_put (cs := #[.int .i64 0, .int .i64 0, .int .i64 0]) ?_ 0 _ rfl; (with_reducible repeat (first | refine blk_drewN ?_ _ | refine blk_drew ?_ | refine blk_alloc ?_ _)); exact BK260.out) hb); have n3_ := Aside0.mk (below_step (by repeat (first | (with_reducible first | exact HB.out | apply below_alloc | apply pw_below_drewN | apply below_drew1 | refine below_set ?_ GE250.out | refine below_set ?_ GE255.out | refine below_set ?_ GE260.out) | exact HB.out)) hb); clear BK250; clear BK255; clear BK260; clear HB; have BK250 := n0_; have BK255 := n1_; have BK260 := n2_; have HB := n3_; clear n0_ n1_ n2_ n3_; (try clear hb); (try clear hb2); (try clear hk); (try clear hi)))
                go_ret
                exact ⟨by first | rfl | (simp [errW_none, errW_some] <;> rfl) | (simp [*, errW_none, errW_some] <;> rfl), by repeat (first | (with_reducible first | exact HB.out | apply below_alloc | apply pw_below_drewN | apply below_drew1 | refine below_set ?_ GE250.out | refine below_set ?_ GE255.out | refine below_set ?_ GE260.out) | exact HB.out)⟩
              · rw [if_neg c27] at H
                have c27b0 : (t261.toList == t245.toList) = false := beq_eq_false_iff_ne.mpr c27
                have c27b1 : (t261.toList != t245.toList) = true := bne_iff_ne.mpr c27
                obtain rfl := Option.some.inj H
                go_wp2_with (first | ((with_reducible refine gate_callee (f := 12) rfl ?_); refine goesL_ (some 44) rfl rfl Tryd.func12 (by kernel_rfl) rfl #[.string (t245 ++ (⟨#[32]⟩ : ByteArray))] rfl (by (try simp only [List.map_toArray, List.map_cons, List.map_nil]); first | done | rfl | (simp only [List.length_drop, List.length_take]; rfl)) ?_; (with_reducible refine (impl_ReadDeed.calls kj5 (t245 ++ (⟨#[32]⟩ : ByteArray)) t256 t257 t258 t259 _ A25.out ?side1).mono ?_); (case side1 => exact GL_below hG_ (by repeat (first | (with_reducible first | exact HB.out | apply below_alloc | apply pw_below_drewN | apply below_drew1 | refine below_set ?_ GE250.out | refine below_set ?_ GE255.out) | exact HB.out))); rintro e w36 ⟨rfl, hb⟩; refine ⟨_, rfl, ?_⟩; have n0_ := Aside0.mk (blk_below (g := gb250) (o := .cells #[.int .i64 t246, .int .i64 t247, .int .i64 t248] 24 (0, 0)) (by (with_reducible repeat (first | refine blk_drewN ?_ _ | refine blk_drew ?_ | refine blk_alloc ?_ _)); exact BK250.out) hb); have n1_ := Aside0.mk (blk_below (g := gb255) (o := .cells #[.int .i64 t251, .int .i64 t252, .int .i64 t253] 24 (0, 0)) (by (with_reducible repeat (first | refine blk_drewN ?_ _ | refine blk_drew ?_ | refine blk_alloc ?_ _)); exact BK255.out) hb); have n2_ := Aside0.mk (below_step (by repeat (first | (with_reducible first | exact HB.out | apply below_alloc | apply pw_below_drewN | apply below_drew1 | refine below_set ?_ GE250.out | refine below_set ?_ GE255.out) | exact HB.out)) hb); clear BK250; clear BK255; clear HB; have BK250 := n0_; have BK255 := n1_; have HB := n2_; clear n0_ n1_ n2_; (try clear hb); (try clear hb2); (try clear hk); (try clear hi)) | ((with_reducible refine gate_dst (N := 8) rfl ?_); refine box_event ?hg (N := 8) ?hd (cs := #[.int .i64 0, .int .i64 0, .int .i64 0]) (t := 24) ?hr ?_; (case hd => rfl); (case hg => rfl); (case hr => first | (go_simp; done) | (go_simp; rfl)); intro gb260 hg w37 hbox hb; have n0_ := Aside0.mk (blk_below (g := gb250) (o := .cells #[.int .i64 t246, .int .i64 t247, .int .i64 t248] 24 (0, 0)) (by (with_reducible repeat (first | refine blk_drewN ?_ _ | refine blk_drew ?_ | refine blk_alloc ?_ _)); exact BK250.out) hb); have n1_ := Aside0.mk (blk_below (g := gb255) (o := .cells #[.int .i64 t251, .int .i64 t252, .int .i64 t253] 24 (0, 0)) (by (with_reducible repeat (first | refine blk_drewN ?_ _ | refine blk_drew ?_ | refine blk_alloc ?_ _)); exact BK255.out) hb); have n2_ := Aside0.mk (below_step (by repeat (first | (with_reducible first | exact HB.out | apply below_alloc | apply pw_below_drewN | apply below_drew1 | refine below_set ?_ GE250.out | refine below_set ?_ GE255.out) | exact HB.out)) hb); have n3_ := Aside0.mk (hbox); have n4_ := Aside0.mk ((by rw [hg]; exact (below_size (by repeat (first | (with_reducible first | exact HB.out | apply below_alloc | apply pw_below_drewN | apply below_drew1 | refine below_set ?_ GE250.out | refine below_set ?_ GE255.out) | exact HB.out))) : w.heap.size ≤ gb260)); have n5_ := Aside0.mk ((by rw [hg]; exact (below_size (by repeat (first | (with_reducible first | exact HB.out | apply below_alloc | apply pw_below_drewN | apply below_drew1 | refine below_set ?_ GE250.out | refine below_set ?_ GE255.out) | exact HB.out))) : w.heap.size ≤ gb260)); have n6_ := Aside0.mk ((by rw [hg]; exact Nat.ne_of_lt (blk_lt (g := gb250) (o := .cells #[.int .i64 t246, .int .i64 t247, .int .i64 t248] 24 (0, 0)) (by (with_reducible repeat (first | refine blk_drewN ?_ _ | refine blk_drew ?_ | refine blk_alloc ?_ _)); exact BK250.out)) : gb250 ≠ gb260)); have n7_ := Aside0.mk ((by rw [hg]; exact Nat.ne_of_gt (blk_lt (g := gb250) (o := .cells #[.int .i64 t246, .int .i64 t247, .int .i64 t248] 24 (0, 0)) (by (with_reducible repeat (first | refine blk_drewN ?_ _ | refine blk_drew ?_ | refine blk_alloc ?_ _)); exact BK250.out)) : gb260 ≠ gb250)); have n8_ := Aside0.mk ((by rw [hg]; exact Nat.ne_of_lt (blk_lt (g := gb255) (o := .cells #[.int .i64 t251, .int .i64 t252, .int .i64 t253] 24 (0, 0)) (by (with_reducible repeat (first | refine blk_drewN ?_ _ | refine blk_drew ?_ | refine blk_alloc ?_ _)); exact BK255.out)) : gb255 ≠ gb260)); have n9_ := Aside0.mk ((by rw [hg]; exact Nat.ne_of_gt (blk_lt (g := gb255) (o := .cells #[.int .i64 t251, .int .i64 t252, .int .i64 t253] 24 (0, 0)) (by (with_reducible repeat (first | refine blk_drewN ?_ _ | refine blk_drew ?_ | refine blk_alloc ?_ _)); exact BK255.out)) : gb260 ≠ gb255)); clear BK250; clear BK255; clear HB; have BK250 := n0_; have BK255 := n1_; have HB := n2_; have BK260 := n3_; have GW260 := n4_; have GE260 := n5_; have NB250_260 := n6_; have NB260_250 := n7_; have NB255_260 := n8_; have NB260_255 := n9_; clear n0_ n1_ n2_ n3_ n4_ n5_ n6_ n7_ n8_ n9_; clear hb hbox hg; have hnb38 := NB260_250.out; have hnc38 := NB250_260.out; have hnb39 := NB260_255.out; have hnc39 := NB255_260.out; have hcz40_0 : w37.cell? ⟨gb260, 0, none⟩ = some (.int .i64 0) := (blk_cell BK260.out 0).trans rfl; have hcz40_1 : w37.cell? ⟨gb260, 1, none⟩ = some (.int .i64 0) := (blk_cell BK260.out 1).trans rfl; have hcz40_2 : w37.cell? ⟨gb260, 2, none⟩ = some (.int .i64 0) := (blk_cell BK260.out 2).trans rfl; have hfz40_0 := blk_frozen BK260.out 0; have hfz40_1 := blk_frozen BK260.out 1; have hfz40_2 := blk_frozen BK260.out 2; have hnb41 := NB250_255.out; have hnc41 := NB255_250.out; have hcz42_0 : w37.cell? ⟨gb250, 0, none⟩ = some (.int .i64 t246) := (blk_cell BK250.out 0).trans rfl; have hcz42_1 : w37.cell? ⟨gb250, 1, none⟩ = some (.int .i64 t247) := (blk_cell BK250.out 1).trans rfl; have hcz42_2 : w37.cell? ⟨gb250, 2, none⟩ = some (.int .i64 t248) := (blk_cell BK250.out 2).trans rfl; have hfz42_0 := blk_frozen BK250.out 0; have hfz42_1 := blk_frozen BK250.out 1; have hfz42_2 := blk_frozen BK250.out 2) | ((with_reducible refine gate_callee (f := 9) rfl ?_); refine goesL_ (some 48) rfl rfl Tryd.func9 (by kernel_rfl) rfl #[.agg #[.int .i64 t246, .int .i64 t247, .int .i64 t248]] rfl (by (try simp only [List.map_toArray, List.map_cons, List.map_nil]); first | done | rfl | (simp only [List.length_drop, List.length_take]; rfl)) ?_; (with_reducible refine (impl_DeedText.calls kj5 t246 t247 t248 t261 _ A26.out ?side1).mono ?_); (case side1 => exact GL_below hG_ (by repeat (first | (with_reducible first | exact HB.out | apply below_alloc | apply pw_below_drewN | apply below_drew1 | refine below_set ?_ GE250.out | refine below_set ?_ GE255.out | refine below_set ?_ GE260.out) | exact HB.out))); rintro e w43 ⟨rfl, hb⟩; refine ⟨_, rfl, ?_⟩; have n0_ := Aside0.mk (blk_below (g := gb250) (o := .cells #[.int .i64 t246, .int .i64 t247, .int .i64 t248] 24 (0, 0)) (by (with_reducible repeat (first | refine blk_drewN ?_ _ | refine blk_drew ?_ | refine blk_alloc ?_ _)); refine blk_far ?_ NB250_260.out _; (with_reducible repeat (first | refine blk_drewN ?_ _ | refine blk_drew ?_ | refine blk_alloc ?_ _)); refine blk_far ?_ NB250_260.out _; (with_reducible repeat (first | refine blk_drewN ?_ _ | refine blk_drew ?_ | refine blk_alloc ?_ _)); refine blk_far ?_ NB250_260.out _; (with_reducible repeat (first | refine blk_drewN ?_ _ | refine blk_drew ?_ | refine blk_alloc ?_ _)); exact BK250.out) hb); have n1_ := Aside0.mk (blk_below (g := gb255) (o := .cells #[.int .i64 t251, .int .i64 t252, .int .i64 t253] 24 (0, 0)) (by (with_reducible repeat (first | refine blk_drewN ?_ _ | refine blk_drew ?_ | refine blk_alloc ?_ _)); refine blk_far ?_ NB255_260.out _; (with_reducible repeat (first | refine blk_drewN ?_ _ | refine blk_drew ?_ | refine blk_alloc ?_ _)); refine blk_far ?_ NB255_260.out _; (with_reducible repeat (first | refine blk_drewN ?_ _ | refine blk_drew ?_ | refine blk_alloc ?_ _)); refine blk_far ?_ NB255_260.out _; (with_reducible repeat (first | refine blk_drewN ?_ _ | refine blk_drew ?_ | refine blk_alloc ?_ _)); exact BK255.out) hb); have n2_ := Aside0.mk (blk_below (g := gb260) (o := .cells #[.int .i64 t256, .int .i64 t257, .int .i64 t258] 24 (0, 0)) (by (with_reducible repeat (first | refine blk_drewN ?_ _ | refine blk_drew ?_ | refine blk_alloc ?_ _)); refine blk_put (cs := #[.int .i64 t256, .int .i64 t257, .int .i64 0]) ?_ 2 _ rfl; (with_reducible repeat (first | refine blk_drewN ?_ _ | refine blk_drew ?_ | refine blk_alloc ?_ _)); refine blk_put (cs := #[.int .i64 t256, .int .i64 0, .int .i64 0]) ?_ 1 _ rfl; (with_reducible repeat (first | refine blk_drewN ?_ _ | refine blk_drew ?_ | refine blk_alloc ?_ _)); refine blk_put (cs := #[.int .i64 0, .int .i64 0, .int .i64 0]) ?_ 0 _ rfl; (with_reducible repeat (first | refine blk_drewN ?_ _ | refine blk_drew ?_ | refine blk_alloc ?_ _)); exact BK260.out) hb); have n3_ := Aside0.mk (below_step (by repeat (first | (with_reducible first | exact HB.out | apply below_alloc | apply pw_below_drewN | apply below_drew1 | refine below_set ?_ GE250.out | refine below_set ?_ GE255.out | refine below_set ?_ GE260.out) | exact HB.out)) hb); clear BK250; clear BK255; clear BK260; clear HB; have BK250 := n0_; have BK255 := n1_; have BK260 := n2_; have HB := n3_; clear n0_ n1_ n2_ n3_; (try clear hb); (try clear hb2); (try clear hk); (try clear hi)))
                go_ret
                exact ⟨by first | rfl | (simp [errW_none, errW_some] <;> rfl) | (simp [*, errW_none, errW_some] <;> rfl), by repeat (first | (with_reducible first | exact HB.out | apply below_alloc | apply pw_below_drewN | apply below_drew1 | refine below_set ?_ GE250.out | refine below_set ?_ GE255.out | refine below_set ?_ GE260.out) | exact HB.out)⟩
            · rw [if_neg c24] at H
              exact absurd H (by simp)
          · replace c23 := Bool.eq_false_iff.mpr c23
            subst c23
            have H1 : (if (t246 == 0 && (t247 == 0 && (t248 == 0))) = true then ((laws_alive.f).bind fun t262 => (some t262)) else (some false)) = some r := by rw [if_neg (show ¬ (false = true) by decide)] at H; exact H
            clear H
            have H := H1
            clear H1
            by_cases c44 : (t246 == 0 && (t247 == 0 && (t248 == 0))) = true
            · rw [if_pos c44] at H
              have c44b0 : (t246 == 0 && (t247 == 0 && (t248 == 0))) = true := c44
              (try (have c44b1 : decide (t246 = 0 && (t247 == 0 && (t248 == 0))) = true := by simpa using c44))
              (try (have c44b2 : (t246 == 0 && (t247 == 0 && (t248 == 0))) = true := by simpa using c44))
              clear c44
              replace H := Option.bind_eq_some_iff.mp H
              obtain ⟨t262, A450, H⟩ := H
              replace H : (some t262) = some r := H
              have A45 := Aside0.mk A450
              clear A450
              obtain rfl := Option.some.inj H
              have hnb46 := NB250_255.out
              have hnc46 := NB255_250.out
              have hcz47_0 : wc.cell? ⟨gb250, 0, none⟩ = some (.int .i64 t246) := (blk_cell BK250.out 0).trans rfl
              have hcz47_1 : wc.cell? ⟨gb250, 1, none⟩ = some (.int .i64 t247) := (blk_cell BK250.out 1).trans rfl
              have hcz47_2 : wc.cell? ⟨gb250, 2, none⟩ = some (.int .i64 t248) := (blk_cell BK250.out 2).trans rfl
              have hfz47_0 := blk_frozen BK250.out 0
              have hfz47_1 := blk_frozen BK250.out 1
              have hfz47_2 := blk_frozen BK250.out 2
              go_wp2_with (first | (go_at_call 11; (with_reducible refine (laws_alive.calls  t262 _ A45.out).mono ?_); rintro e w' ⟨rfl, ⟨nd, rfl⟩⟩))
              go_ret
              exact ⟨by first | rfl | (simp [errW_none, errW_some] <;> rfl) | (simp [*, errW_none, errW_some] <;> rfl), by repeat (first | (with_reducible first | exact HB.out | apply below_alloc | apply pw_below_drewN | apply below_drew1 | refine below_set ?_ GE250.out | refine below_set ?_ GE255.out) | exact HB.out)⟩
            · rw [if_neg c44] at H
              have c44b0 : (t246 == 0 && (t247 == 0 && (t248 == 0))) = false := by simpa using c44
              (try (have c44b1 : decide (t246 = 0 && (t247 == 0 && (t248 == 0))) = false := by simpa using c44))
              (try (have c44b2 : (t246 == 0 && (t247 == 0 && (t248 == 0))) = false := by simpa using c44))
              (try (have c44b3 : ¬ (t246 = 0 && (t247 == 0 && (t248 == 0))) := by simpa using c44))
              clear c44
              obtain rfl := Option.some.inj H
              have hnb48 := NB250_255.out
              have hnc48 := NB255_250.out
              have hcz49_0 : wc.cell? ⟨gb250, 0, none⟩ = some (.int .i64 t246) := (blk_cell BK250.out 0).trans rfl
              have hcz49_1 : wc.cell? ⟨gb250, 1, none⟩ = some (.int .i64 t247) := (blk_cell BK250.out 1).trans rfl
              have hcz49_2 : wc.cell? ⟨gb250, 2, none⟩ = some (.int .i64 t248) := (blk_cell BK250.out 2).trans rfl
              have hfz49_0 := blk_frozen BK250.out 0
              have hfz49_1 := blk_frozen BK250.out 1
              have hfz49_2 := blk_frozen BK250.out 2
              go_wp2
              go_ret
              exact ⟨by first | rfl | (simp [errW_none, errW_some] <;> rfl) | (simp [*, errW_none, errW_some] <;> rfl), by repeat (first | (with_reducible first | exact HB.out | apply below_alloc | apply pw_below_drewN | apply below_drew1 | refine below_set ?_ GE250.out | refine below_set ?_ GE255.out) | exact HB.out)⟩

/-- THE ONE PURE STATEMENT of laws_FnReadDeed: yours. -/
def laws_FnReadDeed.Pure : Prop := ∀ (l0 : List Int), l0.length ≤ maxLen → l0.length * 1 ≤ 140737488351232 → (∀ x ∈ l0, (Lit.int .u8 x).wf = true) → ∃ k, laws_FnReadDeed.f k l0 = some true
theorem laws_FnReadDeed.walk (P : laws_FnReadDeed.Pure) (a0 : Option Addr) (len0 cap0 : Nat) (z0 : List Int) (w : World) (w0 : (a0 = none ∧ len0 = 0 ∧ cap0 = 0 ∧ z0 = []) ∨ ∃ x, a0 = some x ∧ len0 ≤ cap0 ∧ cap0 ≤ maxLen ∧ z0.length = cap0 ∧ (∀ i, i < z0.length → w.cell? (x.add i) = some (.int .u8 (z0.getD i 0))) ∧ ∀ n ∈ z0, (Lit.int .u8 n).wf = true) (y0 : len0 * 1 ≤ 140737488351232) (hG_ : GL w) :
    Calls Tryd.prog 5 #[.slice a0 len0 cap0] w fun e w' => e = .returned (.bool true) ∧ Below w.heap.size w w' := by
  obtain ⟨l0, rfl, hr0, hm0, hw0, hc0⟩ := ReadsInt.ofRowC w0
  obtain ⟨k, h⟩ := P l0 hm0 y0 hw0
  refine (laws_FnReadDeed.calls k _ _ l0 true w (Kd.C_of_reads (d := (0 : Int)) (h1 := fun _ => rfl) hr0) hc0 h hG_).mono ?_
  rintro e w' ⟨rfl, hd⟩
  exact ⟨rfl, hd⟩

end Go.Proofs.YtmgjidgfhlclmaaDoor.PFnReadDeed
