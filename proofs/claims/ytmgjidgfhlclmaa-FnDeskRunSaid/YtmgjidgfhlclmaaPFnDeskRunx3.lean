-- Written for this claim by a program of this session (wip/myprint.sh), after the kit's print; some functions by hand
import Derived.Test.YtmgjidgfhlclmaaPFnDeskRunx0
import Derived.Test.YtmgjidgfhlclmaaWPress
namespace Go.Proofs.Ytmgjidgfhlclmaa.PFnDeskRun
open Go.RowKit Go.Proofs.YtmgjidgfhlclmaaW.PrintWords Go.Proofs.YtmgjidgfhlclmaaW.PrintLast Go.Proofs.YtmgjidgfhlclmaaW.PrintMore
attribute [local go_sem] max2_int min2_int max_two min_two max_three min_three max_four min_four   -- for this text's walks alone
set_option linter.unusedVariables false
set_option linter.unusedSimpArgs false

/-- A state of type 81 at block g of W; what its slices lead to came in by w0. -/
def IsS81 (w0 W : World) (g : Nat) (f0 : List Int) (f1 : Int) : Prop := ∃ A0 c0, W.heap[g]? = some (.cells #[.slice A0 f0.length c0, .int .i64 f1] 81 (0, 0)) ∧ w0.heap.size ≤ g ∧ Kd.C (Kd.int .u8) w0 A0 f0.length f0
theorem IsS81.grown {w0 W : World} {g : Nat} {f0 : List Int} {f1 : Int} {W1 : World} {row : Option Nat} (h : IsS81 w0 W g f0 f1) (hw : W.grownBy W1 row) (hne : some g ≠ row) : IsS81 w0 W1 g f0 f1 := by
 obtain ⟨A0, c0, hb, hg, hr0⟩ := h; exact ⟨A0, c0, blk_grown hb hw hne, hg, hr0⟩
theorem IsS81.own_neN {w0 W : World} {g : Nat} {f0 : List Int} {f1 : Int} {α : Type} {d : Kd α} {e : Nat} {base : Nat} {ok : Nat → Prop} {v : Value} {xs : List α} (h : IsS81 w0 W g f0 f1) (ho : Kd.N d e W base ok v xs) (ht : e ≠ 81) : some g ≠ v.ownBlock := by
 obtain ⟨A0, c0, hb, hg, hr0⟩ := h; exact Kd.N_ne ho hb ht
theorem IsS81.fresh {w0 W : World} {g : Nat} {f0 : List Int} {f1 : Int} (h : IsS81 w0 W g f0 f1) : ∀ k, W.heap.size ≤ k → k ≠ g := by
 obtain ⟨A0, c0, hb, hg, hr0⟩ := h; exact Kd.freshB hb
theorem IsS81.kept {w0 W : World} {g : Nat} {f0 : List Int} {f1 : Int} {W1 : World} {S : Nat → Prop} (h : IsS81 w0 W g f0 f1) (hk : Kept W W1 S) (hne : ¬ S g) : IsS81 w0 W1 g f0 f1 := by
 obtain ⟨A0, c0, hb, hg, hr0⟩ := h; exact ⟨A0, c0, blk_kept hb hk hne, hg, hr0⟩
theorem IsS81.below {w0 W : World} {g : Nat} {f0 : List Int} {f1 : Int} {W1 : World} (h : IsS81 w0 W g f0 f1) (hw : Below W.heap.size W W1) : IsS81 w0 W1 g f0 f1 := h.grown (grown_of_below hw none) (by simp)
theorem IsS81.alloc {w0 W : World} {g : Nat} {f0 : List Int} {f1 : Int} (h : IsS81 w0 W g f0 f1) (o : Obj) : IsS81 w0 (W.alloc o) g f0 f1 := h.below (below_alloc (Below.refl _ _) o)
theorem IsS81.drewN {w0 W : World} {g : Nat} {f0 : List Int} {f1 : Int} (h : IsS81 w0 W g f0 f1) (m : Nat) : IsS81 w0 (W.drewN m) g f0 f1 := h
theorem IsS81.drew {w0 W : World} {g : Nat} {f0 : List Int} {f1 : Int} (h : IsS81 w0 W g f0 f1) : IsS81 w0 W.drew g f0 f1 := h
theorem IsS81.at_ {w0 W : World} {g : Nat} {f0 : List Int} {f1 : Int} {w' : World} {m : Nat} (hq : W.drewN m = w') (h : IsS81 w0 W g f0 f1) : IsS81 w0 w' g f0 f1 := by subst hq; exact IsS81.drewN h m
theorem IsS81.apart {w0 W : World} {g : Nat} {f0 : List Int} {f1 : Int} {α : Type} {d : Kd α} {e : Nat} {base : Nat} {ok : Nat → Prop} {v : Value} {xs : List α} (h : IsS81 w0 W g f0 f1) (ho : d.R e W base ok v xs) (ht : ∀ q, q ∈ e :: d.E → q ≠ 81) : d.R e W base (fun k => ok k ∧ k ≠ g) v xs := by
 obtain ⟨A0, c0, hb, hg, hr0⟩ := h; exact Kd.R_types ho hb ht
theorem IsS81.own_ne {w0 W : World} {g : Nat} {f0 : List Int} {f1 : Int} {α : Type} {d : Kd α} {e : Nat} {base : Nat} {ok : Nat → Prop} {v : Value} {xs : List α} (h : IsS81 w0 W g f0 f1) (ho : d.R e W base ok v xs) (ht : e ≠ 81) : some g ≠ v.ownBlock := by
 obtain ⟨A0, c0, hb, hg, hr0⟩ := h; exact Kd.R_ne ho hb ht
theorem IsS81.apartQ {w0 W : World} {g : Nat} {f0 : List Int} {f1 : Int} {α : Type} {d : Kd α} {e : Nat} {base : Nat} {ok : Nat → Prop} {v : Value} {xs : List α} (h : IsS81 w0 W g f0 f1) (ho : d.Q e W base ok v xs) (ht : ∀ q, q ∈ e :: d.E → q ≠ 81) : d.Q e W base (fun k => ok k ∧ k ≠ g) v xs := by
 obtain ⟨A0, c0, hb, hg, hr0⟩ := h; exact Kd.Q_types ho hb ht
theorem IsS81.own_neQ {w0 W : World} {g : Nat} {f0 : List Int} {f1 : Int} {α : Type} {d : Kd α} {e : Nat} {base : Nat} {ok : Nat → Prop} {v : Value} {xs : List α} (h : IsS81 w0 W g f0 f1) (ho : d.Q e W base ok v xs) (ht : e ≠ 81) : some g ≠ v.ownBlock := by
 obtain ⟨A0, c0, hb, hg, hr0⟩ := h; exact Kd.Q_ne ho hb ht
theorem IsS81.apartS {w0 W : World} {g : Nat} {f0 : List Int} {f1 : Int} {α : Type} {d : Kd α} {e : Nat} {base : Nat} {ok : Nat → Prop} {v : Value} {xs : List α} (h : IsS81 w0 W g f0 f1) (ho : d.S e W base ok v xs) (ht : ∀ q, q ∈ e :: d.E → q ≠ 81) : d.S e W base (fun k => ok k ∧ k ≠ g) v xs := by
 obtain ⟨A0, c0, hb, hg, hr0⟩ := h; exact Kd.S_types ho hb ht
theorem IsS81.own_neS {w0 W : World} {g : Nat} {f0 : List Int} {f1 : Int} {α : Type} {d : Kd α} {e : Nat} {base : Nat} {ok : Nat → Prop} {v : Value} {xs : List α} (h : IsS81 w0 W g f0 f1) (ho : d.S e W base ok v xs) (ht : e ≠ 81) : some g ≠ v.ownBlock := by
 obtain ⟨A0, c0, hb, hg, hr0⟩ := h; exact Kd.S_ne ho hb ht
theorem IsS81.lt {w0 W : World} {g : Nat} {f0 : List Int} {f1 : Int} (h : IsS81 w0 W g f0 f1) : g < W.heap.size := by
 obtain ⟨A0, c0, hb, hg, hr0⟩ := h; exact blk_lt hb
theorem IsS81.ge {w0 W : World} {g : Nat} {f0 : List Int} {f1 : Int} (h : IsS81 w0 W g f0 f1) : w0.heap.size ≤ g := by
 obtain ⟨A0, c0, hb, hg, hr0⟩ := h; exact hg
theorem IsS81.ne_blk {w0 W : World} {g : Nat} {f0 : List Int} {f1 : Int} {a : Nat} {cs : Array Value} {t : TypeId} {fr : Nat × Nat} (h : IsS81 w0 W g f0 f1) (hb2 : W.heap[a]? = some (.cells cs t fr)) (ht : t ≠ 81) : g ≠ a := by
 obtain ⟨A0, c0, hb, hg, hr0⟩ := h; rintro rfl; rw [hb] at hb2; (injection hb2 with hb2); (injection hb2 with _ ht2); exact ht ht2.symm
theorem IsS81.far {w0 W : World} {g : Nat} {f0 : List Int} {f1 : Int} {p : Addr} (h : IsS81 w0 W g f0 f1) (hne : g ≠ p.block) (u : Value) : IsS81 w0 (W.setCell p u) g f0 f1 := by
 obtain ⟨A0, c0, hb, hg, hr0⟩ := h; exact ⟨A0, c0, blk_far hb hne u, hg, hr0⟩
theorem cellS81_0 {W : World} {g : Nat} {A0 : Option Addr} {c0 : Nat} {f0 : List Int} {f1 : Int} (h : W.heap[g]? = some (.cells #[.slice A0 f0.length c0, .int .i64 f1] 81 (0, 0))) : W.cell? ⟨g, 0, none⟩ = some (.slice A0 f0.length c0) := (blk_cell h 0).trans rfl
theorem cellS81_1 {W : World} {g : Nat} {A0 : Option Addr} {c0 : Nat} {f0 : List Int} {f1 : Int} (h : W.heap[g]? = some (.cells #[.slice A0 f0.length c0, .int .i64 f1] 81 (0, 0))) : W.cell? ⟨g, 1, none⟩ = some (.int .i64 f1) := (blk_cell h 1).trans rfl
theorem IsS81.set_1 {w0 W : World} {g : Nat} {f0 : List Int} {f1 : Int} (h : IsS81 w0 W g f0 f1) (x : Int) : IsS81 w0 (W.setCell ⟨g, 1, none⟩ (.int .i64 x)) g f0 x := by
 obtain ⟨A0, c0, hb, hg, hr0⟩ := h; exact ⟨A0, c0, by simpa using blk_set hb 1 (.int .i64 x), hg, hr0⟩
theorem IsS81.new (w0 W : World) (A0 : Option Addr) (c0 : Nat) (f0 : List Int) (f1 : Int) (hB : Below w0.heap.size w0 W) (hr0 : Kd.C (Kd.int .u8) w0 A0 f0.length f0) : IsS81 w0 (W.alloc (.cells #[.slice A0 f0.length c0, .int .i64 f1] 81)) W.heap.size f0 f1 := ⟨A0, c0, by simpa using heap_alloc_new W _, hB.size, hr0⟩

/-! ### spec_l20Open: function 31 -/
def spec_l20Open.f (l0 : List Int) : Option (List Int × Int) := if (l0.length : Int) > 2000 then (if 2000 ≤ (l0.length : Int) then (some (l0.take 2000, 0)) else (none)) else (some (l0, 0))
set_option maxHeartbeats 8000000 in
set_option maxRecDepth 100000 in
theorem spec_l20Open.calls (A0 : Option Addr) (c0 : Nat) (l0 : List Int) (r1 : List Int) (r2 : Int) (w0 w : World) (hB : Below w0.heap.size w0 w) (hr0 : Kd.C (Kd.int .u8) w0 A0 l0.length l0) (hc0 : l0.length ≤ c0) (h : spec_l20Open.f l0 = some (r1, r2)) :
  Calls Try.prog 31 #[.slice A0 l0.length c0] w fun e w' => ∃ g_ : Nat, e = .returned (.pointer (some ⟨g_, 0, none⟩)) ∧ IsS81 w0 w' g_ r1 r2 ∧ Below w0.heap.size w0 w' ∧ Below w.heap.size w w' := by
 have hu81 := Try.underlying81; have HR0 := qa hr0; have HC0 := qa hc0; clear hr0 hc0; have HBW := qa (Below.refl w.heap.size w); have HW0 := qa hB.size; have HB := qa hB; clear hB; have H : (if (l0.length : Int) > 2000 then (if 2000 ≤ (l0.length : Int) then (some (l0.take 2000, 0)) else (none)) else (some (l0, 0))) = some (r1, r2) := h; clear h
 by_cases c2 : (l0.length : Int) > 2000
 ·rw [if_pos c2] at H; have c2b0 : decide (2000 < (l0.length : Int)) = true := decide_eq_true c2; have c2b1 : decide (2000 < l0.length) = true := decide_eq_true (by omega); clear c2; replace H := qn H; obtain ⟨c3, H⟩ := H; have c3b0 := eq_true c3; have c3b1 : decide (2000 ≤ (l0.length : Int)) = true := decide_eq_true c3; clear c3; simp only [Option.some.injEq, Prod.mk.injEq] at H; obtain ⟨rfl, rfl⟩ := H; obtain ⟨i04, hi04, _, hsz4, _⟩ := info_parts info5; obtain ⟨hcut4, hA4, hC4⟩ := print_take_of (P := Try.prog) (Value.int .u8) 0 22 5 .i64 Try.underlying22 hi04 hsz4 A0 c0 l0 2000 (by omega) (qo) HC0.out; have HR120 := qa (Kd.C_of_reads (h1 := fun _ => rfl) (hA4 _ (Kd.reads_of_C HR0.out))); have HC120 := qa hC4; clear hA4 hC4 hi04 hsz4
  go_enter Try.func31, Try.ntmps31
  go_wp2_with (first | ((with_reducible refine gate_dst (N := 10) rfl ?_); refine box_event ?hg (N := 10) ?hd (cs := #[.slice A0 (l0.take 2000).length c0, .int .i64 0]) (t := 81) ?hr ?_; (case hd => rfl); (case hg => rfl); (case hr => exact gr); intro gb121 hg w5 hbox hb; replace HB := qa (below_step (bl) hb); have BK121 := qa (hbox); have GW121 := qa ((by rw [hg]; exact (below_size z69_) : w.heap.size ≤ gb121)); have GE121 := qa ((Nat.le_trans HW0.out (by rw [hg]; exact (below_size z69_) : w.heap.size ≤ gb121) : w0.heap.size ≤ gb121)); replace HBW := qa (below_step HBW.out hb); clear hb hbox hg))
  go_ret; exact ⟨_, rfl, (show IsS81 w0 _ gb121 (l0.take 2000) 0 from ⟨_, _, bk, GE121.out, HR120.out⟩), bl, by repeat (first | (with_reducible first | exact HBW.out | apply below_alloc | apply pw_below_drewN | apply below_drew1 | refine below_set ?_ GW121.out) | exact HBW.out)⟩
 ·rw [if_neg c2] at H; have c2b0 : decide (2000 < (l0.length : Int)) = false := decide_eq_false c2; have c2b1 : decide (2000 < l0.length) = false := decide_eq_false (by omega); clear c2; simp only [Option.some.injEq, Prod.mk.injEq] at H; obtain ⟨rfl, rfl⟩ := H
  go_enter Try.func31, Try.ntmps31
  go_wp2_with (first | ((with_reducible refine gate_dst (N := 10) rfl ?_); refine box_event ?hg (N := 10) ?hd (cs := #[.slice A0 l0.length c0, .int .i64 0]) (t := 81) ?hr ?_; (case hd => rfl); (case hg => rfl); (case hr => exact gr); intro gb122 hg w6 hbox hb; replace HB := qa (below_step (bl) hb); have BK122 := qa (hbox); have GW122 := qa ((by rw [hg]; exact (below_size z69_) : w.heap.size ≤ gb122)); have GE122 := qa ((Nat.le_trans HW0.out (by rw [hg]; exact (below_size z69_) : w.heap.size ≤ gb122) : w0.heap.size ≤ gb122)); replace HBW := qa (below_step HBW.out hb); clear hb hbox hg))
  go_ret; exact ⟨_, rfl, (show IsS81 w0 _ gb122 l0 0 from ⟨_, _, bk, GE122.out, HR0.out⟩), bl, by repeat (first | (with_reducible first | exact HBW.out | apply below_alloc | apply pw_below_drewN | apply below_drew1 | refine below_set ?_ GW122.out) | exact HBW.out)⟩

/-! ### spec_l1In: function 78 -/
def spec_l1In.f (a0 : Int) (a1 : Int) (a2 : Int) : Option (Bool) := if a0 ≥ a1 then (some (decide (a0 ≤ a2))) else (some false)
set_option maxHeartbeats 8000000 in
set_option maxRecDepth 100000 in
theorem spec_l1In.calls (a0 : Int) (a1 : Int) (a2 : Int) (r : Bool) (w : World) (h : spec_l1In.f a0 a1 a2 = some r) :
  Calls Try.prog 78 #[.int .i64 a0, .int .i64 a1, .int .i64 a2] w fun e w' => e = .returned (.bool r) ∧ Drawn0 w w' := by
 have H : (if a0 ≥ a1 then (some (decide (a0 ≤ a2))) else (some false)) = some r := h; clear h
 by_cases c4 : a0 ≥ a1
 ·rw [if_pos c4] at H; have c4b0 : decide (a1 ≤ a0) = true := decide_eq_true c4; clear c4; obtain rfl := Option.some.inj H
  go_enter Try.func78, Try.ntmps78
  go_wp2; go_ret; exact ⟨sd, z10_⟩
 ·rw [if_neg c4] at H; have c4b0 : decide (a1 ≤ a0) = false := decide_eq_false c4; clear c4; obtain rfl := Option.some.inj H
  go_enter Try.func78, Try.ntmps78
  go_wp2; go_ret; exact ⟨sd, z10_⟩

/-! ### spec_RowOk: function 67 -/
def spec_RowOk.l0 : Nat → List Int → Int → Option (Bool)
 | 0, _, _ => none
 | k + 1, x0, x3 => if x3 < (x0.length : Int) then (if 0 ≤ x3 then ((spec_l1In.f (rd x0 x3) (-1000000000) 1000000000).bind fun t124 => (if t124 = true then (spec_RowOk.l0 k x0 (wrap64 (x3 + 1))) else (some false))) else (none)) else (some ((x0.length : Int) == 24))
def spec_RowOk.f (k : Nat) (l0 : List Int) : Option (Bool) := spec_RowOk.l0 k l0 0
theorem spec_RowOk.mono_l : ∀ k, (∀ y0 y1, LeO (spec_RowOk.l0 k y0 y1) (spec_RowOk.l0 (k + 1) y0 y1))
 | 0 => fun _ _ r h => by simp [spec_RowOk.l0] at h
 | k + 1 => by
  have ih0 := spec_RowOk.mono_l k
  ·intro y0 y1; unfold spec_RowOk.l0; exact mz
theorem spec_RowOk.mono : ∀ a0 k, LeO (spec_RowOk.f k a0) (spec_RowOk.f (k + 1) a0) := by
 intro a0 k; have ih0 := spec_RowOk.mono_l k; unfold spec_RowOk.f; exact mz
set_option maxHeartbeats 8000000 in
set_option maxRecDepth 100000 in
theorem spec_RowOk.calls (k : Nat) (A0 : Option Addr) (c0 : Nat) (l0 : List Int) (r : Bool) (w : World) (hr0 : Kd.C (Kd.int .i64) w A0 l0.length l0) (hc0 : l0.length ≤ c0) (h : spec_RowOk.f k l0 = some r) :
  Calls Try.prog 67 #[.slice A0 l0.length c0] w fun e w' => e = .returned (.bool r) ∧ Drawn0 w w' := by
 have HR0 := qa hr0; have HC0 := qa hc0; clear hr0 hc0; have H : (spec_RowOk.l0 k l0 0) = some r := h; clear h; have H' := qa H; clear H
 go_enter Try.func67, Try.ntmps67
 go_wp2
 go_loopg [3] k (fun kq v3 w' => ∃ (x3_1 : Int), v3 = .int .i64 x3_1 ∧ Aside0 (spec_RowOk.l0 kq l0 x3_1 = some r) ∧ Aside0 (kq ≤ k) ∧ Drawn0 w w')
 case atStart => exact ⟨(0), (sd), H', ⟨Nat.le_refl _⟩, z10_⟩
 case round =>
  clear H'; obtain ⟨x3_1, rfl, HA, HK1, ⟨m1, rfl⟩⟩ := hrel
  cases gk with
  | zero => exact absurd HA.out (by simp [spec_RowOk.l0])
  | succ k1 =>
   have H := HA.out; clear HA; simp only [spec_RowOk.l0] at H; replace H := qe H; obtain ⟨c2b0, H⟩ | ⟨c2b0, H⟩ := H
   ·replace H := qd H; obtain ⟨c3b0, H⟩ := H; replace H := qb H; obtain ⟨t124, A4, H⟩ := H
    by_cases c5 : t124 = true
    ·subst c5; replace H := qt H; have H' := qa H; clear H; have p123 : 0 ≤ (x3_1 : Int) := qo; have q123 : x3_1 < (l0.length : Int) := qo; obtain ⟨ad123, e123, hx123_0⟩ := Kd.at_int HR0.out x3_1 p123 q123; cases e123; replace p123 := eq_true p123; replace q123 := eq_true q123
     go_wp2_with (first | ((with_reducible refine gate_callee (f := 78) rfl ?_); refine goesL_ (some 14) rfl rfl Try.func78 (by kernel_rfl) rfl #[.int .i64 (rd l0 x3_1), .int .i64 (-1000000000), .int .i64 1000000000] rfl am ?_; (with_reducible refine (spec_l1In.calls (rd l0 x3_1) (-1000000000) 1000000000 true _ A4.out).mono ?_); rintro e w' ⟨rfl, ⟨nd, rfl⟩⟩; refine ⟨_, rfl, ?_⟩))
     go_roundg k1
     case measure => have := HK1.out; omega
     case rel => exact ⟨(wrap64 (x3_1 + 1)), (sd), H', ⟨by have := HK1.out; omega⟩, z10_⟩
    ·replace c5 := Bool.eq_false_iff.mpr c5; subst c5; replace H := qf H; obtain rfl := Option.some.inj H; have p123 : 0 ≤ (x3_1 : Int) := qo; have q123 : x3_1 < (l0.length : Int) := qo; obtain ⟨ad123, e123, hx123_0⟩ := Kd.at_int HR0.out x3_1 p123 q123; cases e123; replace p123 := eq_true p123; replace q123 := eq_true q123
     go_wp2_with (first | ((with_reducible refine gate_callee (f := 78) rfl ?_); refine goesL_ (some 14) rfl rfl Try.func78 (by kernel_rfl) rfl #[.int .i64 (rd l0 x3_1), .int .i64 (-1000000000), .int .i64 1000000000] rfl am ?_; (with_reducible refine (spec_l1In.calls (rd l0 x3_1) (-1000000000) 1000000000 false _ A4.out).mono ?_); rintro e w' ⟨rfl, ⟨nd, rfl⟩⟩; refine ⟨_, rfl, ?_⟩))
     go_ret; exact ⟨sd, z10_⟩
   ·obtain rfl := Option.some.inj H; go_wp2; go_ret; exact ⟨sd, z10_⟩

/-! ### spec_DeskOk: function 25 -/
def spec_DeskOk.l0 : Nat → Int → List Int → List (List Int) → Option (Bool)
 | 0, _, _, _ => none
 | k + 1, x3, x126000, x126001 => if x3 < (x126001.length : Int) then (if 0 ≤ x3 then ((spec_RowOk.f k (rd_L1 x126001 x3)).bind fun t127 => (if t127 = true then (spec_DeskOk.l0 k (wrap64 (x3 + 1)) x126000 x126001) else (some false))) else (none)) else ((spec_RowOk.f k x126000).bind fun t128 => (if t128 = true then (some (decide ((x126001.length : Int) ≤ 8))) else (some false)))
def spec_DeskOk.f (k : Nat) (l0_0 : List Int) (l0_1 : List (List Int)) : Option (Bool) := spec_DeskOk.l0 k 0 l0_0 l0_1
set_option maxHeartbeats 8000000 in
set_option maxRecDepth 100000 in
theorem spec_DeskOk.calls (k : Nat) (A0_0 : Option Addr) (c0_0 : Nat) (l0_0 : List Int) (A0_1 : Option Addr) (c0_1 : Nat) (l0_1 : List (List Int)) (r : Bool) (w : World) (hr0_0 : Kd.C (Kd.int .i64) w A0_0 l0_0.length l0_0) (hc0_0 : l0_0.length ≤ c0_0) (hr0_1 : Kd.C (Kd.slice 3 (Kd.int .i64)) w A0_1 l0_1.length l0_1) (hc0_1 : l0_1.length ≤ c0_1) (h : spec_DeskOk.f k l0_0 l0_1 = some r) :
  Calls Try.prog 25 #[.agg #[.slice A0_0 l0_0.length c0_0, .slice A0_1 l0_1.length c0_1]] w fun e w' => e = .returned (.bool r) ∧ Below w.heap.size w w' := by
 have hu26 := Try.underlying26; have HR0_0 := qa hr0_0; have HC0_0 := qa hc0_0; clear hr0_0 hc0_0; have HR0_1 := qa hr0_1; have HC0_1 := qa hc0_1; clear hr0_1 hc0_1; have HB := qa (Below.refl w.heap.size w); have H : (spec_DeskOk.l0 k 0 l0_0 l0_1) = some r := h; clear h; have H' := qa H; clear H
 go_enter Try.func25, Try.ntmps25
 go_wp2_with (first | ((with_reducible refine gate_dst (N := 1) rfl ?_); (try (refine gate_guard (by rfl) ?_; dsimp only)); refine box_event ?hg (N := 1) ?hd (cs := #[.slice A0_0 l0_0.length c0_0, .slice A0_1 l0_1.length c0_1]) (t := 26) ?hr ?_; (case hd => rfl); (case hg => rfl); (case hr => exact gr); intro gb125 hg w2 hbox hb; have BK125 := qa (hbox); have GW125 := qa ((by rw [hg]; exact (below_size (bl)) : w.heap.size ≤ gb125)); have GE125 := qa ((by rw [hg]; exact (below_size (bl)) : w.heap.size ≤ gb125)); replace HB := qa (below_step (bl) hb); clear hb hbox hg))
 go_loopg [3] k (fun kq v3 w' => ∃ (x3_1 : Int), v3 = .int .i64 x3_1 ∧ Aside0 (spec_DeskOk.l0 kq x3_1 l0_0 l0_1 = some r) ∧ Aside0 (kq ≤ k) ∧ Aside0 (w'.heap[gb125]? = some (.cells #[(.slice A0_0 l0_0.length c0_0), (.slice A0_1 l0_1.length c0_1)] 26 (0, 0))) ∧ Aside0 (Below w.heap.size w w'))
 case atStart => exact ⟨(0), (sd), H', ⟨Nat.le_refl _⟩, ⟨bk⟩, ⟨bl⟩⟩
 case round =>
  clear H'; obtain ⟨x3_1, rfl, HA, HK1, BK125, HB⟩ := hrel
  cases gk with
  | zero => exact absurd HA.out (by simp [spec_DeskOk.l0])
  | succ k1 =>
   have H := HA.out; clear HA; simp only [spec_DeskOk.l0] at H; replace H := qe H; obtain ⟨c3b0, H⟩ | ⟨c3b0, H⟩ := H
   ·replace H := qd H; obtain ⟨c4b0, H⟩ := H; replace H := qb H; obtain ⟨t127, A5, H⟩ := H
    by_cases c6 : t127 = true
    ·subst c6; replace H := qt H; have H' := qa H; clear H; obtain ⟨hcz7_0, hcz7_1, hfz7_0, hfz7_1⟩ := qk2 BK125; have p126 : 0 ≤ (x3_1 : Int) := qo; have q126 : x3_1 < (l0_1.length : Int) := qo; obtain ⟨ad126, A126_0, c126_0, e126, hx126_0, hl126_0, hi126_0⟩ := at_L1 HR0_1.out x3_1 p126 q126; cases e126; (try replace hx126_0 := (HB.out.cell (World.block_lt_of_cell? w _ hx126_0)).trans hx126_0); have HR126_0 := qa hi126_0; have HC126_0 := qa hl126_0; clear hi126_0 hl126_0; replace p126 := eq_true p126; replace q126 := eq_true q126
     go_wp2_with (first | ((with_reducible refine gate_callee (f := 67) rfl ?_); refine goesL_ (some 16) rfl rfl Try.func67 (by kernel_rfl) rfl #[.slice A126_0 (rd_L1 l0_1 x3_1).length c126_0] rfl am ?_; (with_reducible refine (spec_RowOk.calls k1 _ _ (rd_L1 l0_1 x3_1) true _ ?side1 ?side2 A5.out).mono ?_); (case side1 => exact cx (Kd.C_below HR126_0.out HB.out)); (case side2 => exact HC126_0.out); rintro e w' ⟨rfl, ⟨nd, rfl⟩⟩; refine ⟨_, rfl, ?_⟩))
     go_roundg k1
     case measure => have := HK1.out; omega
     case rel => exact ⟨(wrap64 (x3_1 + 1)), (sd), H', ⟨by have := HK1.out; omega⟩, ⟨bk⟩, ⟨bl⟩⟩
    ·replace c6 := Bool.eq_false_iff.mpr c6; subst c6; replace H := qf H; obtain rfl := Option.some.inj H; obtain ⟨hcz8_0, hcz8_1, hfz8_0, hfz8_1⟩ := qk2 BK125; have p126 : 0 ≤ (x3_1 : Int) := qo; have q126 : x3_1 < (l0_1.length : Int) := qo; obtain ⟨ad126, A126_0, c126_0, e126, hx126_0, hl126_0, hi126_0⟩ := at_L1 HR0_1.out x3_1 p126 q126; cases e126; (try replace hx126_0 := (HB.out.cell (World.block_lt_of_cell? w _ hx126_0)).trans hx126_0); have HR126_0 := qa hi126_0; have HC126_0 := qa hl126_0; clear hi126_0 hl126_0; replace p126 := eq_true p126; replace q126 := eq_true q126
     go_wp2_with (first | ((with_reducible refine gate_callee (f := 67) rfl ?_); refine goesL_ (some 16) rfl rfl Try.func67 (by kernel_rfl) rfl #[.slice A126_0 (rd_L1 l0_1 x3_1).length c126_0] rfl am ?_; (with_reducible refine (spec_RowOk.calls k1 _ _ (rd_L1 l0_1 x3_1) false _ ?side1 ?side2 A5.out).mono ?_); (case side1 => exact cx (Kd.C_below HR126_0.out HB.out)); (case side2 => exact HC126_0.out); rintro e w' ⟨rfl, ⟨nd, rfl⟩⟩; refine ⟨_, rfl, ?_⟩))
     go_ret; exact ⟨er, bl⟩
   ·replace H := qb H; obtain ⟨t128, A9, H⟩ := H
    by_cases c10 : t128 = true
    ·subst c10; replace H := qt H; obtain rfl := Option.some.inj H; obtain ⟨hcz11_0, hcz11_1, hfz11_0, hfz11_1⟩ := qk2 BK125
     go_wp2_with (first | ((with_reducible refine gate_callee (f := 67) rfl ?_); refine goesL_ (some 20) rfl rfl Try.func67 (by kernel_rfl) rfl #[.slice A0_0 l0_0.length c0_0] rfl am ?_; (with_reducible refine (spec_RowOk.calls k1 _ _ l0_0 true _ ?side1 ?side2 A9.out).mono ?_); (case side1 => exact cx (Kd.C_below HR0_0.out HB.out)); (case side2 => exact HC0_0.out); rintro e w' ⟨rfl, ⟨nd, rfl⟩⟩; refine ⟨_, rfl, ?_⟩))
     go_ret; exact ⟨er, bl⟩
    ·replace c10 := Bool.eq_false_iff.mpr c10; subst c10; replace H := qf H; obtain rfl := Option.some.inj H; obtain ⟨hcz12_0, hcz12_1, hfz12_0, hfz12_1⟩ := qk2 BK125
     go_wp2_with (first | ((with_reducible refine gate_callee (f := 67) rfl ?_); refine goesL_ (some 20) rfl rfl Try.func67 (by kernel_rfl) rfl #[.slice A0_0 l0_0.length c0_0] rfl am ?_; (with_reducible refine (spec_RowOk.calls k1 _ _ l0_0 false _ ?side1 ?side2 A9.out).mono ?_); (case side1 => exact cx (Kd.C_below HR0_0.out HB.out)); (case side2 => exact HC0_0.out); rintro e w' ⟨rfl, ⟨nd, rfl⟩⟩; refine ⟨_, rfl, ?_⟩))
     go_ret; exact ⟨er, bl⟩

/-! ### spec_l12Copy: function 40 -/
def spec_l12Copy.l0 : Nat → Int → List Int → List (List Int) → List Int → List (List Int) → Option (List Int × (List (List Int)))
 | 0, _, _, _, _, _ => none
 | k + 1, x4, x130000, x130001, x138000, x138001 => if x4 < (x130001.length : Int) then ((some (([] : List Int) : List Int)).bind fun y138 => (if 0 ≤ x4 then (if y138.length + (rd_L1 x130001 x4).length < 17592186044416 then (if x138001.length < 5864062014805 then (spec_l12Copy.l0 k (wrap64 (x4 + 1)) x130000 x130001 x138000 (x138001 ++ [(y138 ++ (rd_L1 x130001 x4))])) else (none)) else (none)) else (none))) else (some (x138000, x138001))
def spec_l12Copy.f (k : Nat) (l0_0 : List Int) (l0_1 : List (List Int)) : Option (List Int × (List (List Int))) := (some (([] : List Int) : List Int)).bind fun y131 => (if y131.length + l0_0.length < 17592186044416 then (spec_l12Copy.l0 k 0 l0_0 l0_1 (y131 ++ l0_0) ([] : List (List Int))) else (none))
def spec_l12Copy.T5 : Bool × List (List Nat × List Nat) := (true, [([], []), ([0], [0]), ([], []), ([], []), ([3], [3]), ([], []), ([4, 5], [4, 5]), ([6], [6]), ([2, 7], [2, 7]), ([8], [8]), ([1, 9, 8], [1, 9]), ([0, 1, 2, 3, 4, 5, 6, 7, 8, 9, 10], []), ([11, 10, 10, 0, 1, 2, 3, 4, 5, 6, 7, 8, 9, 10], [10, 11])])
def spec_l12Copy.B5 : List Nat := [0, 1, 0, 0, 8, 0, 56, 120, 252, 508, 1023, 2047, 4095]
theorem spec_l12Copy.tab5 : rtab .any (opsOf Try.f40 5) = spec_l12Copy.T5 := by kernel_rfl
theorem spec_l12Copy.bits5 : waitsOk spec_l12Copy.T5.2 spec_l12Copy.B5 = true := by kernel_rfl
set_option maxHeartbeats 8000000 in
set_option maxRecDepth 100000 in
theorem spec_l12Copy.calls (k : Nat) (A0_0 : Option Addr) (c0_0 : Nat) (l0_0 : List Int) (A0_1 : Option Addr) (c0_1 : Nat) (l0_1 : List (List Int)) (r1 : List Int) (r2 : List (List Int)) (w : World) (hr0_0 : Kd.C (Kd.int .i64) w A0_0 l0_0.length l0_0) (hc0_0 : l0_0.length ≤ c0_0) (hr0_1 : Kd.C (Kd.slice 3 (Kd.int .i64)) w A0_1 l0_1.length l0_1) (hc0_1 : l0_1.length ≤ c0_1) (h : spec_l12Copy.f k l0_0 l0_1 = some (r1, r2)) :
  Calls Try.prog 40 #[.agg #[.slice A0_0 l0_0.length c0_0, .slice A0_1 l0_1.length c0_1]] w fun e w' => ∃ v0_ v1_ : Value, e = .returned (.agg #[v0_, v1_]) ∧ Kd.R (Kd.int .i64) 3 w' w.heap.size (fun _ => True) v0_ r1 ∧ Kd.S (Kd.slice 3 (Kd.int .i64)) 23 w' w.heap.size (fun k_ => some k_ ≠ (v0_ : Value).ownBlock) v1_ r2 ∧ Below w.heap.size w w' := by
 have hu26 := Try.underlying26; have HR0_0 := qa hr0_0; have HC0_0 := qa hc0_0; clear hr0_0 hc0_0; have HR0_1 := qa hr0_1; have HC0_1 := qa hc0_1; clear hr0_1 hc0_1; have HB := qa (Below.refl w.heap.size w); have H : ((some (([] : List Int) : List Int)).bind fun y131 => (if y131.length + l0_0.length < 17592186044416 then (spec_l12Copy.l0 k 0 l0_0 l0_1 (y131 ++ l0_0) ([] : List (List Int))) else (none))) = some (r1, r2) := h; clear h; replace H := qs H; obtain ⟨y131, Ny131, H⟩ := H
 by_cases c2 : y131.length + l0_0.length < 17592186044416
 ·rw [if_pos c2] at H; have LMc2 := qa c2; clear c2; obtain ⟨y134, hy_⟩ : ∃ y_ : List Int, y_ = (y131 ++ l0_0) := ⟨_, rfl⟩; replace H : (spec_l12Copy.l0 k 0 l0_0 l0_1 y134 ([] : List (List Int))) = some (r1, r2) := yh; have Ny134 := qa hy_; clear hy_; have H' := qa H; clear H
  go_enter Try.func40, Try.ntmps40
  go_wp2_with (first | ((with_reducible refine gate_dst (N := 1) rfl ?_); refine box_event ?hg (N := 1) ?hd (cs := #[.slice A0_0 l0_0.length c0_0, .slice A0_1 l0_1.length c0_1]) (t := 26) ?hr ?_; (case hd => rfl); (case hg => rfl); (case hr => exact gr); intro gb129 hg w3 hbox hb; have BK129 := qa (hbox); have GW129 := qa ((by rw [hg]; exact (below_size (bl)) : w.heap.size ≤ gb129)); have GE129 := qa ((by rw [hg]; exact (below_size (bl)) : w.heap.size ≤ gb129)); replace HB := qa (below_step (bl) hb); clear hb hbox hg) | ((with_reducible refine gate_dst (N := 2) rfl ?_); refine box_event ?hg (N := 2) ?hd (cs := #[.slice none 0 0, .slice none 0 0]) (t := 26) ?hr ?_; (case hd => rfl); (case hg => rfl); (case hr => exact gr); intro gb130 hg w4 hbox hb; have BK130 := qa (hbox); have GW130 := qa ((by rw [hg]; exact (below_size (bl)) : w.heap.size ≤ gb130)); have GE130 := qa ((by rw [hg]; exact (below_size (bl)) : w.heap.size ≤ gb130)); replace HB := qa (below_step (bl) hb); have NB129_130 := qnl hg BK129; have NB130_129 := qng hg BK129; replace BK129 := qbb BK129 hb; clear hb hbox hg) | ((with_reducible refine gate_dst (N := 5) rfl ?_); refine Kd.R_lit (Kd.int .i64) _ 3 ?hg (N := 5) ?hd (xs := ([] : List Int)) (inner := []) (ok := fun _ => True) (okp := fun _ => True) ?hr ?hp (fun _ hk => hk) trivial (Below.refl _ _) (Nat.le_refl _) (by simp) ?_; (case hd => rfl); (case hg => rfl); (case hr => exact gr); (case hp => exact (Reps.none _ _)); intro v132 w5 ho6 hb hg_ hnew_; clear hg_ hnew_; (first | rw [← Ny131.out] at ho6 | (simp only [Int.reduceToNat] at ho6; rw [← Ny131.out] at ho6)); have HO133 := qa (Kd.R_lower ho6 (below_size (bl))); replace BK129 := qbb BK129 hb; replace BK130 := qbb BK130 hb; replace HB := qa (below_step (bl) hb); clear hb ho6; have hnb7 := NB129_130.out; have hnc7 := NB130_129.out; obtain ⟨hcz8_0, hcz8_1, hfz8_0, hfz8_1⟩ := qk2 BK129) | ((with_reducible refine gate_builtin (b := .append) (xs := #[.tmp 5, .tmp 7]) rfl ?_); at_builtin; refine Kd.R_append_rows (Kd.int .i64) (w0 := w) w.heap.size rfl (.tmp 5) (.tmp 7) 23 3 (.int .i64 0) 8 rfl Try.underlying23 info3 rfl (by decide) (by omega) v132 y131 l0_0 _ _ _ (fun _ => True) (fun _ => False) rfl rfl ?aO ?aR (fun _ _ h => h) (fun _ h => h.elim) ?aF ?aB ?aS ?aL ?_; (case aR => exact cx (Kd.C_below HR0_0.out HB.out)); (case aB => exact (bl)); (case aF => exact (fun _ _ => trivial)); (case aO => exact (kR HO133)); (case aS => exact (below_size (bl))); (case aL => have := LMc2.out; omega); intro v135 w9 ho hb hg hat; rw [← Ny134.out] at ho; replace BK129 := qa (blk_grown (g := gb129) (o := .cells #[.slice A0_0 l0_0.length c0_0, .slice A0_1 l0_1.length c0_1] 26 (0, 0)) (bk) hg (Kd.R_ne HO133.out BK129.out (by decide))); replace BK130 := qa (blk_grown (g := gb130) (o := .cells #[.slice none 0 0, .slice none 0 0] 26 (0, 0)) (bk) hg (Kd.R_ne HO133.out BK130.out (by decide))); replace HB := qa (hb); have HO136 := qa (ho); clear HO133; clear ho hb hg hat; obtain ⟨Ao10, co10, eo10⟩ := Kd.R_slice HO136.out; subst eo10) | ((with_reducible refine gate_dst (N := 3) rfl ?_); refine box_event ?hg (N := 3) ?hd (cs := #[.slice none 0 0, .slice none 0 0]) (t := 26) ?hr ?_; (case hd => rfl); (case hg => rfl); (case hr => exact gr); intro gb137 hg w11 hbox hb; replace HO136 := qa (Kd.R_below (kR HO136) hb); have BK137 := qa (hbox); have GW137 := qa ((by rw [hg]; exact (below_size (bl)) : w.heap.size ≤ gb137)); have GE137 := qa ((by rw [hg]; exact (below_size (bl)) : w.heap.size ≤ gb137)); replace HB := qa (below_step (bl) hb); have NB129_137 := qnl hg BK129; have NB137_129 := qng hg BK129; replace BK129 := qbb BK129 hb; have NB130_137 := qnl hg BK130; have NB137_130 := qng hg BK130; replace BK130 := qbb BK130 hb; clear hb hbox hg; have hnb12 := NB137_129.out; have hnc12 := NB129_137.out; have hnb13 := NB137_130.out; have hnc13 := NB130_137.out; obtain ⟨hcz14_0, hcz14_1, hfz14_0, hfz14_1⟩ := qk2 BK137))
  go_loopg [4] k (fun kq v4 w' => ∃ (x4_1 : Int) (x138001_1 : List (List Int)) (u138001 : Value), v4 = .int .i64 x4_1 ∧ Aside0 (spec_l12Copy.l0 kq x4_1 l0_0 l0_1 y134 x138001_1 = some (r1, r2)) ∧ Aside0 (kq ≤ k) ∧ Aside0 (Kd.R (Kd.int .i64) 3 w' w.heap.size (fun _ => True) (.slice Ao10 y134.length co10) y134) ∧ Aside0 (Kd.S (Kd.slice 3 (Kd.int .i64)) 23 w' w.heap.size (fun k_ => some k_ ≠ ((.slice Ao10 y134.length co10) : Value).ownBlock) u138001 x138001_1) ∧ Aside0 (w'.heap[gb129]? = some (.cells #[(.slice A0_0 l0_0.length c0_0), (.slice A0_1 l0_1.length c0_1)] 26 (0, 0))) ∧ Aside0 (w'.heap[gb130]? = some (.cells #[(.slice none 0 0), (.slice none 0 0)] 26 (0, 0))) ∧ Aside0 (w'.heap[gb137]? = some (.cells #[(.slice Ao10 y134.length co10), u138001] 26 (0, 0))) ∧ Aside0 (Below w.heap.size w w'))
  case atStart => exact ⟨(0), (([] : List (List Int))), (.slice none 0 0), (sd), H', ⟨Nat.le_refl _⟩, ⟨by (with_reducible repeat (first | apply Kd.R_alloc | apply Kd.R_drewN | apply Kd.R_drew)); exact Kd.R_mono (Kd.R_far (p := ⟨gb137, 1, none⟩) (Kd.R_far (p := ⟨gb137, 0, none⟩) (Kd.R_types HO136.out BK137.out (by decide)) (fun _ hk => hk.2) (.slice Ao10 y134.length co10)) (fun _ hk => hk.2) (.slice none 0 0)) (fun _ hk => trivial)⟩, ⟨z39_⟩, ⟨kb BK129⟩, ⟨kb BK130⟩, ⟨by (with_reducible repeat (first | refine blk_drewN ?_ _ | refine blk_drew ?_ | refine blk_alloc ?_ _)); refine blk_put (cs := #[.slice Ao10 y134.length co10, .slice none 0 0]) ?_ 1 _ rfl; (with_reducible repeat (first | refine blk_drewN ?_ _ | refine blk_drew ?_ | refine blk_alloc ?_ _)); refine blk_put (cs := #[.slice none 0 0, .slice none 0 0]) ?_ 0 _ rfl; (with_reducible repeat (first | refine blk_drewN ?_ _ | refine blk_drew ?_ | refine blk_alloc ?_ _)); exact BK137.out⟩, ⟨bl⟩⟩
  case round =>
   clear H'; obtain ⟨x4_1, x138001_1, u138001, rfl, HA, HK1, HO_138000, HO_138001, BK129, BK130, BK137, HB⟩ := hrel
   cases gk with
   | zero => exact absurd HA.out (by simp [spec_l12Copy.l0])
   | succ k1 =>
    have H := HA.out; clear HA; simp only [spec_l12Copy.l0] at H; replace H := qe H; obtain ⟨c15b0, H⟩ | ⟨c15b0, H⟩ := H
    ·replace H := qs H; obtain ⟨y138, Ny138, H⟩ := H; replace H := qd H; obtain ⟨c16b0, H⟩ := H; replace H := qn H; obtain ⟨c17, H⟩ := H; have LMc17 := qa c17; clear c17; obtain ⟨y142, hy_⟩ : ∃ y_ : List Int, y_ = (y138 ++ (rd_L1 l0_1 x4_1)) := ⟨_, rfl⟩; replace H : (if x138001_1.length < 5864062014805 then (spec_l12Copy.l0 k1 (wrap64 (x4_1 + 1)) l0_0 l0_1 y134 (x138001_1 ++ [y142])) else (none)) = some (r1, r2) := yh; have Ny142 := qa hy_; clear hy_; replace H := qn H; obtain ⟨c18, H⟩ := H; have LMc18 := qa c18; clear c18; obtain ⟨y145, hy_⟩ : ∃ y_ : List (List Int), y_ = (x138001_1 ++ [y142]) := ⟨_, rfl⟩; replace H : (spec_l12Copy.l0 k1 (wrap64 (x4_1 + 1)) l0_0 l0_1 y134 y145) = some (r1, r2) := yh; have Ny145 := qa hy_; clear hy_; have H' := qa H; clear H; have hnb19 := NB129_130.out; have hnc19 := NB130_129.out; have hnb20 := NB129_137.out; have hnc20 := NB137_129.out; obtain ⟨hcz21_0, hcz21_1, hfz21_0, hfz21_1⟩ := qk2 BK129
     try go_wp2
     replace HO_138000 := qa (Kd.R_drew HO_138000.out); replace HO_138001 := qa (Kd.S_drew HO_138001.out); replace BK129 := qa (blk_drew BK129.out); replace BK130 := qa (blk_drew BK130.out); replace BK137 := qa (blk_drew BK137.out); replace HB := qa (below_drew1 HB.out); have p141 : 0 ≤ (x4_1 : Int) := qo; have q141 : x4_1 < (l0_1.length : Int) := qo; obtain ⟨ad141, A141_0, c141_0, e141, hx141_0, hl141_0, hi141_0⟩ := at_L1 HR0_1.out x4_1 p141 q141; have hw141_0 := hx141_0; cases e141; (try replace hx141_0 := (HB.out.cell (World.block_lt_of_cell? w _ hx141_0)).trans hx141_0); have HR141_0 := qa hi141_0; have HC141_0 := qa hl141_0; clear hi141_0 hl141_0; replace p141 := eq_true p141; replace q141 := eq_true q141; refine start_ (n := 13) (S := fun w' => w'.cell? ⟨gb137, 0, none⟩ = some (.slice Ao10 y134.length co10) ∧ w'.cell? ⟨gb137, 1, none⟩ = some (u138001) ∧ w'.cell? ⟨gb129, 0, none⟩ = some (.slice A0_0 l0_0.length c0_0) ∧ w'.cell? ⟨gb129, 1, none⟩ = some (.slice (some ad141) l0_1.length c0_1) ∧ w'.cell? (ad141.add (x4_1).toNat) = some (.slice A141_0 (rd_L1 l0_1 x4_1).length c141_0)) (ds := [12]) #[false, false, false, false, false, false, false, false, false, false, false, false, false] (by kernel_rfl) rfl rfl ⟨(blk_cell BK137.out 0).trans rfl, (blk_cell BK137.out 1).trans rfl, (blk_cell BK129.out 0).trans rfl, (blk_cell BK129.out 1).trans rfl, ((HB.out.cell (World.block_lt_of_cell? w _ hw141_0)).trans hw141_0)⟩ (fun hHeld => ?_); refine with_tabW spec_l12Copy.tab5 spec_l12Copy.bits5 (fun HT_ HW_ => ?_); generalize wr.drew = w22 at HO_138000 HO_138001 BK129 BK130 BK137 HB HR141_0 hx141_0 hHeld ⊢; refine pur 0 17 #[true, false, false, false, false, false, false, false, false, false, false, false, false] HT_ ?_; refine pur 3 20 #[true, false, false, true, false, false, false, false, false, false, false, false, false] HT_ ?_; refine pur 5 22 #[true, false, false, true, false, true, false, false, false, false, false, false, false] HT_ ?_; refine take_ (i := 1) (N := some 18) (v := ?_) (a' := ?_) #[true, true, false, true, false, true, false, false, false, false, false, false, false] rfl rfl (take_ofW HT_.out HW_.out (by kernel_rfl)) (fun _ _ _ h => h) (Or.inl ⟨by rfl, ?_⟩) hHeld ?_ ?_; rotate_left
     ·rintro w' ⟨s0, s1, s2, s3, s4⟩
      go_simp
      with_reducible rfl
     rotate_left
     ·simp only [Act.put, List.setIfInBounds_toArray, List.set_cons_zero, List.set_cons_succ, i64_w, i32_w]
      rfl
     refine take_ (i := 4) (N := some 21) (v := ?_) (a' := ?_) #[true, true, false, true, true, true, false, false, false, false, false, false, false] rfl rfl (take_ofW HT_.out HW_.out (by kernel_rfl)) (fun _ _ _ h => h) (Or.inl ⟨by rfl, ?_⟩) hHeld ?_ ?_; rotate_left
     ·rintro w' ⟨s0, s1, s2, s3, s4⟩
      go_simp
      with_reducible rfl
     rotate_left
     ·simp only [Act.put, List.setIfInBounds_toArray, List.set_cons_zero, List.set_cons_succ, i64_w, i32_w]
      rfl
     refine pur 6 23 #[true, true, false, true, true, true, true, false, false, false, false, false, false] HT_ ?_; refine take_ (i := 7) (N := some 24) (v := ?_) (a' := ?_) #[true, true, false, true, true, true, true, true, false, false, false, false, false] rfl rfl (take_ofW HT_.out HW_.out (by kernel_rfl)) (fun _ _ _ h => h) (Or.inl ⟨by rfl, ?_⟩) hHeld ?_ ?_; rotate_left
     ·rintro w' ⟨s0, s1, s2, s3, s4⟩
      go_simp
      with_reducible rfl
     rotate_left
     ·simp only [Act.put, List.setIfInBounds_toArray, List.set_cons_zero, List.set_cons_succ, i64_w, i32_w]
      rfl
     refine one_ (i := 2) (N := some 19) #[true, true, true, true, true, true, true, true, false, false, false, false, false] rfl rfl (one_of HT_.out (by kernel_rfl)) (by decide) (fun K hK => ?_); refine Kd.R_lit_step (Kd.int .i64) _ 3 ?hg (N := 19) ?hd (xs := ([] : List Int)) (inner := []) (ok := fun _ => True) (okp := fun _ => True) ?hr ?hp (fun _ hk => hk) trivial (Below.refl _ _) (Nat.le_refl _) (by simp) ?_; (case hd => rfl); (case hg => rfl); (case hr => exact gr); (case hp => exact (Reps.none _ _)); intro v139 w23 ho24 hb hg_ hnew_; clear hg_ hnew_; (first | rw [← Ny138.out] at ho24 | (simp only [Int.reduceToNat] at ho24; rw [← Ny138.out] at ho24)); replace HO_138001 := qa (Kd.S_elder' (kS HO_138001) (Kd.R_base ho24) hb); have HO140 := qa (Kd.R_lower (Kd.R_new' ho24 (Kd.R_lt (kR HO_138000))) (below_size (bl))); replace HO_138000 := qa (Kd.R_elder' (kR HO_138000) (Kd.R_base ho24) hb); replace BK129 := qbb BK129 hb; replace BK130 := qbb BK130 hb; replace BK137 := qbb BK137 hb; replace HB := qa (below_step (bl) hb); clear hb ho24; refine hK.out _ _ ⟨(blk_cell BK137.out 0).trans rfl, (blk_cell BK137.out 1).trans rfl, (blk_cell BK129.out 0).trans rfl, (blk_cell BK129.out 1).trans rfl, ((HB.out.cell (World.block_lt_of_cell? w _ hw141_0)).trans hw141_0)⟩ (fun hHeld => ?_); clear hK K; refine norm_ (a' := ?_) ?_ ?_; rotate_left
     ·show Act.put _ (some 19) _ = _; simp only [Act.put, List.setIfInBounds_toArray, List.set_cons_zero, List.set_cons_succ, i64_w, i32_w]
      rfl
     refine one_ (i := 8) (N := some 25) #[true, true, true, true, true, true, true, true, true, false, false, false, false] rfl rfl (one_of HT_.out (by kernel_rfl)) (by decide) (fun K hK => ?_); refine Kd.R_append_rows_step (Kd.int .i64) (w0 := w) w.heap.size (by rfl) (.tmp 19) (.tmp 24) 23 3 (.int .i64 0) 8 rfl Try.underlying23 info3 rfl (by decide) (by omega) v139 y138 (rd_L1 l0_1 x4_1) _ _ _ (fun k_ => some k_ ≠ (.slice Ao10 y134.length co10 : Value).ownBlock) (fun _ => False) rfl rfl ?aO ?aR (fun _ _ h => h) (fun _ h => h.elim) ?aF ?aB ?aS ?aL ?_; (case aR => exact cx (Kd.C_below HR141_0.out HB.out)); (case aB => exact (bl)); (case aF => exact (fun k_ hk => Kd.fresh' (Kd.R_lt (kR HO_138000)) k_ hk)); (case aO => exact (by (with_reducible repeat (first | apply Kd.R_alloc | apply Kd.R_drewN | apply Kd.R_drew)); exact Kd.R_mono HO140.out (fun _ hk => hk.2))); (case aS => exact (below_size (bl))); (case aL => have := LMc17.out; omega); intro v143 w25 ho hb hg hat; rw [← Ny142.out] at ho; replace HO_138000 := qa (Kd.R_after (ok := (fun _ => True)) (kR HO_138000) hg hat); replace HO_138001 := qa (Kd.S_after (ok := (fun k_ => some k_ ≠ (.slice Ao10 y134.length co10 : Value).ownBlock)) (kS HO_138001) hg hat); replace BK129 := qa (blk_grown (g := gb129) (o := .cells #[.slice A0_0 l0_0.length c0_0, .slice (some ad141) l0_1.length c0_1] 26 (0, 0)) (bk) hg (Kd.R_ne HO140.out BK129.out (by decide))); replace BK130 := qa (blk_grown (g := gb130) (o := .cells #[.slice none 0 0, .slice none 0 0] 26 (0, 0)) (bk) hg (Kd.R_ne HO140.out BK130.out (by decide))); replace BK137 := qa (blk_grown (g := gb137) (o := .cells #[.slice Ao10 y134.length co10, u138001] 26 (0, 0)) (bk) hg (Kd.R_ne HO140.out BK137.out (by decide))); replace HB := qa (hb); have HO144 := qa (ho); clear HO140; clear ho hb hg hat; obtain ⟨Ao27, co27, eo27⟩ := Kd.R_slice HO144.out; (first | subst eo27 | (injection eo27 with f1_ f2_ f3_; have f4_ := f1_.symm; have f5_ := f3_.symm; clear f1_ f2_ f3_; subst f4_; subst f5_)); refine hK.out _ _ ⟨(blk_cell BK137.out 0).trans rfl, (blk_cell BK137.out 1).trans rfl, (blk_cell BK129.out 0).trans rfl, (blk_cell BK129.out 1).trans rfl, ((HB.out.cell (World.block_lt_of_cell? w _ hw141_0)).trans hw141_0)⟩ (fun hHeld => ?_); clear hK K; refine norm_ (a' := ?_) ?_ ?_; rotate_left
     ·show Act.put _ (some 25) _ = _; simp only [Act.put, List.setIfInBounds_toArray, List.set_cons_zero, List.set_cons_succ, i64_w, i32_w]
      rfl
     refine one_ (i := 9) (N := some 26) #[true, true, true, true, true, true, true, true, true, true, false, false, false] rfl rfl (one_of HT_.out (by kernel_rfl)) (by decide) (fun K hK => ?_); refine value_ (w1 := ?_) (v := ?_) (by rfl) rfl ?_ ?_; rotate_left 2
     ·go_simp
      constructor
      ·rfl
      ·rfl
     refine hK.out _ _ ⟨(blk_cell (blk_alloc BK137.out _) 0).trans rfl, (blk_cell (blk_alloc BK137.out _) 1).trans rfl, (blk_cell (blk_alloc BK129.out _) 0).trans rfl, (blk_cell (blk_alloc BK129.out _) 1).trans rfl, (World.cell?_alloc_lt _ _ _ (World.block_lt_of_cell? _ _ (((HB.out.cell (World.block_lt_of_cell? w _ hw141_0)).trans hw141_0)))).trans (((HB.out.cell (World.block_lt_of_cell? w _ hw141_0)).trans hw141_0))⟩ (fun hHeld => ?_); clear hK K; refine norm_ (a' := ?_) ?_ ?_; rotate_left
     ·show Act.put _ (some 26) _ = _; simp only [Act.put, List.setIfInBounds_toArray, List.set_cons_zero, List.set_cons_succ, i64_w, i32_w]
      rfl
     refine one_ (i := 10) (N := some 27) #[true, true, true, true, true, true, true, true, true, true, true, false, false] rfl rfl (one_of HT_.out (by kernel_rfl)) (by decide) (fun K hK => ?_); refine Kd.S_append_step (Kd.slice 3 (Kd.int .i64)) (w0 := w) w.heap.size (by rfl) (.tmp 18) (.tmp 26) 24 23 (.slice none 0 0) 24 rfl Try.underlying24 info23 rfl (by decide) (by omega) u138001 x138001_1 y142 [.slice Ao27 y142.length co27] (fun k_ => some k_ ≠ (.slice Ao10 y134.length co10 : Value).ownBlock) (fun k_ => some k_ = (.slice Ao27 y142.length co27 : Value).ownBlock) rfl rfl ?aP (fun k_ hk_ => ((Kd.R_mono (ok' := fun k_ => ((fun k_ => some k_ ≠ (.slice Ao10 y134.length co10 : Value).ownBlock)) k_ ∧ some k_ ≠ (u138001 : Value).ownBlock) (Kd.R_apart' (HO144.out) (Kd.S_typed HO_138001.out) (by decide)) (fun k_ hk => ⟨hk.1, hk.2⟩))).1 k_ hk_.symm) ?aF ?aO ?aB ?aS ?aL ?_; (case aP => exact Kd.M_row (Kd.R_mono (Kd.R_tight rfl (Kd.R_mono (ok' := fun k_ => ((fun k_ => some k_ ≠ (.slice Ao10 y134.length co10 : Value).ownBlock)) k_ ∧ some k_ ≠ (u138001 : Value).ownBlock) (Kd.R_apart' (HO144.out) (Kd.S_typed HO_138001.out) (by decide)) (fun k_ hk => ⟨hk.1, hk.2⟩))) (fun _ h_ => h_))); (case aB => exact (bl)); (case aF => exact (fun k_ hk => Kd.fresh' (Kd.R_lt (kR HO_138000)) k_ hk)); (case aO => exact (by (with_reducible repeat (first | apply Kd.S_alloc | apply Kd.S_drewN | apply Kd.S_drew)); exact Kd.S_mono HO_138001.out (fun k_ hk => ⟨hk.1, fun e_ => hk.2 e_⟩))); (case aS => exact (below_size (bl))); (case aL => have := LMc18.out; omega); intro v146 w26 ho hb hg hat; rw [← Ny145.out] at ho; replace HO_138000 := qa (Kd.R_over' (kR HO_138000) (Kd.S_typed (kS HO_138001)) (by decide) hg); replace BK129 := qa (blk_grown (g := gb129) (o := .cells #[.slice A0_0 l0_0.length c0_0, .slice (some ad141) l0_1.length c0_1] 26 (0, 0)) (bk) hg (Kd.S_ne HO_138001.out BK129.out (by decide))); replace BK130 := qa (blk_grown (g := gb130) (o := .cells #[.slice none 0 0, .slice none 0 0] 26 (0, 0)) (bk) hg (Kd.S_ne HO_138001.out BK130.out (by decide))); replace BK137 := qa (blk_grown (g := gb137) (o := .cells #[.slice Ao10 y134.length co10, u138001] 26 (0, 0)) (bk) hg (Kd.S_ne HO_138001.out BK137.out (by decide))); replace HB := qa (hb); have HO147 := qa (ho); clear HO_138001 HO144; clear ho hb hg hat; obtain ⟨Ao28, co28, eo28⟩ := Kd.S_slice HO147.out; (first | subst eo28 | (injection eo28 with f1_ f2_ f3_; have f4_ := f1_.symm; have f5_ := f3_.symm; clear f1_ f2_ f3_; subst f4_; subst f5_)); refine hK.out _ _ ⟨(blk_cell BK137.out 0).trans rfl, (blk_cell BK137.out 1).trans rfl, (blk_cell BK129.out 0).trans rfl, (blk_cell BK129.out 1).trans rfl, ((HB.out.cell (World.block_lt_of_cell? w _ hw141_0)).trans hw141_0)⟩ (fun hHeld => ?_); clear hK K; refine norm_ (a' := ?_) ?_ ?_; rotate_left
     ·show Act.put _ (some 27) _ = _; simp only [Act.put, List.setIfInBounds_toArray, List.set_cons_zero, List.set_cons_succ, i64_w, i32_w]
      rfl
     refine pur 11 28 #[true, true, true, true, true, true, true, true, true, true, true, true, false] HT_ ?_; refine last_ (i := 12) (N := none) #[true, true, true, true, true, true, true, true, true, true, true, true, true] rfl rfl (one_of HT_.out (by kernel_rfl)) (by decide) (fun K hK => ?_); have hs29 : w26.cell? ⟨gb137, 1, none⟩ = some (u138001) := (blk_cell BK137.out 1).trans rfl; have hfs29 := blk_frozen BK137.out 1; have hns29_0 := NB129_137.out; have hns29_1 := NB130_137.out; have hms29_0 := NB137_129.out; have hms29_1 := NB137_130.out; refine skip_ (w1 := ?_) (by rfl) rfl ?_ ?_; rotate_left
     ·go_simp
      rfl
     refine hK.out _ _ ?_; clear hK K; refine done_ (done_of HT_.out (by kernel_rfl)) ?_
     try go_wp2
     go_roundg k1
     case measure => have := HK1.out; omega
     case rel => exact ⟨(wrap64 (x4_1 + 1)), (y145), (.slice Ao28 y145.length co28), (sd), H', ⟨by have := HK1.out; omega⟩, ⟨by (with_reducible repeat (first | apply Kd.R_alloc | apply Kd.R_drewN | apply Kd.R_drew)); exact Kd.R_mono (Kd.R_far (p := ⟨gb137, 1, none⟩) (Kd.R_types HO_138000.out BK137.out (by decide)) (fun _ hk => hk.2) (.slice Ao28 y145.length co28)) (fun _ hk => trivial)⟩, ⟨by (with_reducible repeat (first | apply Kd.S_alloc | apply Kd.S_drewN | apply Kd.S_drew)); exact Kd.S_mono (Kd.S_far (p := ⟨gb137, 1, none⟩) (Kd.S_types HO147.out BK137.out (by decide)) (fun _ hk => hk.2) (.slice Ao28 y145.length co28)) (fun _ hk => hk.1)⟩, ⟨kb BK129⟩, ⟨kb BK130⟩, ⟨by (with_reducible repeat (first | refine blk_drewN ?_ _ | refine blk_drew ?_ | refine blk_alloc ?_ _)); refine blk_put (cs := #[.slice Ao10 y134.length co10, u138001]) ?_ 1 _ rfl; (with_reducible repeat (first | refine blk_drewN ?_ _ | refine blk_drew ?_ | refine blk_alloc ?_ _)); exact BK137.out⟩, ⟨bl⟩⟩
    ·simp only [Option.some.injEq, Prod.mk.injEq] at H; obtain ⟨rfl, rfl⟩ := H; have hnb30 := NB129_130.out; have hnc30 := NB130_129.out; have hnb31 := NB129_137.out; have hnc31 := NB137_129.out; obtain ⟨hcz32_0, hcz32_1, hfz32_0, hfz32_1⟩ := qk2 BK129; have hnb33 := NB137_130.out; have hnc33 := NB130_137.out; obtain ⟨hcz34_0, hcz34_1, hfz34_0, hfz34_1⟩ := qk2 BK137; obtain ⟨hcz35_0, hcz35_1, hfz35_0, hfz35_1⟩ := qk2 BK130; obtain ⟨Ao36, co36, eo36⟩ := Kd.S_slice HO_138001.out; subst eo36; go_wp2; refine bodyPost_ret (results_cell_row rfl _ _ gb130 26 #[.slice Ao10 y134.length co10, .slice Ao36 x138001_1.length co36] (0, 0) _ rfl (by (with_reducible repeat (first | refine blk_drewN ?_ _ | refine blk_drew ?_ | refine blk_alloc ?_ _)); refine blk_put (cs := #[.slice Ao10 y134.length co10, .slice none 0 0]) ?_ 1 _ rfl; (with_reducible repeat (first | refine blk_drewN ?_ _ | refine blk_drew ?_ | refine blk_alloc ?_ _)); refine blk_put (cs := #[.slice none 0 0, .slice none 0 0]) ?_ 0 _ rfl; (with_reducible repeat (first | refine blk_drewN ?_ _ | refine blk_drew ?_ | refine blk_alloc ?_ _)); exact BK130.out) Try.underlying26 rfl (by kernel_rfl)) rfl ?_; exact ⟨_, _, er, by (with_reducible repeat (first | apply Kd.R_alloc | apply Kd.R_drewN | apply Kd.R_drew)); exact Kd.R_mono (Kd.R_far (p := ⟨gb130, 1, none⟩) (Kd.R_far (p := ⟨gb130, 0, none⟩) (Kd.R_types HO_138000.out BK130.out (by decide)) (fun _ hk => hk.2) (.slice Ao10 y134.length co10)) (fun _ hk => hk.2) (.slice Ao36 x138001_1.length co36)) (fun _ hk => trivial), by (with_reducible repeat (first | apply Kd.S_alloc | apply Kd.S_drewN | apply Kd.S_drew)); exact Kd.S_mono (Kd.S_far (p := ⟨gb130, 1, none⟩) (Kd.S_far (p := ⟨gb130, 0, none⟩) (Kd.S_types HO_138001.out BK130.out (by decide)) (fun _ hk => hk.2) (.slice Ao10 y134.length co10)) (fun _ hk => hk.2) (.slice Ao36 x138001_1.length co36)) (fun _ hk => hk.1), bl⟩
 ·rw [if_neg c2] at H; exact absurd H (by simp)

end Go.Proofs.Ytmgjidgfhlclmaa.PFnDeskRun
