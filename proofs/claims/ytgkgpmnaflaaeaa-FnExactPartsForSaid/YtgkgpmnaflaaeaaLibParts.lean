/-
  Rows that tell by what is shared are sums of sums: sums over lists, regrouped by what is shared; what is left, the kernel is asked for each length.
-/
import Derived.Test.YtgkgpmnaflaaeaaLibGcd
import Derived.Test.YtgkgpmnaflaaeaaLibUps
import Derived.Test.YtgkgpmnaflaaeaaLibKer
namespace Go.Proofs.Ytgkgpmnaflaaeaa.Lib
open Go.RowKit Go.Proofs.YtgkgpmnaflaaeaaW.PrintWords
set_option linter.unusedVariables false
set_option linter.unusedSimpArgs false

def lsum (h : Nat → Int) : List Nat → Int
  | [] => 0
  | d :: r => h d + lsum h r
theorem lsum_congr {h h' : Nat → Int} : ∀ (l : List Nat), (∀ d ∈ l, h d = h' d) → lsum h l = lsum h' l
  | [], _ => rfl
  | d :: r, H => by
    simp only [lsum]
    rw [H d (List.mem_cons_self ..), lsum_congr r (fun x hx => H x (List.mem_cons_of_mem _ hx))]
theorem lsum_zero : ∀ (l : List Nat), lsum (fun _ => 0) l = 0
  | [] => rfl
  | d :: r => by simp only [lsum]; rw [lsum_zero r]; rfl
theorem lsum_add (f g : Nat → Int) : ∀ (l : List Nat), lsum (fun x => f x + g x) l = lsum f l + lsum g l
  | [] => rfl
  | d :: r => by simp only [lsum]; rw [lsum_add f g r]; omega
theorem lsum_mul (a : Int) (f : Nat → Int) : ∀ (l : List Nat), lsum (fun x => a * f x) l = a * lsum f l
  | [] => by simp [lsum]
  | d :: r => by simp only [lsum]; rw [lsum_mul a f r, Int.mul_add]
theorem lsum_swap (f : Nat → Nat → Int) : ∀ (l m : List Nat), lsum (fun x => lsum (fun y => f x y) m) l = lsum (fun y => lsum (fun x => f x y) l) m
  | [], m => by simp only [lsum]; rw [lsum_zero]
  | d :: r, m => by
    simp only [lsum]
    rw [lsum_swap f r m, ← lsum_add]
theorem upF_lsum (g : Nat → Int) : ∀ (f d : Nat), upF g f d = lsum g (List.range' d f) := by
  intro f
  induction f with
  | zero => intro d; rfl
  | succ f ih => intro d; rw [List.range'_succ]; simp only [upF, lsum]; rw [ih (d + 1)]
def cntL (h : Nat → Nat) (g : Nat) : List Nat → Int
  | [] => 0
  | m :: r => (if h m = g then 1 else 0) + cntL h g r
theorem lsum_pick (a : Nat) (G : Nat → Int) : ∀ (l : List Nat), l.Nodup → a ∈ l → lsum (fun g => (if a = g then 1 else 0) * G g) l = G a
  | [], _, h => by simp at h
  | d :: r, hn, h => by
    obtain ⟨h1, h2⟩ := List.nodup_cons.1 hn
    simp only [lsum]
    by_cases e : a = d
    · subst e
      have : lsum (fun g => (if a = g then 1 else 0) * G g) r = 0 := by
        refine (lsum_congr (h' := fun _ => 0) r (fun x hx => ?_)).trans (lsum_zero r)
        rw [if_neg (show ¬ (a = x) from fun h => h1 (by rw [h]; exact hx)), Int.zero_mul]
      rw [this, if_pos rfl]
      omega
    · rw [if_neg e, lsum_pick a G r h2 (by rcases List.mem_cons.1 h with h | h; exact absurd h e; exact h)]
      omega
theorem lsum_group (h : Nat → Nat) (G : Nat → Int) {l0 : List Nat} (hn : l0.Nodup) : ∀ (l : List Nat), (∀ m ∈ l, h m ∈ l0) → lsum (fun m => G (h m)) l = lsum (fun g => cntL h g l * G g) l0
  | [], _ => by
    simp only [lsum, cntL, Int.zero_mul]
    rw [lsum_zero]
  | m :: r, H => by
    have ih := lsum_group h G hn r (fun x hx => H x (List.mem_cons_of_mem _ hx))
    simp only [lsum, cntL]
    rw [ih, ← lsum_pick (h m) G l0 hn (H m (List.mem_cons_self ..)), ← lsum_add]
    refine lsum_congr _ (fun g _ => ?_)
    rw [Int.add_mul]
/-- What is left of each two divisors. -/
def kq (L h g : Nat) : Int := lsum (fun d => ((ph L / ph d : Nat) : Int) * rm d (Nat.gcd d h) * rm d (Nat.gcd d g)) (dv L)
def ptB (L : Nat) : Bool := (dv L).all fun g => (dv L).all fun h => (cntL (fun m => Nat.gcd m L) g (List.range' 1 L) * kq L h g) == (if h = g then ((L * ph L : Nat) : Int) else 0)
theorem ptB_all : allR ptB 1 60 = true := by decide +kernel
theorem pt_eq {L g h : Nat} (h1 : 1 ≤ L) (h2 : L ≤ 60) (hg : g ∈ dv L) (hh : h ∈ dv L) : cntL (fun m => Nat.gcd m L) g (List.range' 1 L) * kq L h g = if h = g then ((L * ph L : Nat) : Int) else 0 := by
  have a := allR_at ptB_all L h1 (by omega)
  unfold ptB at a
  have b := List.all_eq_true.1 (List.all_eq_true.1 a g hg) h hh
  simpa using b
def phB (L : Nat) : Bool := (dv L).all fun d => (Nat.ble 1 (ph d)) && Nat.beq (ph L % ph d) 0
theorem phB_all : allR phB 1 60 = true := by decide +kernel
theorem ph_dvd {L d : Nat} (h1 : 1 ≤ L) (h2 : L ≤ 60) (hd : d ∈ dv L) : 1 ≤ ph d ∧ ph L % ph d = 0 := by
  have a := allR_at phB_all L h1 (by omega)
  unfold phB at a
  have b := List.all_eq_true.1 a d hd
  rw [Bool.and_eq_true] at b
  exact ⟨Nat.le_of_ble_eq_true b.1, Nat.eq_of_beq_eq_true b.2⟩
/-- One part above its line. -/
def prt (row : List Int) (d : Nat) : Int := upF (fun m => row.getD (m - 1) 0 * rm d (Nat.gcd d m)) row.length 1
theorem gcd_mem {L m : Nat} (h1 : 1 ≤ L) (h2 : L ≤ 60) : Nat.gcd m L ∈ dv L := by
  rw [dv_eq h1 (by omega)]
  exact mem_dvs.2 ⟨Nat.gcd_pos_of_pos_right m h1, Nat.gcd_le_right m h1, Nat.mod_eq_zero_of_dvd (Nat.gcd_dvd_right m L)⟩
theorem gcd_shared {d L m : Nat} (h : d ∣ L) : Nat.gcd d (Nat.gcd m L) = Nat.gcd d m := by
  rw [Nat.gcd_comm m L, ← Nat.gcd_assoc, Nat.gcd_eq_left h]
/-- All parts, each times its sum at a place, are together the row there. -/
theorem parts_sum {row : List Int} {L : Nat} (hL : row.length = L) (h1 : 1 ≤ L) (h2 : L ≤ 60) (he : ∀ m, 1 ≤ m → m ≤ L → row.getD (m - 1) 0 = row.getD (Nat.gcd m L - 1) 0) {n : Nat} (hn1 : 1 ≤ n) (hn2 : n ≤ L) :
    lsum (fun d => ((ph L / ph d : Nat) : Int) * prt row d * rm d (Nat.gcd d n)) (dv L) = ((L * ph L : Nat) : Int) * row.getD (n - 1) 0 := by
  have hnd : (dv L).Nodup := by
    rw [dv_eq h1 (by omega)]
    exact (dvs_sorted L).imp (fun h => Nat.ne_of_lt h)
  have hdvd : ∀ d ∈ dv L, d ∣ L := fun d hd => by
    rw [dv_eq h1 (by omega)] at hd
    exact Nat.dvd_of_mod_eq_zero (mem_dvs.1 hd).2.2
  have s1 : lsum (fun d => ((ph L / ph d : Nat) : Int) * prt row d * rm d (Nat.gcd d n)) (dv L) = lsum (fun d => lsum (fun m => (row.getD (m - 1) 0) * (((ph L / ph d : Nat) : Int) * rm d (Nat.gcd d (Nat.gcd n L)) * rm d (Nat.gcd d (Nat.gcd m L)))) (List.range' 1 L)) (dv L) := by
    refine lsum_congr _ (fun d hd => ?_)
    have hdd := hdvd d hd
    unfold prt
    rw [upF_lsum, hL]
    have e : ((ph L / ph d : Nat) : Int) * lsum (fun m => row.getD (m - 1) 0 * rm d (Nat.gcd d m)) (List.range' 1 L) * rm d (Nat.gcd d n) = (((ph L / ph d : Nat) : Int) * rm d (Nat.gcd d n)) * lsum (fun m => row.getD (m - 1) 0 * rm d (Nat.gcd d m)) (List.range' 1 L) := by
      rw [Int.mul_assoc, Int.mul_comm (lsum _ _), ← Int.mul_assoc]
    rw [e, ← lsum_mul]
    refine lsum_congr _ (fun m _ => ?_)
    rw [gcd_shared hdd, gcd_shared hdd]
    generalize rm d (Nat.gcd d n) = x
    generalize rm d (Nat.gcd d m) = y
    generalize ((ph L / ph d : Nat) : Int) = z
    generalize row.getD (m - 1) 0 = u
    grind
  rw [s1, lsum_swap]
  have s2 : lsum (fun m => lsum (fun d => (row.getD (m - 1) 0) * (((ph L / ph d : Nat) : Int) * rm d (Nat.gcd d (Nat.gcd n L)) * rm d (Nat.gcd d (Nat.gcd m L)))) (dv L)) (List.range' 1 L) = lsum (fun m => (fun g => row.getD (g - 1) 0 * kq L (Nat.gcd n L) g) (Nat.gcd m L)) (List.range' 1 L) := by
    refine lsum_congr _ (fun m hm => ?_)
    have hm := List.mem_range'_1.1 hm
    rw [lsum_mul, he m hm.1 (by omega)]
    rfl
  rw [s2, lsum_group (fun m => Nat.gcd m L) (fun g => row.getD (g - 1) 0 * kq L (Nat.gcd n L) g) hnd _ (fun m _ => gcd_mem h1 h2)]
  have s3 : lsum (fun g => cntL (fun m => Nat.gcd m L) g (List.range' 1 L) * (row.getD (g - 1) 0 * kq L (Nat.gcd n L) g)) (dv L) = lsum (fun g => (if Nat.gcd n L = g then 1 else 0) * (((L * ph L : Nat) : Int) * row.getD (g - 1) 0)) (dv L) := by
    refine lsum_congr _ (fun g hg => ?_)
    have e := pt_eq h1 h2 hg (gcd_mem (m := n) h1 h2)
    have e2 : cntL (fun m => Nat.gcd m L) g (List.range' 1 L) * (row.getD (g - 1) 0 * kq L (Nat.gcd n L) g) = row.getD (g - 1) 0 * (cntL (fun m => Nat.gcd m L) g (List.range' 1 L) * kq L (Nat.gcd n L) g) := by
      rw [← Int.mul_assoc, Int.mul_comm (cntL _ _ _), Int.mul_assoc]
    rw [e2, e]
    split
    · rw [Int.one_mul, Int.mul_comm]
    · simp
  rw [s3, lsum_pick _ (fun g => ((L * ph L : Nat) : Int) * row.getD (g - 1) 0) _ hnd (gcd_mem h1 h2), ← he n hn1 hn2]

end Go.Proofs.Ytgkgpmnaflaaeaa.Lib
