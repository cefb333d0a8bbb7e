/- Runs of tests: of all i in a run. No program in sight.
-/
import Derived.Test.YtdmlkjjlgkdnlaaGreatDoorLib
namespace Go.Proofs.YtdmlkjjlgkdnlaaGreatDoor.Lib
open Go.RowKit Go.Proofs.YtdmlkjjlgkdnlaaGreatDoorW.PrintWords
set_option linter.unusedVariables false
set_option linter.unusedSimpArgs false
def allF (p:Nat->Bool):Nat->Nat->Bool
 |0,_=>true
 |f+1,i=>p i&&allF p f (i+1)
theorem allF_and (p q:Nat->Bool):∀f i,allF (fun j=>p j&&q j) f i=(allF p f i&&allF q f i):=by
 intro f
 induction f with
 |zero=>intro i;rfl
 |succ f ih=>
  intro i
  simp only[allF,ih (i+1)]
  cases p i <;> cases q i <;> cases allF p f (i+1) <;> simp
theorem allF_at (p:Nat->Bool):∀f i,allF p f i=true->∀j,i<=j->j<i+f->p j=true:=by
 intro f
 induction f with
 |zero=>intro i _ j h1 h2;omega
 |succ f ih=>
  intro i h j h1 h2
  simp only[allF,Bool.and_eq_true]at h
  by_cases e:j=i
  .subst e;exact h.1
  .exact ih (i+1) h.2 j om_ om_
theorem rdn (row:List Int) (i:Nat):rd row (i:Int)=row.getD i 0:=by unfold rd;rw[Int.toNat_natCast]
def r1 (row:List Int) (i:Nat):Bool:=decide (-1000000000<=row.getD i 0/\row.getD i 0<=1000000000)
def rowB (row:List Int):Bool:=allF (r1 row) row.length 0&&((row.length:Int)==24)
def He (now:List Int) (past:List (List Int)):Bool:=allF (fun i=>rowB (past.getD i [])) past.length 0&&(rowB now&&decide ((past.length:Int)<=8))
end Go.Proofs.YtdmlkjjlgkdnlaaGreatDoor.Lib
