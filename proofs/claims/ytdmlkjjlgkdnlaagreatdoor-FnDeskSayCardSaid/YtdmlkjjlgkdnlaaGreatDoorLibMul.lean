/- The sign of a number, and how many numbers are apart from it, by its primes; greatest common divisors.
-/
import Derived.Test.YtdmlkjjlgkdnlaaGreatDoorLibFac
namespace Go.Proofs.YtdmlkjjlgkdnlaaGreatDoor.Lib
open Go.RowKit Go.Proofs.YtdmlkjjlgkdnlaaGreatDoorW.PrintWords
set_option linter.unusedVariables false
set_option linter.unusedSimpArgs false
theorem facI_mem:∀(f n p:Nat),2<=p->1<=n->n<=10000->∀x∈facI f n p,2<=x.1/\x.1<=10000/\1<=x.2/\x.2<=14:=by
 intro f
 induction f with
 |zero=>intro n p _ _ _ x hx;simp[facI]at hx
 |succ f ih=>
  intro n p hp h1 h2 x hx
  rw[facI_succ]at hx
  by_cases hn:1<n
  .rw[if_pos hn]at hx
   have hq2:2<=(if p*p>n then n else p):=by split <;> omega
   have hqn:(if p*p>n then n else p)<=10000:=by
    split
    .omega
    .rename_i h
     have:p*2<=p*p:=Nat.mul_le_mul_left p hp
     omega
   generalize (if p*p>n then n else p)=q at*
   obtain⟨s1,s2,s3,s4,s5,s6,s7⟩:=strip_spec q hq2 14 n 0 h1 om_
   by_cases hc:0<(strip 14 n q 0).2
   .rw[if_pos hc]at hx
    rcases List.mem_cons.1 hx with rfl|hx
    .exact⟨hq2,hqn,hc,by omega⟩
    .exact ih _ _ om_ s1 om_ x hx
   .rw[if_neg hc]at hx
    exact ih _ _ om_ s1 om_ x hx
  .rw[if_neg hn]at hx
   simp at hx
theorem fac_mem {n:Nat} (h1:1<=n) (h2:n<=10000):∀x∈fac n,2<=x.1/\x.1<=10000/\1<=x.2/\x.2<=14:=facI_mem 101 n 2 om_ h1 h2
def sgL:Int->List (Nat×Nat)->Int
 |s,[]=>s
 |s,x::r=>if 1<x.2 then 0 else sgL (-s) r
def sg (n:Nat):Int:=sgL 1 (fac n)
def phL:Nat->List (Nat×Nat)->Nat
 |s,[]=>s
 |s,x::r=>phL (s / x.1*(x.1-1)) r
def ph (n:Nat):Nat:=phL n (fac n)
theorem ph_step {s p:Nat} (hp:1<=p):s / p*(p-1)<=s:=by
 have h1:s / p*(p-1)<=s / p*p:=Nat.mul_le_mul_left _ om_
 have h2:=Nat.div_mul_le_self s p
 omega
theorem phL_le:∀(l:List (Nat×Nat)) (s:Nat),(∀x∈l,1<=x.1)->phL s l<=s
 |[],s,_=>Nat.le_refl _
 |x::r,s,h=>by
  simp only[phL]
  exact Nat.le_trans (phL_le r _ (fun y hy=>h y (List.mem_cons_of_mem _ hy))) (ph_step (h x (List.mem_cons_self ..)))
theorem ph_le {n:Nat} (h1:1<=n) (h2:n<=10000):ph n<=n:=phL_le _ _ (fun x hx=>by have:=fac_mem h1 h2 x hx;omega)
end Go.Proofs.YtdmlkjjlgkdnlaaGreatDoor.Lib
