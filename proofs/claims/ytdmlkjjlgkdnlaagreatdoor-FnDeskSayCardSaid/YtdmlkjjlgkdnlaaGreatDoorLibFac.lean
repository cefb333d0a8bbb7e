/- The primes of a number, each followed by how often it divides it, as plain lists: found up to the root.
-/
import Derived.Test.YtdmlkjjlgkdnlaaGreatDoorLib
namespace Go.Proofs.YtdmlkjjlgkdnlaaGreatDoor.Lib
open Go.RowKit Go.Proofs.YtdmlkjjlgkdnlaaGreatDoorW.PrintWords
set_option linter.unusedVariables false
set_option linter.unusedSimpArgs false
def strip:Nat->Nat->Nat->Nat->Nat×Nat
 |0,n,_,c=>(n,c)
 |f+1,n,p,c=>if n%p=0 then strip f (n / p) p (c+1)else(n,c)
def facI:Nat->Nat->Nat->List (Nat×Nat)
 |0,_,_=>[]
 |f+1,n,p=>
  if 1<n then
   (let q:=if p*p>n then n else p
    let s:=strip 14 n q 0
    if 0<s.2 then(q,s.2)::facI f s.1 (q+1)else facI f s.1 (q+1))
  else []
def fac (n:Nat):List (Nat×Nat):=facI 101 n 2
def fints (l:List (Nat×Nat)):List (List Int):=l.map fun x=>[(x.1:Int),(x.2:Int)]
theorem facI_succ (f n p:Nat):facI (f+1) n p=if 1<n then(if 0<(strip 14 n (if p*p>n then n else p) 0).2 then((if p*p>n then n else p),(strip 14 n (if p*p>n then n else p) 0).2)::facI f (strip 14 n (if p*p>n then n else p) 0).1 ((if p*p>n then n else p)+1)else facI f (strip 14 n (if p*p>n then n else p) 0).1 ((if p*p>n then n else p)+1))else []:=rfl
theorem strip_spec (p:Nat) (hp:2<=p):∀(f n c:Nat),1<=n->n<2 ^ f->
  1<=(strip f n p c).1/\(strip f n p c).1<=n/\(strip f n p c).1 ∣ n/\(strip f n p c).1%p≠0/\c<=(strip f n p c).2/\(strip f n p c).2<=c+f/\n=(strip f n p c).1*p ^ ((strip f n p c).2-c):=by
 intro f
 induction f with
 |zero=>intro n c h1 h2;simp at h2;omega
 |succ f ih=>
  intro n c h1 h2
  simp only[strip]
  by_cases h:n%p=0
  .rw[if_pos h]
   have e:=Nat.mul_div_cancel' (Nat.dvd_of_mod_eq_zero h)
   have hq1:1<=n / p:=by
    refine Nat.pos_of_ne_zero (fun hz=>?_)
    rw[hz]at e;omega
   have hq2:n / p<2 ^ f:=by
    have:2*(n / p)<=p*(n / p):=Nat.mul_le_mul_right _ hp
    rw[Nat.pow_succ]at h2
    omega
   obtain⟨a,b,d,g,i,j,l⟩:=ih (n / p) (c+1) hq1 hq2
   refine⟨a,Nat.le_trans b (Nat.div_le_self _ _),Nat.dvd_trans d ⟨p,by rw[Nat.mul_comm];exact e.symm⟩,g,by omega,by omega,?_⟩
   have hs:(strip f (n / p) p (c+1)).2-c=(strip f (n / p) p (c+1)).2-(c+1)+1:=by omega
   rw[hs,Nat.pow_succ,<-Nat.mul_assoc,<-l,Nat.mul_comm]
   exact e.symm
  .rw[if_neg h]
   refine⟨h1,Nat.le_refl _,Nat.dvd_refl _,h,Nat.le_refl _,by omega,?_⟩
   simp
theorem strip_self {n:Nat} (h:2<=n):strip 14 n n 0=(1,1):=by
 have h1:n / n=1:=Nat.div_self om_
 have h2:1%n=1:=Nat.mod_eq_of_lt om_
 simp[strip,h1,h2]
theorem strip_none {f n p c:Nat} (h:n%p≠0):strip f n p c=(n,c):=by
 cases f with
 |zero=>rfl
 |succ f=>simp[strip,h]
theorem facI_one (f p:Nat) {n:Nat} (h:n<=1):facI f n p=[]:=by
 cases f with
 |zero=>rfl
 |succ f=>rw[facI_succ,if_neg om_]
theorem facI_prime (f p:Nat) {n:Nat} (h:1<n) (hp:n<p*p):facI (f+1) n p=[(n,1)]:=by
 have hp':p*p>n:=hp
 rw[facI_succ,if_pos h]
 simp only[if_pos hp']
 rw[strip_self om_,if_pos dc_,facI_one _ _ (Nat.le_refl _)]
theorem facI_length:∀(f n p:Nat),(facI f n p).length <=f:=by
 intro f
 induction f with
 |zero=>intro n p;simp[facI]
 |succ f ih=>
  intro n p
  rw[facI_succ]
  generalize (if p*p>n then n else p)=q
  have:=ih (strip 14 n q 0).1 (q+1)
  split
  .split
   .simp only[List.length_cons]
    omega
   .omega
  .simp
theorem fac_length (n:Nat):(fac n).length <=1000:=by
 have:=facI_length 101 n 2
 unfold fac
 omega
theorem Fq (l:List (Nat×Nat)):(fints l).length =l.length:=by simp[fints]
end Go.Proofs.YtdmlkjjlgkdnlaaGreatDoor.Lib
