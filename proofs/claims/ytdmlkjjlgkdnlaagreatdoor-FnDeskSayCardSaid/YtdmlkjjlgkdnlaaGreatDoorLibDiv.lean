/- The divisors of a number, in ascending order, as plain lists: all of them by trial, and by pairs up to the root.
-/
import Derived.Test.YtdmlkjjlgkdnlaaGreatDoorLib
namespace Go.Proofs.YtdmlkjjlgkdnlaaGreatDoor.Lib
open Go.RowKit Go.Proofs.YtdmlkjjlgkdnlaaGreatDoorW.PrintWords
set_option linter.unusedVariables false
set_option linter.unusedSimpArgs false
def ints (l:List Nat):List Int:=l.map fun(x:Nat)=>(x:Int)
theorem Jv (l:List Nat):(ints l).length =l.length:=by simp[ints]
theorem rd_ints (l:List Nat) (i:Nat):rd (ints l) (i:Int)=((l.getD i 0:Nat):Int):=by
 unfold rd ints
 simp only[Int.toNat_natCast,List.getD_eq_getElem?_getD,List.getElem?_map]
 cases l[i]? <;> rfl
def dvF (n:Nat) (d f:Nat):List Nat:=(List.range' d f).filter fun e=>n%e==0
def dvs (n:Nat):List Nat:=dvF n 1 n
theorem dvF_succ (n d f:Nat):dvF n d (f+1)=if n%d=0 then d::dvF n (d+1) f else dvF n (d+1) f:=by
 unfold dvF
 rw[List.range'_succ,List.filter_cons]
 by_cases h:n%d=0 <;> simp[h]
theorem mem_dvs {n d:Nat}:d∈dvs n↔1<=d/\d<=n/\n%d=0:=by
 unfold dvs dvF
 rw[List.mem_filter,List.mem_range'_1]
 simp only[beq_iff_eq]
 omega
theorem dvF_sorted (n d f:Nat):(dvF n d f).Pairwise (· < ·):=List.Pairwise.filter _ List.pairwise_lt_range'
theorem dvs_sorted (n:Nat):(dvs n).Pairwise (· < ·):=dvF_sorted _ _ _
theorem dvF_length (n d f:Nat):(dvF n d f).length <=f:=by
 unfold dvF
 have:=List.length_filter_le (fun e=>n%e==0) (List.range' d f)
 rwa [List.length_range']at this
def sm (n:Nat):Nat->Nat->List Nat
 |0,_=>[]
 |f+1,d=>if d*d<=n then(if n%d=0 then d::sm n f (d+1)else sm n f (d+1))else []
def bkD (n:Nat):Nat->Nat->List Nat
 |0,_=>[]
 |f+1,d=>if d*d<=n then(if n%d=0 then(if d*d<n then n / d::bkD n f (d+1)else bkD n f (d+1))else bkD n f (d+1))else []
def dv (n:Nat):List Nat:=sm n 101 1++(bkD n 101 1).reverse
theorem mem_sm {n:Nat} (hn:n<=10000):∀(f d x:Nat),d+f=102->(x∈sm n f d↔d<=x/\x*x<=n/\n%x=0):=by
 intro f
 induction f with
 |zero=>
  intro d x hd
  simp only[sm,List.not_mem_nil,false_iff]
  intro ⟨h1,h2,_⟩
  have:102*102<=x*x:=Nat.mul_le_mul om_ om_
  omega
 |succ f ih=>
  intro d x hd
  have ih:=ih (d+1) x om_
  simp only[sm]
  by_cases hc:d*d<=n
  .rw[if_pos hc]
   by_cases hm:n%d=0
   .rw[if_pos hm,List.mem_cons,ih]
    constructor
    .rintro(rfl|⟨h1,h2,h3⟩)
     .exact⟨Nat.le_refl _,hc,hm⟩
     .exact⟨by omega,h2,h3⟩
    .rintro⟨h1,h2,h3⟩
     by_cases e:x=d
     .exact .inl e
     .exact .inr ⟨by omega,h2,h3⟩
   .rw[if_neg hm,ih]
    constructor
    .rintro⟨h1,h2,h3⟩;exact⟨by omega,h2,h3⟩
    .rintro⟨h1,h2,h3⟩
     by_cases e:x=d
     .subst e;exact absurd h3 hm
     .exact⟨by omega,h2,h3⟩
  .rw[if_neg hc]
   simp only[List.not_mem_nil,false_iff]
   intro ⟨h1,h2,_⟩
   have:d*d<=x*x:=Nat.mul_le_mul h1 h1
   omega
theorem mem_bk {n:Nat} (hn:n<=10000):∀(f d x:Nat),d+f=102->(x∈bkD n f d↔∃e,d<=e/\e*e<n/\n%e=0/\x=n / e):=by
 intro f
 induction f with
 |zero=>
  intro d x hd
  simp only[bkD,List.not_mem_nil,false_iff]
  rintro⟨e,h1,h2,_⟩
  have:102*102<=e*e:=Nat.mul_le_mul om_ om_
  omega
 |succ f ih=>
  intro d x hd
  have ih:=ih (d+1) x om_
  simp only[bkD]
  by_cases hc:d*d<=n
  .rw[if_pos hc]
   by_cases hm:n%d=0
   .rw[if_pos hm]
    by_cases hl:d*d<n
    .rw[if_pos hl,List.mem_cons,ih]
     constructor
     .rintro(rfl|⟨e,h1,h2,h3,h4⟩)
      .exact⟨d,Nat.le_refl _,hl,hm,rfl⟩
      .exact⟨e,by omega,h2,h3,h4⟩
     .rintro⟨e,h1,h2,h3,h4⟩
      by_cases he:e=d
      .subst he;exact .inl h4
      .exact .inr ⟨e,by omega,h2,h3,h4⟩
    .rw[if_neg hl,ih]
     constructor
     .rintro⟨e,h1,h2,h3,h4⟩;exact⟨e,by omega,h2,h3,h4⟩
     .rintro⟨e,h1,h2,h3,h4⟩
      by_cases he:e=d
      .subst he;exact absurd h2 hl
      .exact⟨e,by omega,h2,h3,h4⟩
   .rw[if_neg hm,ih]
    constructor
    .rintro⟨e,h1,h2,h3,h4⟩;exact⟨e,by omega,h2,h3,h4⟩
    .rintro⟨e,h1,h2,h3,h4⟩
     by_cases he:e=d
     .subst he;exact absurd h3 hm
     .exact⟨e,by omega,h2,h3,h4⟩
  .rw[if_neg hc]
   simp only[List.not_mem_nil,false_iff]
   rintro⟨e,h1,h2,_⟩
   have:d*d<=e*e:=Nat.mul_le_mul h1 h1
   omega
theorem sm_sorted {n:Nat} (hn:n<=10000):∀(f d:Nat),d+f=102->(sm n f d).Pairwise (· < ·):=by
 intro f
 induction f with
 |zero=>intro d _;exact List.Pairwise.nil
 |succ f ih=>
  intro d hd
  have h:=ih (d+1) om_
  simp only[sm]
  split
  .split
   .refine List.Pairwise.cons (fun x hx=>?_) h
    have:=(mem_sm hn _ _ _ om_).1 hx
    omega
   .exact h
  .exact List.Pairwise.nil
theorem mod_mul {n e:Nat} (h:n%e=0):e*(n / e)=n:=Nat.mul_div_cancel' (Nat.dvd_of_mod_eq_zero h)
theorem bk_sorted {n:Nat} (hn:n<=10000):∀(f d:Nat),d+f=102->1<=d->(bkD n f d).Pairwise (· > ·):=by
 intro f
 induction f with
 |zero=>intro d _ _;exact List.Pairwise.nil
 |succ f ih=>
  intro d hd hd1
  have h:=ih (d+1) om_ om_
  simp only[bkD]
  split
  .split
   .split
    .refine List.Pairwise.cons (fun x hx=>?_) h
     obtain⟨e,h1,h2,h3,rfl⟩:=(mem_bk hn _ _ _ om_).1 hx
     rename_i hm hl
     have e1:=mod_mul hm
     have e2:=mod_mul h3
     show n / e<n / d
     generalize n / e=q1 at*
     generalize n / d=q2 at*
     refine Nat.lt_of_not_le (fun hle=>?_)
     have k1:d*q2<=d*q1:=Nat.mul_le_mul_left d hle
     have k2:(d+1)*q1<=e*q1:=Nat.mul_le_mul_right _ h1
     rw[Nat.succ_mul]at k2
     have:q1=0:=by omega
     subst this
     omega
    .exact h
   .exact h
  .exact List.Pairwise.nil
theorem sorted_ext:∀{l m:List Nat},l.Pairwise (· < ·)->m.Pairwise (· < ·)->(∀x,x∈l↔x∈m)->l=m
 |[],[],_,_,_=>rfl
 |[],b::m,_,_,h=>by have:=(h b).2 (List.mem_cons_self ..);simp at this
 |a::l,[],_,_,h=>by have:=(h a).1 (List.mem_cons_self ..);simp at this
 |a::l,b::m,hl,hm,h=>by
  obtain⟨hl1,hl2⟩:=List.pairwise_cons.1 hl
  obtain⟨hm1,hm2⟩:=List.pairwise_cons.1 hm
  have hab:a=b:=by
   have h1:=(h a).1 (List.mem_cons_self ..)
   have h2:=(h b).2 (List.mem_cons_self ..)
   rcases List.mem_cons.1 h1 with e|h1
   .exact e
   .rcases List.mem_cons.1 h2 with e|h2
    .exact e.symm
    .have:=hl1 b h2;have:=hm1 a h1;omega
  subst hab
  congr 1
  refine sorted_ext hl2 hm2 (fun x=>⟨fun hx=>?_,fun hx=>?_⟩)
  .rcases List.mem_cons.1 ((h x).1 (List.mem_cons_of_mem _ hx))with e|h1
   .subst e;have:=hl1 x hx;omega
   .exact h1
  .rcases List.mem_cons.1 ((h x).2 (List.mem_cons_of_mem _ hx))with e|h1
   .subst e;have:=hm1 x hx;omega
   .exact h1
theorem dv_eq {n:Nat} (h1:1<=n) (hn:n<=10000):dv n=dvs n:=by
 refine sorted_ext ?_ (dvs_sorted n) (fun x=>?_)
 .unfold dv
  rw[List.pairwise_append]
  refine⟨sm_sorted hn 101 1 om_,List.pairwise_reverse.2 (bk_sorted hn 101 1 om_ om_),fun a ha b hb=>?_⟩
  obtain⟨_,ha,_⟩:=(mem_sm hn _ _ _ om_).1 ha
  obtain⟨e,_,he,hm,rfl⟩:=(mem_bk hn _ _ _ om_).1 (List.mem_reverse.1 hb)
  have e2:=mod_mul hm
  generalize n / e=q at*
  refine Nat.lt_of_not_le (fun hle=>?_)
  have k1:q*q<=a*a:=Nat.mul_le_mul hle hle
  have k2:e<q:=by
   refine Nat.lt_of_not_le (fun hqe=>?_)
   have:e*q<=e*e:=Nat.mul_le_mul_left e hqe
   omega
  have k3:(e+1)*q<=q*q:=Nat.mul_le_mul_right q k2
  rw[Nat.succ_mul]at k3
  have:q=0:=by omega
  omega
 .unfold dv
  rw[List.mem_append,List.mem_reverse,mem_sm hn _ _ _ om_,mem_bk hn _ _ _ om_,mem_dvs]
  constructor
  .rintro(⟨a,b,c⟩|⟨e,a,b,c,rfl⟩)
   .have:x*1<=x*x:=Nat.mul_le_mul_left x a
    exact⟨a,by omega,c⟩
   .have e2:=mod_mul c
    refine⟨?_,Nat.div_le_self _ _,?_⟩
    .refine Nat.pos_of_ne_zero (fun h=>?_)
     rw[h]at e2
     omega
    .rw[show n%(n / e)=e*(n / e)%(n / e)by rw[e2]]
     exact Nat.mul_mod_left _ _
  .rintro⟨a,b,c⟩
   by_cases hx:x*x<=n
   .exact .inl ⟨a,hx,c⟩
   .right
    have e2:=mod_mul c
    have hq:1<=n / x:=Nat.div_pos b a
    have hqx:n / x<x:=by
     refine Nat.lt_of_not_le (fun hle=>?_)
     have:x*x<=x*(n / x):=Nat.mul_le_mul_left x hle
     omega
    refine⟨n / x,hq,?_,?_,?_⟩
    .have:n / x*(n / x)<x*(n / x):=Nat.mul_lt_mul_of_pos_right hqx hq
     omega
    .rw[show n%(n / x)=x*(n / x)%(n / x)by rw[e2]]
     exact Nat.mul_mod_left _ _
    .rw[show n / (n / x)=x*(n / x) / (n / x)by rw[e2]]
     exact(Nat.mul_div_cancel _ hq).symm
end Go.Proofs.YtdmlkjjlgkdnlaaGreatDoor.Lib
