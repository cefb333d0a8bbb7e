/- Questions change nothing: of every drawn desk and line the program and the reference agree; the desk behind a line to a desk is one, and unless the answer is ok it is the desk of before; an empty line is answered by what.
-/
import Derived.Test.YtdmlkjjlgkdnlaaGreatDoorPFnDeskLinex36
import Derived.Test.YtdmlkjjlgkdnlaaGreatDoorLib
import Derived.Test.YtdmlkjjlgkdnlaaGreatDoorLibLen
import Derived.Test.YtdmlkjjlgkdnlaaGreatDoorLibRow
import Derived.Test.YtdmlkjjlgkdnlaaGreatDoorLibTxt
import Derived.Test.YtdmlkjjlgkdnlaaGreatDoorLibSplit
import Derived.Lib.Join
import Derived.Test.YtdmlkjjlgkdnlaaGreatDoorLibFac
import Derived.Test.YtdmlkjjlgkdnlaaGreatDoorLibMul
import Derived.Test.YtdmlkjjlgkdnlaaGreatDoorLibGcd
import Derived.Test.YtdmlkjjlgkdnlaaGreatDoorLibDiv
import Derived.Test.YtdmlkjjlgkdnlaaGreatDoorLibLsg
import Derived.Test.YtdmlkjjlgkdnlaaGreatDoorLibRd
import Derived.Test.YtdmlkjjlgkdnlaaGreatDoorLibDraw
namespace Go.Proofs.YtdmlkjjlgkdnlaaGreatDoor.Pure
open Go.RowKit Go.Proofs.YtdmlkjjlgkdnlaaGreatDoor.PFnDeskLine Go.Proofs.YtdmlkjjlgkdnlaaGreatDoorW.PrintWords Go.Proofs.YtdmlkjjlgkdnlaaGreatDoorW.PrintLast Go.Proofs.YtdmlkjjlgkdnlaaGreatDoorW.PrintMore Go.Proofs.YtdmlkjjlgkdnlaaGreatDoor.Lib
set_option linter.unusedVariables false
set_option linter.unusedSimpArgs false
def totL:List (List Int)→Nat
 |[]=>0
 |x::r=>x.length+totL r
theorem totL_row:∀(l:List (List Int)) (x:List Int),x∈l→x.length≤totL l
 |[],_,h=>by cases h
 |y::r,x,h=>by
  simp only[totL]
  rcases List.mem_cons.1 h with rfl|h
  ·omega
  ·have:=totL_row r x h;omega
theorem totL_le (b:Nat):∀(l:List (List Int)),(∀x∈l,x.length≤b)→totL l≤l.length*b
 |[],_=>by simp[totL]
 |y::r,h=>by
  have h1:=totL_le b r (fun x hx=>h x (List.mem_cons_of_mem _ hx))
  have h2:=h y (List.mem_cons_self ..)
  simp only[totL,List.length_cons,Nat.add_mul,Nat.one_mul]
  omega
def szD (a:List Int) (l:List (List Int)):Nat:=a.length+l.length+totL l
theorem szD_row {a:List Int} {l:List (List Int)} {b:Nat} (h:szD a l≤b):a.length≤b∧l.length≤b∧totL l≤b∧∀x∈l,x.length≤b:=by
 unfold szD at h
 exact⟨by omega,by omega,by omega,fun x hx=>by have:=totL_row l x hx;omega⟩
theorem deskB_sz {a:List Int} {l:List (List Int)} (h:deskB a l=true):szD a l≤1000:=by
 obtain⟨d1,d2,d3⟩:=deskB_len h
 have:=totL_le 24 l (fun x hx=>by have:=d3 x hx;omega)
 unfold szD
 omega
theorem l1In_eq (a b c:Int):spec_l1In.f a b c=some (decide (b≤a∧a≤c)):=by
 unfold spec_l1In.f
 by_cases h:a≥b
 ·rw[if_pos h];simp[h]
 ·rw[if_neg h];congr 1;symm;simp;intro h2;omega
theorem spec_rowL (row:List Int) (hl:row.length≤1000000000):∀f i,i+f=row.length→Ev (fun k=>spec_RowOk.l0 k row (i:Int)) (allF (r1 row) f i&&((row.length:Int)==24)):=by
 intro f
 induction f with
 |zero=>
  intro i h
  refine Es (fun k=>?_) (Ev.now _)
  simp only[spec_RowOk.l0]
  rw[if_neg om_]
  simp[allF]
 |succ f ih=>
  intro i h
  by_cases e: -1000000000≤row.getD i 0∧row.getD i 0≤1000000000
  ·have ih:=ih (i+1) om_
   have ek:r1 row i=true:=decide_eq_true e
   simp only[allF,ek,Bool.true_and]
   refine Es (fun k=>?_) ih
   simp only[spec_RowOk.l0,rdn,l1In_eq,Option.bind_some]
   rw[if_pos om_,if_pos om_,decide_eq_true e,if_pos rfl,w64 om_ om_]
   rfl
  ·have ek:r1 row i=false:=decide_eq_false e
   simp only[allF,ek,Bool.false_and]
   refine Es (fun k=>?_) (Ev.now _)
   simp only[spec_RowOk.l0,rdn,l1In_eq,Option.bind_some]
   rw[if_pos om_,if_pos om_,decide_eq_false e,if_neg (by simp)]
theorem spec_rowOk (row:List Int) (hl:row.length≤1000000000):Ev (fun k=>spec_RowOk.f k row) (rowB row):=spec_rowL row hl row.length 0 om_
def s1 (row:List Int) (i:Nat):Bool:=decide (-10000≤row.getD i 0∧row.getD i 0≤10000)
def smallB (row:List Int):Bool:=allF (s1 row) row.length 0&&((row.length:Int)==24)
theorem impl_smallL (row:List Int) (hl:row.length≤1000000000):∀f i,i+f=row.length→Ev (fun k=>impl_within.l0 k row 10000 row (row.length:Int) (i:Int)) (allF (s1 row) f i&&((row.length:Int)==24)):=by
 intro f
 induction f with
 |zero=>
  intro i h
  refine Es (fun k=>?_) (Ev.now _)
  simp only[impl_within.l0]
  rw[if_neg om_]
  simp[allF]
 |succ f ih=>
  intro i h
  have ew:wrap64 (-10000)= -10000:=by decide+kernel
  by_cases e: -10000≤row.getD i 0∧row.getD i 0≤10000
  ·have ih:=ih (i+1) om_
   have ek:s1 row i=true:=decide_eq_true e
   simp only[allF,ek,Bool.true_and]
   refine Es (fun k=>?_) ih
   simp only[impl_within.l0,rdn,ew]
   rw[if_pos om_,if_pos om_,if_pos om_,if_neg om_,if_neg om_,w64 om_ om_]
   rfl
  ·have ek:s1 row i=false:=decide_eq_false e
   simp only[allF,ek,Bool.false_and]
   refine Es (fun k=>?_) (Ev.now _)
   simp only[impl_within.l0,rdn,ew]
   rw[if_pos om_,if_pos om_,if_pos om_]
   by_cases e2:row.getD i 0< -10000
   ·rw[if_pos e2]
   ·rw[if_neg e2,if_pos om_]
theorem impl_small (row:List Int) (hl:row.length≤1000000000):Ev (fun k=>impl_small.f k row) (smallB row):=by
 have h:Ev (fun k=>impl_within.f k row 10000) (smallB row):=impl_smallL row hl row.length 0 om_
 unfold impl_small.f
 exact Eb h (Ev.now _)
theorem small_len {row:List Int} (h:smallB row=true):row.length=24:=by
 unfold smallB at h
 simp only[Bool.and_eq_true,beq_iff_eq]at h
 omega
theorem small_at {row:List Int} (h:smallB row=true) (i:Nat): -10000≤row.getD i 0∧row.getD i 0≤10000:=by
 have hl:=small_len h
 unfold smallB at h
 simp only[Bool.and_eq_true]at h
 by_cases hi:i<row.length
 ·exact of_decide_eq_true (allF_at _ _ _ h.1 i om_ om_)
 ·rw[List.getD_eq_getElem?_getD,List.getElem?_eq_none om_]
  simp
theorem allF_of (p:Nat→Bool):∀f i,(∀j,i≤j→j<i+f→p j=true)→allF p f i=true:=by
 intro f
 induction f with
 |zero=>intro i _;rfl
 |succ f ih=>
  intro i h
  simp only[allF,h i om_ om_,ih (i+1) (fun j h1 h2=>h j om_ om_),Bool.and_self]
theorem small_row {row:List Int} (h:smallB row=true):rowB row=true:=by
 have hl:=small_len h
 unfold rowB
 simp only[Bool.and_eq_true,beq_iff_eq]
 refine⟨allF_of _ _ _ (fun j _ _=>?_),by omega⟩
 have:=small_at h j
 unfold r1
 simp only[decide_eq_true_eq]
 omega
set_option maxRecDepth 100000
theorem len24 {f:List Int} (h:f.length=24):∃a1 a2 a3 a4 a5 a6 a7 a8 a9 a10 a11 a12 a13 a14 a15 a16 a17 a18 a19 a20 a21 a22 a23 a24:Int,f=[a1,a2,a3,a4,a5,a6,a7,a8,a9,a10,a11,a12,a13,a14,a15,a16,a17,a18,a19,a20,a21,a22,a23,a24]:=by
 match f,h with
 |[a1,a2,a3,a4,a5,a6,a7,a8,a9,a10,a11,a12,a13,a14,a15,a16,a17,a18,a19,a20,a21,a22,a23,a24],_=>exact⟨a1,a2,a3,a4,a5,a6,a7,a8,a9,a10,a11,a12,a13,a14,a15,a16,a17,a18,a19,a20,a21,a22,a23,a24,rfl⟩
def DN (n:Nat):List Nat:=(List.range (n+1)).filter (fun d=>decide (1≤d)&&n%d==0)
def PT:List (List (Nat×Nat)):=(List.range 24).map (fun i=>(DN (i+1)).map (fun d=>(d-1,(i+1) / d-1)))
def PU:List (List (Nat×Nat)):=(List.range 24).map (fun i=>((DN (i+1)).filter (fun d=>Nat.gcd d ((i+1) / d)==1)).map (fun d=>(d-1,(i+1) / d-1)))
def addI (f g:List Int) (z:Int) (p:Nat×Nat):Int:=wrap64 (z+wrap64 (f.getD p.1 0*g.getD p.2 0))
def allI (P:List (List (Nat×Nat))) (f g:List Int):List Int:=P.map (fun l=>l.foldl (addI f g) 0)
theorem tsame (a1 a2 a3 a4 a5 a6 a7 a8 a9 a10 a11 a12 a13 a14 a15 a16 a17 a18 a19 a20 a21 a22 a23 a24 b1 b2 b3 b4 b5 b6 b7 b8 b9 b10 b11 b12 b13 b14 b15 b16 b17 b18 b19 b20 b21 b22 b23 b24:Int):spec_l2Times.f 300 [a1,a2,a3,a4,a5,a6,a7,a8,a9,a10,a11,a12,a13,a14,a15,a16,a17,a18,a19,a20,a21,a22,a23,a24] [b1,b2,b3,b4,b5,b6,b7,b8,b9,b10,b11,b12,b13,b14,b15,b16,b17,b18,b19,b20,b21,b22,b23,b24]=impl_rowBy_TimesOf.l0 100 [a1,a2,a3,a4,a5,a6,a7,a8,a9,a10,a11,a12,a13,a14,a15,a16,a17,a18,a19,a20,a21,a22,a23,a24] [b1,b2,b3,b4,b5,b6,b7,b8,b9,b10,b11,b12,b13,b14,b15,b16,b17,b18,b19,b20,b21,b22,b23,b24] (List.replicate (24:Int).toNat 0) 0:=by kernel_rfl
theorem tform (a1 a2 a3 a4 a5 a6 a7 a8 a9 a10 a11 a12 a13 a14 a15 a16 a17 a18 a19 a20 a21 a22 a23 a24 b1 b2 b3 b4 b5 b6 b7 b8 b9 b10 b11 b12 b13 b14 b15 b16 b17 b18 b19 b20 b21 b22 b23 b24:Int):spec_l2Times.f 300 [a1,a2,a3,a4,a5,a6,a7,a8,a9,a10,a11,a12,a13,a14,a15,a16,a17,a18,a19,a20,a21,a22,a23,a24] [b1,b2,b3,b4,b5,b6,b7,b8,b9,b10,b11,b12,b13,b14,b15,b16,b17,b18,b19,b20,b21,b22,b23,b24]=some (allI PT [a1,a2,a3,a4,a5,a6,a7,a8,a9,a10,a11,a12,a13,a14,a15,a16,a17,a18,a19,a20,a21,a22,a23,a24] [b1,b2,b3,b4,b5,b6,b7,b8,b9,b10,b11,b12,b13,b14,b15,b16,b17,b18,b19,b20,b21,b22,b23,b24]):=by kernel_rfl
theorem times_row {f g:List Int} (hf:f.length=24) (hg:g.length=24):Ev (fun k=>spec_l2Times.f k f g) (allI PT f g)∧Ev (fun k=>impl_rowBy_TimesOf.l0 k f g (List.replicate (24:Int).toNat 0) 0) (allI PT f g):=by
 have h1:spec_l2Times.f 300 f g=some (allI PT f g):=by
  obtain⟨a1,a2,a3,a4,a5,a6,a7,a8,a9,a10,a11,a12,a13,a14,a15,a16,a17,a18,a19,a20,a21,a22,a23,a24,rfl⟩:=len24 hf
  obtain⟨b1,b2,b3,b4,b5,b6,b7,b8,b9,b10,b11,b12,b13,b14,b15,b16,b17,b18,b19,b20,b21,b22,b23,b24,rfl⟩:=len24 hg
  exact tform ..
 have h2:spec_l2Times.f 300 f g=impl_rowBy_TimesOf.l0 100 f g (List.replicate (24:Int).toNat 0) 0:=by
  obtain⟨a1,a2,a3,a4,a5,a6,a7,a8,a9,a10,a11,a12,a13,a14,a15,a16,a17,a18,a19,a20,a21,a22,a23,a24,rfl⟩:=len24 hf
  obtain⟨b1,b2,b3,b4,b5,b6,b7,b8,b9,b10,b11,b12,b13,b14,b15,b16,b17,b18,b19,b20,b21,b22,b23,b24,rfl⟩:=len24 hg
  exact tsame ..
 exact⟨Ev.of (spec_l2Times.mono _ _) h1,Ev.of (fun k=>impl_rowBy_TimesOf.mono_l k _ _ _ _) (h2▸h1)⟩
theorem usame (a1 a2 a3 a4 a5 a6 a7 a8 a9 a10 a11 a12 a13 a14 a15 a16 a17 a18 a19 a20 a21 a22 a23 a24 b1 b2 b3 b4 b5 b6 b7 b8 b9 b10 b11 b12 b13 b14 b15 b16 b17 b18 b19 b20 b21 b22 b23 b24:Int):spec_UnitaryTimes.l0 2000 [a1,a2,a3,a4,a5,a6,a7,a8,a9,a10,a11,a12,a13,a14,a15,a16,a17,a18,a19,a20,a21,a22,a23,a24] [b1,b2,b3,b4,b5,b6,b7,b8,b9,b10,b11,b12,b13,b14,b15,b16,b17,b18,b19,b20,b21,b22,b23,b24] true [] 1=(impl_rowBy_UnitaryTimes.l0 200 [a1,a2,a3,a4,a5,a6,a7,a8,a9,a10,a11,a12,a13,a14,a15,a16,a17,a18,a19,a20,a21,a22,a23,a24] [b1,b2,b3,b4,b5,b6,b7,b8,b9,b10,b11,b12,b13,b14,b15,b16,b17,b18,b19,b20,b21,b22,b23,b24] (List.replicate (24:Int).toNat 0) 0).bind fun t=>some (t,true):=by kernel_rfl
theorem uform (a1 a2 a3 a4 a5 a6 a7 a8 a9 a10 a11 a12 a13 a14 a15 a16 a17 a18 a19 a20 a21 a22 a23 a24 b1 b2 b3 b4 b5 b6 b7 b8 b9 b10 b11 b12 b13 b14 b15 b16 b17 b18 b19 b20 b21 b22 b23 b24:Int):impl_rowBy_UnitaryTimes.l0 200 [a1,a2,a3,a4,a5,a6,a7,a8,a9,a10,a11,a12,a13,a14,a15,a16,a17,a18,a19,a20,a21,a22,a23,a24] [b1,b2,b3,b4,b5,b6,b7,b8,b9,b10,b11,b12,b13,b14,b15,b16,b17,b18,b19,b20,b21,b22,b23,b24] (List.replicate (24:Int).toNat 0) 0=some (allI PU [a1,a2,a3,a4,a5,a6,a7,a8,a9,a10,a11,a12,a13,a14,a15,a16,a17,a18,a19,a20,a21,a22,a23,a24] [b1,b2,b3,b4,b5,b6,b7,b8,b9,b10,b11,b12,b13,b14,b15,b16,b17,b18,b19,b20,b21,b22,b23,b24]):=by kernel_rfl
theorem unitary_row {f g:List Int} (hf:f.length=24) (hg:g.length=24):Ev (fun k=>spec_UnitaryTimes.l0 k f g true [] 1) (allI PU f g,true)∧Ev (fun k=>impl_rowBy_UnitaryTimes.l0 k f g (List.replicate (24:Int).toNat 0) 0) (allI PU f g):=by
 have h1:impl_rowBy_UnitaryTimes.l0 200 f g (List.replicate (24:Int).toNat 0) 0=some (allI PU f g):=by
  obtain⟨a1,a2,a3,a4,a5,a6,a7,a8,a9,a10,a11,a12,a13,a14,a15,a16,a17,a18,a19,a20,a21,a22,a23,a24,rfl⟩:=len24 hf
  obtain⟨b1,b2,b3,b4,b5,b6,b7,b8,b9,b10,b11,b12,b13,b14,b15,b16,b17,b18,b19,b20,b21,b22,b23,b24,rfl⟩:=len24 hg
  exact uform ..
 have h2:spec_UnitaryTimes.l0 2000 f g true [] 1=(impl_rowBy_UnitaryTimes.l0 200 f g (List.replicate (24:Int).toNat 0) 0).bind fun t=>some (t,true):=by
  obtain⟨a1,a2,a3,a4,a5,a6,a7,a8,a9,a10,a11,a12,a13,a14,a15,a16,a17,a18,a19,a20,a21,a22,a23,a24,rfl⟩:=len24 hf
  obtain⟨b1,b2,b3,b4,b5,b6,b7,b8,b9,b10,b11,b12,b13,b14,b15,b16,b17,b18,b19,b20,b21,b22,b23,b24,rfl⟩:=len24 hg
  exact usame ..
 rw[h1]at h2
 exact⟨Ev.of (fun k=>(spec_UnitaryTimes.mono_l k).1 _ _ _ _ _) h2,Ev.of (fun k=>impl_rowBy_UnitaryTimes.mono_l k _ _ _ _) h1⟩
def SmallR (f:List Int):Prop:=∀i, -10000≤f.getD i 0∧f.getD i 0≤10000
theorem mul_small {x y:Int} (h1: -10000≤x) (h2:x≤10000) (h3: -10000≤y) (h4:y≤10000): -100000000≤x*y∧x*y≤100000000:=by
 have a1:0≤(10000-x)*(10000-y):=Int.mul_nonneg om_ om_
 have a2:0≤(10000+x)*(10000+y):=Int.mul_nonneg om_ om_
 have a3:0≤(10000-x)*(10000+y):=Int.mul_nonneg om_ om_
 have a4:0≤(10000+x)*(10000-y):=Int.mul_nonneg om_ om_
 have e1:(10000-x)*(10000-y)=100000000-10000*y-10000*x+x*y:=by
  rw[Int.sub_mul,Int.mul_sub,Int.mul_sub];omega
 have e2:(10000+x)*(10000+y)=100000000+10000*y+10000*x+x*y:=by
  rw[Int.add_mul,Int.mul_add,Int.mul_add];omega
 have e3:(10000-x)*(10000+y)=100000000+10000*y-10000*x-x*y:=by
  rw[Int.sub_mul,Int.mul_add,Int.mul_add];omega
 have e4:(10000+x)*(10000-y)=100000000-10000*y+10000*x-x*y:=by
  rw[Int.add_mul,Int.mul_sub,Int.mul_sub];omega
 omega
theorem addI_sum {f g:List Int} (hf:SmallR f) (hg:SmallR g):∀(l:List (Nat×Nat)) (z:Int), -1000000000≤z→z≤1000000000→l.length≤100→l.foldl (addI f g) z=z+(l.map (fun p=>f.getD p.1 0*g.getD p.2 0)).sum ∧z-100000000*l.length≤l.foldl (addI f g) z∧l.foldl (addI f g) z≤z+100000000*l.length:=by
 suffices H:∀(l:List (Nat×Nat)) (z:Int), -100000000000+100000000*l.length≤z→z≤100000000000-100000000*l.length→l.foldl (addI f g) z=z+(l.map (fun p=>f.getD p.1 0*g.getD p.2 0)).sum ∧z-100000000*l.length≤l.foldl (addI f g) z∧l.foldl (addI f g) z≤z+100000000*l.length from fun l z h1 h2 h3=>H l z om_ om_
 intro l
 induction l with
 |nil=>intro z h1 h2;simp
 |cons p l ih=>
  intro z h1 h2
  rw[List.length_cons]at h1 h2
  obtain⟨m1,m2⟩:=mul_small (hf p.1).1 (hf p.1).2 (hg p.2).1 (hg p.2).2
  have ea:addI f g z p=z+f.getD p.1 0*g.getD p.2 0:=by
   unfold addI
   rw[w64 (n:=f.getD p.1 0*g.getD p.2 0) om_ om_]
   generalize f.getD p.1 0*g.getD p.2 0=q at*
   exact w64 om_ om_
  obtain⟨i1,i2,i3⟩:=ih (z+f.getD p.1 0*g.getD p.2 0) om_ om_
  rw[List.foldl_cons,ea,List.map_cons,List.sum_cons,List.length_cons]
  generalize (l.map (fun p=>f.getD p.1 0*g.getD p.2 0)).sum =s at*
  generalize f.getD p.1 0*g.getD p.2 0=q at*
  generalize l.foldl (addI f g) (z+q)=y at*
  refine⟨by omega,by omega,by omega⟩
theorem allI_len (P:List (List (Nat×Nat))) (f g:List Int):(allI P f g).length =P.length:=List.length_map ..
theorem allI_at {f g:List Int} (hf:SmallR f) (hg:SmallR g) (P:List (List (Nat×Nat))) (hP:∀l∈P,l.length≤8) (i:Nat): -800000000≤(allI P f g).getD i 0∧(allI P f g).getD i 0≤800000000:=by
 unfold allI
 rw[List.getD_eq_getElem?_getD,List.getElem?_map]
 cases h:P[i]? with
 |none=>simp
 |some l=>
  have h8:=hP l (List.mem_of_getElem? h)
  obtain⟨_,h2,h3⟩:=addI_sum hf hg l 0 om_ om_ om_
  simp only[Option.map_some,Option.getD_some]
  omega
theorem PT_8:∀l∈PT,l.length≤8:=by
 have h:PT.all (fun l=>decide (l.length≤8))=true:=by decide+kernel
 exact fun l hl=>of_decide_eq_true (List.all_eq_true.1 h l hl)
theorem PU_8:∀l∈PU,l.length≤8:=by
 have h:PU.all (fun l=>decide (l.length≤8))=true:=by decide+kernel
 exact fun l hl=>of_decide_eq_true (List.all_eq_true.1 h l hl)
theorem sp_tl (f g:List Int) (hf:f.length=24) (hg:g.length=24) {t:List Int} (ht:Ev (fun k=>spec_l2Times.f k f g) t):∀n i:Nat,i+n=24→Ev (fun k=>spec_TimesOf.l0 k f g (i:Int)) (cond (allF (fun i=>s1 f i&&s1 g i) n i) (t,true) ([],false)):=by
 intro n
 induction n with
 |zero=>
  intro i h
  refine Ev.up ?_
  simp only[spec_TimesOf.l0,allF]
  exact En om_ (Eb ht (Ev.now _))
 |succ n ih=>
  intro i h
  have ih:=ih (i+1) om_
  have e3:wrap64 ((i:Int)+1)=((i+1:Nat):Int):=w64 om_ om_
  simp only[allF]
  by_cases c1: -10000≤f.getD i 0∧f.getD i 0≤10000
  ·by_cases c2: -10000≤g.getD i 0∧g.getD i 0≤10000
   ·rw[show s1 f i=true from decide_eq_true c1,show s1 g i=true from decide_eq_true c2]
    simp only[Bool.true_and]
    refine Ev.up ?_
    simp only[spec_TimesOf.l0,l1In_eq,rdn,e3]
    clear e3
    exact Ep om_ (Ep om_ (Ep om_ (Ec rfl (Ep (decide_eq_true c1) (Ep om_ (Ec rfl (Ep (decide_eq_true c2) ih)))))))
   ·rw[show s1 g i=false from decide_eq_false c2]
    simp only[Bool.and_false,Bool.false_and,cond_false]
    refine Ev.up ?_
    simp only[spec_TimesOf.l0,l1In_eq,rdn,e3]
    clear e3
    exact Ep om_ (Ep om_ (Ep om_ (Ec rfl (Ep (decide_eq_true c1) (Ep om_ (Ec rfl (En (fun h=>c2 (of_decide_eq_true h)) (Ev.now _))))))))
  ·rw[show s1 f i=false from decide_eq_false c1]
   simp only[Bool.false_and,cond_false]
   refine Ev.up ?_
   simp only[spec_TimesOf.l0,l1In_eq,rdn,e3]
   clear e3
   exact Ep om_ (Ep om_ (Ep om_ (Ec rfl (En (fun h=>c1 (of_decide_eq_true h)) (Ev.now _)))))
theorem small_and {f g:List Int} (hf:f.length=24) (hg:g.length=24):allF (fun i=>s1 f i&&s1 g i) 24 0=(smallB f&&smallB g):=by
 rw[allF_and]
 unfold smallB
 rw[hf,hg]
 simp
theorem times_both (f g:List Int) (hf:f.length≤1000000) (hg:g.length≤1000000):
  (smallB f=true∧smallB g=true∧Ev (fun k=>spec_TimesOf.f k f g) (allI PT f g,true)∧Ev (fun k=>impl_TimesOf.f k f g) (allI PT f g,true))∨
  ((smallB f&&smallB g)=false∧Ev (fun k=>spec_TimesOf.f k f g) ([],false)∧Ev (fun k=>impl_TimesOf.f k f g) ([],false)):=by
 have ef:=impl_small f om_
 have eg:=impl_small g om_
 have rf:=spec_rowOk f om_
 have rg:=spec_rowOk g om_
 have j1:Ev (fun k=>spec_TimesOf.j0 k f g true) ([],false):=by
  refine Ev.up ?_
  simp only[spec_TimesOf.j0]
  exact Ep trivial (Ev.now _)
 cases sf:smallB f with
 |true=>
  have lf:=small_len sf
  rw[sf]at ef
  rw[small_row sf]at rf
  cases sg:smallB g with
  |true=>
   have lg:=small_len sg
   rw[sg]at eg
   rw[small_row sg]at rg
   obtain⟨h1,h3⟩:=times_row lf lg
   refine .inl ⟨rfl,rfl,?_,?_⟩
   ·unfold spec_TimesOf.f
    have h:=sp_tl f g lf lg h1 24 0 om_
    rw[small_and lf lg,sf,sg]at h
    refine Eb rf (Ep rfl (Eb rg (Ev.up ?_)))
    simp only[spec_TimesOf.j0]
    exact En (by simp) h
   ·unfold impl_TimesOf.f
    exact Eb ef (Ep rfl (Eb eg (Ep rfl (Eb h3 (Ev.now _)))))
  |false=>
   rw[sg]at eg
   refine .inr ⟨rfl,?_,?_⟩
   ·unfold spec_TimesOf.f
    cases hg2:rowB g with
    |false=>
     rw[hg2]at rg
     exact Eb rf (Ep rfl (Eb rg j1))
    |true=>
     rw[hg2]at rg
     have lg:=rowB_len hg2
     obtain⟨h1,h3⟩:=times_row lf lg
     have h:=sp_tl f g lf lg h1 24 0 om_
     rw[small_and lf lg,sf,sg]at h
     refine Eb rf (Ep rfl (Eb rg (Ev.up ?_)))
     simp only[spec_TimesOf.j0]
     exact En (by simp) h
   ·unfold impl_TimesOf.f
    exact Eb ef (Ep rfl (Eb eg (En (by simp) (Ev.now _))))
 |false=>
  rw[sf]at ef
  refine .inr ⟨rfl,?_,?_⟩
  ·unfold spec_TimesOf.f
   cases hf2:rowB f with
   |false=>
    rw[hf2]at rf
    exact Eb rf (En (by simp) j1)
   |true=>
    rw[hf2]at rf
    cases hg2:rowB g with
    |false=>
     rw[hg2]at rg
     exact Eb rf (Ep rfl (Eb rg j1))
    |true=>
     rw[hg2]at rg
     have lf:=rowB_len hf2
     have lg:=rowB_len hg2
     obtain⟨h1,h3⟩:=times_row lf lg
     have h:=sp_tl f g lf lg h1 24 0 om_
     rw[small_and lf lg,sf]at h
     refine Eb rf (Ep rfl (Eb rg (Ev.up ?_)))
     simp only[spec_TimesOf.j0]
     exact En (by simp) h
  ·unfold impl_TimesOf.f
   exact Eb ef (En (by simp) (Ev.now _))
theorem unitary_both (f g:List Int) (hf:f.length≤1000000) (hg:g.length≤1000000):
  (smallB f=true∧smallB g=true∧Ev (fun k=>spec_UnitaryTimes.f k f g) (allI PU f g,true)∧Ev (fun k=>impl_UnitaryTimes.f k f g) (allI PU f g,true))∨
  ((smallB f&&smallB g)=false∧Ev (fun k=>spec_UnitaryTimes.f k f g) ([],false)∧Ev (fun k=>impl_UnitaryTimes.f k f g) ([],false)):=by
 have ef:=impl_small f om_
 have eg:=impl_small g om_
 rcases times_both f g hf hg with⟨sf,sg,h1,_⟩|⟨s,h1,_⟩
 ·obtain⟨u1,u2⟩:=unitary_row (small_len sf) (small_len sg)
  rw[sf]at ef
  rw[sg]at eg
  refine .inl ⟨sf,sg,?_,?_⟩
  ·unfold spec_UnitaryTimes.f
   exact Eb h1 u1
  ·unfold impl_UnitaryTimes.f
   exact Eb ef (Ep rfl (Eb eg (Ep rfl (Eb u2 (Ev.now _)))))
 ·refine .inr ⟨s,?_,?_⟩
  ·unfold spec_UnitaryTimes.f
   refine Eb h1 (Ev.up ?_)
   simp only[spec_UnitaryTimes.l0]
   refine Ep dc_ (Ev.up ?_)
   simp only[spec_UnitaryTimes.j1]
   exact En (by simp) (Ev.now _)
  ·unfold impl_UnitaryTimes.f
   cases sf:smallB f with
   |false=>
    rw[sf]at ef
    exact Eb ef (En (by simp) (Ev.now _))
   |true=>
    rw[sf]at ef s
    rw[Bool.true_and]at s
    rw[s]at eg
    exact Eb ef (Ep rfl (Eb eg (En (by simp) (Ev.now _))))
def row0:List Int:=[1,0,0,0,0,0,0,0,0,0,0,0,0,0,0,0,0,0,0,0,0,0,0,0]
theorem namedB_all:(List.range 8).all (fun n=>match spec_NamedRow.f 200 (n:Int),impl_NamedRow.f 300 (n:Int)with|some r,some q=>r.length==24&&r==q|_,_=>false)=true:=by decide+kernel
def ones:List Int:=[1,1,1,1,1,1,1,1,1,1,1,1,1,1,1,1,1,1,1,1,1,1,1,1]
theorem named1:impl_NamedRow.f 300 1=some ones:=by decide+kernel
theorem named0:spec_NamedRow.f 200 0=some row0:=by decide+kernel
theorem named_both (t:Int):∃r,(r.length=24∨r=[])∧(t=0→r=row0)∧(t=1→r=ones)∧Ev (fun k=>spec_NamedRow.f k t) r∧Ev (fun k=>impl_NamedRow.f k t) r:=by
 by_cases h:0≤t∧t≤7
 ·have h1:=List.all_eq_true.1 namedB_all t.toNat (List.mem_range.2 om_)
  rw[Int.toNat_of_nonneg h.1]at h1
  split at h1
  ·rename_i r q hr hq
   simp only[Bool.and_eq_true,beq_iff_eq]at h1
   obtain⟨h2,rfl⟩:=h1
   refine⟨r,.inl h2,fun h0=>?_,fun h0=>?_,Ev.of (spec_NamedRow.mono t) hr,Ev.of (impl_NamedRow.mono t) hq⟩
   ·subst h0
    exact Option.some.inj (hr.symm.trans named0)
   ·subst h0
    exact Option.some.inj (hq.symm.trans named1)
  ·cases h1
 ·refine⟨[],.inr rfl,fun h0=>by omega,fun h0=>by omega,?_,?_⟩
  ·unfold spec_NamedRow.f
   refine Ev.up ?_
   simp only[spec_NamedRow.l0,l1In_eq,decide_eq_false h]
   exact Ep dc_ (Ec rfl (En (by simp) (Ev.now _)))
  ·unfold impl_NamedRow.f
   by_cases h0:t<0
   ·exact Ep h0 (Ev.now _)
   ·exact En h0 (Ep om_ (Ev.now _))
theorem impl_rowL (row:List Int) (hl:row.length≤1000000000):∀f i,i+f=row.length→Ev (fun k=>impl_within.l0 k row 1000000000 row (row.length:Int) (i:Int)) (allF (r1 row) f i&&((row.length:Int)==24)):=by
 intro f
 induction f with
 |zero=>
  intro i h
  refine Es (fun k=>?_) (Ev.now _)
  simp only[impl_within.l0]
  rw[if_neg om_]
  simp[allF]
 |succ f ih=>
  intro i h
  have ew:wrap64 (-1000000000)= -1000000000:=by decide+kernel
  by_cases e: -1000000000≤row.getD i 0∧row.getD i 0≤1000000000
  ·have ih:=ih (i+1) om_
   have ek:r1 row i=true:=decide_eq_true e
   simp only[allF,ek,Bool.true_and]
   refine Es (fun k=>?_) ih
   simp only[impl_within.l0,rdn,ew]
   rw[if_pos om_,if_pos om_,if_pos om_,if_neg om_,if_neg om_,w64 om_ om_]
   rfl
  ·have ek:r1 row i=false:=decide_eq_false e
   simp only[allF,ek,Bool.false_and]
   refine Es (fun k=>?_) (Ev.now _)
   simp only[impl_within.l0,rdn,ew]
   rw[if_pos om_,if_pos om_,if_pos om_]
   by_cases e2:row.getD i 0< -1000000000
   ·rw[if_pos e2]
   ·rw[if_neg e2,if_pos om_]
theorem impl_rowOk (row:List Int) (hl:row.length≤1000000000):Ev (fun k=>impl_RowOk.f k row) (rowB row):=by
 have h:Ev (fun k=>impl_within.f k row 1000000000) (rowB row):=impl_rowL row hl row.length 0 om_
 unfold impl_RowOk.f
 exact Eb h (Ev.now _)
def subI (g x:List Int) (z:Int) (p:Nat×Nat):Int:=wrap64 (z-wrap64 (g.getD p.1 0*x.getD p.2 0))
theorem subI_comm (g x:List Int) (z:Int) (p q:Nat×Nat):subI g x (subI g x z p) q=subI g x (subI g x z q) p:=by
 unfold subI
 generalize wrap64 (g.getD p.1 0*x.getD p.2 0)=a
 generalize wrap64 (g.getD q.1 0*x.getD q.2 0)=b
 unfold wrap64
 omega
theorem subI_out (g x:List Int):∀(l:List (Nat×Nat)) (z:Int) (p:Nat×Nat),subI g x (l.foldl (subI g x) z) p=l.foldl (subI g x) (subI g x z p)
 |[],_,_=>rfl
 |q::l,z,p=>by
  rw[List.foldl_cons,List.foldl_cons,subI_out g x l _ p,subI_comm]
theorem subI_rev (g x:List Int):∀(l:List (Nat×Nat)) (z:Int),l.reverse.foldl (subI g x) z=l.foldl (subI g x) z
 |[],_=>rfl
 |q::l,z=>by
  rw[List.reverse_cons,List.foldl_append,subI_rev g x l z,List.foldl_cons,List.foldl_nil,List.foldl_cons,subI_out]
def ps (n:Nat):Nat→Nat→List (Nat×Nat)
 |0,_=>[]
 |m+1,d=>if n%d=0 then(d-1,n / d-1)::ps n m (d+1)else ps n m (d+1)
def pin (n:Nat) (s:List Nat):List (Nat×Nat):=(s.filter (fun d=>decide (d<n))).map (fun d=>(n / d-1,d-1))
def nzs (t:List Nat):List Int:=t.map (fun d:Nat=>(d:Int))
theorem nzs_len (t:List Nat):(nzs t).length =t.length:=List.length_map ..
theorem dn_all:(List.range 24).all (fun i=>(pin (i+1) (DN (i+1))==(ps (i+1) i 2).reverse)&&(impl_divisors.f 100 ((i+1:Nat):Int)==some (nzs (DN (i+1)))))=true:=by decide+kernel
theorem sp_l1 (f g x:List Int) (hg:g.length=24) (hx:x.length=24) (n:Nat) (h2:n≤24):∀m d:Nat,1≤d→d+m=n+1→∀(z:Int) (r:List Int),Ev (fun k=>spec_l3Divided.l1 k f g x (n:Int) ((ps n m d).foldl (subI g x) z) ((n+1:Nat):Int)) r→Ev (fun k=>spec_l3Divided.l1 k f g x (n:Int) z (d:Int)) r:=by
 intro m
 induction m with
 |zero=>
  intro d hd h z r he
  have e:d=n+1:=by omega
  subst e
  exact he
 |succ m ih=>
  intro d hd h z r he
  have e1:wrap64 ((d:Int)+1)=((d+1:Nat):Int):=w64 om_ om_
  refine Ev.up ?_
  by_cases hr0:n%d=0
  ·simp only[ps,if_pos hr0,List.foldl_cons]at he
   obtain⟨q,hq⟩:∃q:Nat,q=n / d:=⟨_,rfl⟩
   have hq1:1≤q:=by rw[hq];exact(Nat.le_div_iff_mul_le om_).2 om_
   have hq2:q≤n:=by rw[hq];exact Nat.div_le_self _ _
   have es:wrap64 ((d:Int)-1)=((d-1:Nat):Int)∧wrap64 (q:Int)=(q:Int)∧wrap64 ((q:Int)-1)=((q-1:Nat):Int):=⟨by rw[w64 om_ om_];omega,w64 om_ om_,by rw[w64 om_ om_];omega⟩
   have ed:Int.tdiv (n:Int) (d:Int)=(q:Int):=by rw[hq];exact tdiv_nat n d
   have em:Int.tmod (n:Int) (d:Int)=0:=by rw[tmod_nat,hr0];rfl
   rw[←hq]at he
   have h3:=ih (d+1) om_ om_ _ r he
   simp only[spec_l3Divided.l1,ed,em,es.1,es.2.1,es.2.2,e1,rdn]
   clear es ed em hq hr0 e1 he
   exact Ep om_ (En om_ (Ep trivial (Ep om_ (Ep om_ (Ep om_ (Ep om_ h3))))))
  ·simp only[ps,if_neg hr0]at he
   have em:¬Int.tmod (n:Int) (d:Int)=0:=by rw[tmod_nat];exact fun h=>hr0 (by exact_mod_cast h)
   have h3:=ih (d+1) om_ om_ z r he
   simp only[spec_l3Divided.l1,e1]
   clear e1 hr0 he
   exact Ep om_ (En om_ (En em h3))
theorem im_l1 (f g x:List Int) (hg:g.length=24) (hx:x.length=24) (n:Nat) (h2:n≤24) (t:List Nat) (ht:∀d∈t,1≤d∧d≤n) (hl:t.length≤100):∀(s:List Nat) (i:Nat),t.drop i=s→∀(z:Int) (r:List Int×Bool),Ev (fun k=>impl_DividedOf.l1 k f g x (n:Int) ((pin n s).foldl (subI g x) z) (nzs t) ((nzs t).length :Int) (t.length:Int)) r→Ev (fun k=>impl_DividedOf.l1 k f g x (n:Int) z (nzs t) ((nzs t).length :Int) (i:Int)) r:=by
 intro s
 induction s with
 |nil=>
  intro i hs z r he
  have hi:t.length≤i:=by have:=congrArg List.length hs;rw[List.length_drop,List.length_nil]at this;omega
  refine Ev.up ?_
  obtain⟨K,he⟩:=he
  refine⟨K,fun k hk=>?_⟩
  have h1:=he (k+1) om_
  simp only[impl_DividedOf.l1,nzs_len,pin,List.filter_nil,List.map_nil,List.foldl_nil]at h1 ⊢
  rw[if_neg om_]at h1
  rw[if_neg om_]
  exact h1
 |cons d s ih=>
  intro i hs z r he
  obtain⟨hi,hid,hs2⟩:=drop_at hs
  obtain⟨d1,d2⟩:=ht d (List.mem_of_getElem? hid)
  have e1:wrap64 ((i:Int)+1)=((i+1:Nat):Int):=w64 om_ om_
  have er:rd (nzs t) (i:Int)=(d:Int):=by
   unfold nzs
   rw[rdn,List.getD_eq_getElem?_getD,List.getElem?_map,hid]
   rfl
  refine Ev.up ?_
  by_cases hd:d<n
  ·have hp:pin n (d::s)=(n / d-1,d-1)::pin n s:=by
    unfold pin
    rw[List.filter_cons_of_pos (by simpa using hd),List.map_cons]
   rw[hp,List.foldl_cons]at he
   obtain⟨q,hq⟩:∃q:Nat,q=n / d:=⟨_,rfl⟩
   have hq1:1≤q:=by rw[hq];exact(Nat.le_div_iff_mul_le om_).2 om_
   have hq2:q≤n:=by rw[hq];exact Nat.div_le_self _ _
   have es:wrap64 ((d:Int)-1)=((d-1:Nat):Int)∧wrap64 (q:Int)=(q:Int)∧wrap64 ((q:Int)-1)=((q-1:Nat):Int):=⟨by rw[w64 om_ om_];omega,w64 om_ om_,by rw[w64 om_ om_];omega⟩
   have ed:Int.tdiv (n:Int) (d:Int)=(q:Int):=by rw[hq];exact tdiv_nat n d
   rw[←hq]at he
   have h3:=ih (i+1) hs2 _ r he
   unfold subI at h3
   simp only[]at h3
   rw[Int.mul_comm (g.getD (q-1) 0)]at h3
   simp only[impl_DividedOf.l1,er,ed,es.1,es.2.1,es.2.2,e1]
   simp only[rdn]
   clear es ed hq e1 er he hp
   exact Ep (by rw[nzs_len];omega) (Ep om_ (Ep (by rw[nzs_len];omega) (Ep om_ (Ep om_ (Ep om_ (En om_ (Ep om_ (Ep om_ h3))))))))
  ·have hp:pin n (d::s)=pin n s:=by
    unfold pin
    rw[List.filter_cons_of_neg (by simpa using hd)]
   rw[hp]at he
   have h3:=ih (i+1) hs2 z r he
   simp only[impl_DividedOf.l1,er,e1]
   clear e1 er he hp
   exact Ep (by rw[nzs_len];omega) (Ep om_ (Ep (by rw[nzs_len];omega) (En om_ h3)))
theorem rowB_set {x y:List Int} {n:Nat} {v:Int} (h:rowB x=true) (hy:y=x.set (n-1) v) (hz: -1000000000≤rd y ((n-1:Nat):Int)∧rd y ((n-1:Nat):Int)≤1000000000):rowB y=true:=by
 have hl:=rowB_len h
 have hyl:y.length=24:=by rw[hy,List.length_set];exact hl
 unfold rowB at h ⊢
 simp only[Bool.and_eq_true,beq_iff_eq]at h ⊢
 refine⟨allF_of _ _ _ (fun j _ hj=>?_),by omega⟩
 have h1:=of_decide_eq_true (allF_at _ _ _ h.1 j om_ om_)
 rw[rdn]at hz
 unfold r1
 refine decide_eq_true ?_
 by_cases e:j=n-1
 ·subst e;exact hz
 ·have:y.getD j 0=x.getD j 0:=by rw[hy,List.getD_eq_getElem?_getD,List.getD_eq_getElem?_getD,List.getElem?_set_ne om_]
  rw[this];exact h1
theorem rowB_zero:rowB (List.replicate 24 0)=true:=by decide
theorem inv_both (f g:List Int) (hf:f.length=24) (hg:g.length=24):∀m n:Nat,1≤n→n+m=25→∀x:List Int,rowB x=true→∃r b,(b=true→rowB r=true)∧(b=false→r=[])∧Ev (fun k=>spec_l3Divided.l0 k f g x (n:Int)) r∧Ev (fun k=>impl_DividedOf.l0 k f g x (n:Int)) (r,b):=by
 intro m
 induction m with
 |zero=>
  intro n h1 h x hx
  refine⟨x,true,fun _=>hx,nofun,Ev.up ?_,Ev.up ?_⟩
  ·simp only[spec_l3Divided.l0]
   exact En om_ (Ev.now _)
  ·simp only[impl_DividedOf.l0]
   exact En om_ (Ev.now _)
 |succ m ih=>
  intro n h1 h x hxr
  have hx:=rowB_len hxr
  have hall:=List.all_eq_true.1 dn_all (n-1) (List.mem_range.2 om_)
  rw[show n-1+1=n by omega]at hall
  simp only[Bool.and_eq_true,beq_iff_eq]at hall
  obtain⟨hp,hd⟩:=hall
  have hdv:Ev (fun k=>impl_divisors.f k (n:Int)) (nzs (DN n)):=Ev.of (impl_divisors.mono _) hd
  have hmem:∀d∈DN n,1≤d∧d≤n:=fun d hd=>by
   unfold DN at hd
   simp only[List.mem_filter,List.mem_range,Bool.and_eq_true,decide_eq_true_eq]at hd
   omega
  have hlen:(DN n).length ≤100:=by
   have:=List.length_filter_le (fun d=>decide (1≤d)&&n%d==0) (List.range (n+1))
   rw[List.length_range]at this
   unfold DN
   omega
  have e0:wrap64 ((n:Int)-1)=((n-1:Nat):Int):=by rw[w64 om_ om_];omega
  have e1:wrap64 ((n:Int)+1)=((n+1:Nat):Int):=w64 om_ om_
  have hfold:(pin n (DN n)).foldl (subI g x) (f.getD (n-1) 0)=(ps n (n-1) 2).foldl (subI g x) (f.getD (n-1) 0):=by rw[hp,subI_rev]
  obtain⟨v,hv⟩:∃v,v=(ps n (n-1) 2).foldl (subI g x) (f.getD (n-1) 0):=⟨_,rfl⟩
  obtain⟨y,hy⟩:∃y:List Int,y=x.set (n-1) (wrap64 (v*rd g 0)):=⟨_,rfl⟩
  have hyl:y.length=24:=by rw[hy,List.length_set];exact hx
  have hsp:∀r,Ev (fun k=>(spec_l1In.f (rd y ((n-1:Nat):Int)) (-1000000000) 1000000000).bind fun t=>(if t=true then spec_l3Divided.l0 k f g y ((n+1:Nat):Int)else some [])) r→Ev (fun k=>spec_l3Divided.l0 k f g x (n:Int)) r:=by
   intro r hr
   refine Ev.up ?_
   simp only[spec_l3Divided.l0,e0,rdn]
   refine Ep om_ (Ep om_ (Ep om_ ?_))
   refine sp_l1 f g x hg hx n om_ (n-1) 2 om_ om_ _ r ?_
   rw[←hv]
   refine Ev.up ?_
   simp only[spec_l3Divided.l1,e0,e1,Int.toNat_natCast,←hy]
   clear e0 e1 hv hy hfold hp hd hdv
   exact En om_ (Ep om_ (Ep om_ (Ep om_ (Ec rfl hr))))
  have him:∀r,Ev (fun k=>(if(rd y ((n-1:Nat):Int))<(-1000000000)then(some (([]:List Int),false))else(if(rd y ((n-1:Nat):Int))>1000000000 then(some (([]:List Int),false))else(impl_DividedOf.l0 k f g y ((n+1:Nat):Int))))) r→Ev (fun k=>impl_DividedOf.l0 k f g x (n:Int)) r:=by
   intro r hr
   refine Ev.up ?_
   simp only[impl_DividedOf.l0,e0,rdn]
   refine Ep om_ (Ep om_ (Ep om_ (Eb hdv ?_)))
   refine im_l1 f g x hg hx n om_ (DN n) hmem hlen (DN n) 0 rfl _ r ?_
   rw[hfold,←hv]
   refine Ev.up ?_
   simp only[impl_DividedOf.l1,e0,e1,Int.toNat_natCast,←hy,nzs_len]
   clear e0 e1 hv hy hfold hp hd hdv
   exact En om_ (Ep om_ (Ep om_ (Ep om_ (Ec rfl hr))))
  by_cases hz: -1000000000≤rd y ((n-1:Nat):Int)∧rd y ((n-1:Nat):Int)≤1000000000
  ·obtain⟨r,b,a1,a2,a3,a4⟩:=ih (n+1) om_ om_ y (rowB_set hxr hy hz)
   refine⟨r,b,a1,a2,hsp r ?_,him (r,b) ?_⟩
   ·simp only[l1In_eq]
    exact Ec rfl (Ep (decide_eq_true hz) a3)
   ·exact En om_ (En om_ a4)
  ·refine⟨[],false,nofun,fun _=>rfl,hsp [] ?_,him ([],false) ?_⟩
   ·simp only[l1In_eq]
    exact Ec rfl (En (fun h=>hz (of_decide_eq_true h)) (Ev.now _))
   ·by_cases h3:rd y ((n-1:Nat):Int)< -1000000000
    ·exact Ep h3 (Ev.now _)
    ·exact En h3 (Ep om_ (Ev.now _))
def unitB (g:List Int):Bool:=rowB g&&(g.getD 0 0==1 || g.getD 0 0== -1)
theorem unit_some {g:List Int} (h:rowB g=true):(if 0<(g.length:Int)then(if(rd g 0)=1 then(some true)else(some ((rd g 0)==(-1))))else(none))=some (g.getD 0 0==1 || g.getD 0 0== -1):=by
 have hl:=rowB_len h
 have e:rd g 0=g.getD 0 0:=rdn g 0
 rw[if_pos om_,e]
 by_cases c:g.getD 0 0=1
 ·rw[if_pos c,c];rfl
 ·rw[if_neg c,show(g.getD 0 0==1)=false from beq_eq_false_iff_ne.2 c,Bool.false_or]
theorem sp_unitOk (g:List Int) (hg:g.length≤1000000):Ev (fun k=>spec_UnitOk.f k g) (unitB g):=by
 have h:=spec_rowOk g om_
 unfold spec_UnitOk.f unitB
 cases hr:rowB g with
 |false=>rw[hr]at h;exact Eb h (En (by simp) (Ev.now _))
 |true=>rw[hr]at h;exact Eb h (Ep rfl (Ev.const (unit_some hr)))
theorem im_unitOk (g:List Int) (hg:g.length≤1000000):Ev (fun k=>impl_UnitOk.f k g) (unitB g):=by
 have h:=impl_rowOk g om_
 unfold impl_UnitOk.f unitB
 cases hr:rowB g with
 |false=>rw[hr]at h;exact Eb h (En (by simp) (Ev.now _))
 |true=>rw[hr]at h;exact Eb h (Ep rfl (Ev.const (unit_some hr)))
theorem divided_both (f g:List Int) (hf:f.length≤1000000) (hg:g.length≤1000000):∃r b,(b=true→rowB r=true)∧Ev (fun k=>spec_DividedOf.f k f g) (r,b)∧Ev (fun k=>impl_DividedOf.f k f g) (r,b):=by
 have su:=sp_unitOk g hg
 have iu:=im_unitOk g hg
 have ig:=impl_small g om_
 have ifs:=impl_small f om_
 have jt:Ev (fun k=>impl_DividedOf.j0 k f g true) ([],false):=by
  refine Ev.up ?_
  simp only[impl_DividedOf.j0]
  exact Ep trivial (Ev.now _)
 rcases times_both g f hg hf with⟨sg,sf,h1,_⟩|⟨hs,h1,_⟩
 ·rw[sg]at ig
  rw[sf]at ifs
  cases u:unitB g with
  |false=>
   rw[u]at su iu
   refine⟨[],false,nofun,?_,?_⟩
   ·unfold spec_DividedOf.f
    exact Eb h1 (Ep rfl (Eb su (En (by simp) (Ev.now _))))
   ·unfold impl_DividedOf.f
    exact Eb iu (En (by simp) jt)
  |true=>
   rw[u]at su iu
   obtain⟨q,b,a1,a2,a3,a4⟩:=inv_both f g (small_len sf) (small_len sg) 24 1 om_ om_ (List.replicate 24 0) rowB_zero
   refine⟨q,b,a1,?_,?_⟩
   ·unfold spec_DividedOf.f
    have hd:Ev (fun k=>spec_l3Divided.f k f g) q:=by
     unfold spec_l3Divided.f
     exact Ep om_ a3
    have eb:((q.length:Int)==24)=b:=by
     cases b with
     |true=>rw[rowB_len (a1 rfl)];rfl
     |false=>rw[a2 rfl];rfl
    have e2:=Eb (f:=fun _ t=>some (t,((t.length:Int)==24))) hd (Ev.now _)
    rw[eb]at e2
    exact Eb h1 (Ep rfl (Eb su (Ep rfl e2)))
   ·unfold impl_DividedOf.f
    refine Eb iu (Ep rfl (Eb ig (Ep rfl (Eb ifs (Ev.up ?_)))))
    simp only[impl_DividedOf.j0]
    exact En (by simp) (Ep om_ a4)
 ·refine⟨[],false,nofun,?_,?_⟩
  ·unfold spec_DividedOf.f
   exact Eb h1 (En (by simp) (Ev.now _))
  ·unfold impl_DividedOf.f
   refine Eb iu ?_
   cases unitB g with
   |false=>exact En (by simp) jt
   |true=>
    refine Ep rfl (Eb ig ?_)
    cases sg:smallB g with
    |false=>exact En (by simp) jt
    |true=>
     rw[sg,Bool.true_and]at hs
     rw[hs]at ifs
     exact Ep rfl (Eb ifs jt)
theorem inverse_both (f:List Int) (hf:f.length≤1000000):∃r b,(b=true→rowB r=true)∧Ev (fun k=>spec_InverseOf.f k f) (r,b)∧Ev (fun k=>impl_InverseOf.f k f) (r,b):=by
 obtain⟨e,_,h0,_,he1,he2⟩:=named_both 0
 have hl:e.length≤1000000:=by rw[h0 rfl];simp[row0]
 obtain⟨r,b,hb,hd1,hd2⟩:=divided_both e f hl hf
 refine⟨r,b,hb,?_,?_⟩
 ·unfold spec_InverseOf.f
  exact Eb he1 (Eb hd1 (Ev.now _))
 ·unfold impl_InverseOf.f
  exact Eb he2 (Eb hd2 (Ev.now _))
theorem rdL (l:List (List Int)) (i:Nat):rd_L1 l (i:Int)=l.getD i []:=by unfold rd_L1;rw[Int.toNat_natCast]
theorem getD_len {l:List (List Int)} {m:Nat} (h:∀x∈l,x.length≤m) (i:Nat):(l.getD i []).length ≤m:=by
 by_cases hi:i<l.length
 ·rw[List.getD_eq_getElem?_getD,List.getElem?_eq_getElem hi]
  exact h _ (List.getElem_mem _)
 ·rw[List.getD_eq_getElem?_getD,List.getElem?_eq_none om_]
  exact Nat.zero_le _
theorem impl_deskL (now:List Int) (past:List (List Int)) (h1:now.length≤1000000000) (h2:past.length≤1000000000) (h3:∀x∈past,x.length≤1000000000):∀f i,i+f=past.length→Ev (fun k=>impl_DeskOk.l0 k past (past.length:Int) (i:Int) now past) (allF (fun i=>rowB (past.getD i [])) f i&&(rowB now&&decide ((past.length:Int)≤8))):=by
 intro f
 induction f with
 |zero=>
  intro i h
  simp only[allF,Bool.true_and]
  refine Es (f:=fun k=>(impl_RowOk.f k now).bind fun t139=>(if t139=true then(some (decide ((past.length:Int)≤8)))else(some false))) (fun k=>?_) (Eb (impl_rowOk now h1) ?_)
  ·simp only[impl_DeskOk.l0]
   rw[if_neg om_]
  ·cases rowB now
   ·exact En (by simp) (Ev.now _)
   ·rw[Bool.true_and]
    exact Ep rfl (Ev.now _)
 |succ f ih=>
  intro i h
  refine Es (f:=fun k=>(impl_RowOk.f k (past.getD i [])).bind fun t138=>(if t138=true then(impl_DeskOk.l0 k past (past.length:Int) (wrap64 ((i:Int)+1)) now past)else(some false))) (fun k=>?_) (Eb (impl_rowOk _ (getD_len h3 i)) ?_)
  ·simp only[impl_DeskOk.l0,rdL]
   rw[if_pos om_,if_pos om_,if_pos om_]
  ·simp only[allF]
   cases rowB (past.getD i [])
   ·simp only[Bool.false_and]
    exact En (by simp) (Ev.now _)
   ·rw[Bool.true_and,w64 om_ om_]
    exact Ep rfl (ih (i+1) om_)
theorem impl_desk (now:List Int) (past:List (List Int)) (h1:now.length≤1000000000) (h2:past.length≤1000000000) (h3:∀x∈past,x.length≤1000000000):Ev (fun k=>impl_DeskOk.f k now past) (deskB now past):=
 impl_deskL now past h1 h2 h3 past.length 0 om_
theorem spec_deskL (now:List Int) (past:List (List Int)) (h1:now.length≤1000000000) (h2:past.length≤1000000000) (h3:∀x∈past,x.length≤1000000000):∀f i,i+f=past.length→Ev (fun k=>spec_DeskOk.l0 k (i:Int) now past) (allF (fun i=>rowB (past.getD i [])) f i&&(rowB now&&decide ((past.length:Int)≤8))):=by
 intro f
 induction f with
 |zero=>
  intro i h
  simp only[allF,Bool.true_and]
  refine Es (f:=fun k=>(spec_RowOk.f k now).bind fun t139=>(if t139=true then(some (decide ((past.length:Int)≤8)))else(some false))) (fun k=>?_) (Eb (spec_rowOk now h1) ?_)
  ·simp only[spec_DeskOk.l0]
   rw[if_neg om_]
  ·cases rowB now
   ·exact En (by simp) (Ev.now _)
   ·rw[Bool.true_and]
    exact Ep rfl (Ev.now _)
 |succ f ih=>
  intro i h
  refine Es (f:=fun k=>(spec_RowOk.f k (past.getD i [])).bind fun t138=>(if t138=true then(spec_DeskOk.l0 k (wrap64 ((i:Int)+1)) now past)else(some false))) (fun k=>?_) (Eb (spec_rowOk _ (getD_len h3 i)) ?_)
  ·simp only[spec_DeskOk.l0,rdL]
   rw[if_pos om_,if_pos om_]
  ·simp only[allF]
   cases rowB (past.getD i [])
   ·simp only[Bool.false_and]
    exact En (by simp) (Ev.now _)
   ·rw[Bool.true_and,w64 om_ om_]
    exact Ep rfl (ih (i+1) om_)
theorem spec_desk (now:List Int) (past:List (List Int)) (h1:now.length≤1000000000) (h2:past.length≤1000000000) (h3:∀x∈past,x.length≤1000000000):Ev (fun k=>spec_DeskOk.f k now past) (deskB now past):=
 spec_deskL now past h1 h2 h3 past.length 0 om_
theorem sp_copyL (now:List Int) (past:List (List Int)) (h2:past.length≤1000000) (h3:∀x∈past,x.length≤1000000):∀m i:Nat,i+m=past.length→∀acc:List (List Int),acc.length=i→Ev (fun k=>spec_l12Copy.l0 k (i:Int) now past now acc) (now,acc++past.drop i):=by
 intro m
 induction m with
 |zero=>
  intro i h acc ha
  refine Ev.up ?_
  simp only[spec_l12Copy.l0]
  rw[List.drop_eq_nil_of_le om_,List.append_nil]
  exact En om_ (Ev.now _)
 |succ m ih=>
  intro i h acc ha
  have hi:i<past.length:=by omega
  have e:=ih (i+1) om_ (acc++[past.getD i []]) (by simp;omega)
  have ed:acc++[past.getD i []]++past.drop (i+1)=acc++past.drop i:=by
   rw[List.append_assoc,List.drop_eq_getElem_cons hi,List.getD_eq_getElem?_getD,List.getElem?_eq_getElem hi]
   rfl
  rw[ed]at e
  have hl:=getD_len h3 i
  refine Ev.up ?_
  have e1:wrap64 ((i:Int)+1)=((i+1:Nat):Int):=w64 om_ om_
  simp only[spec_l12Copy.l0,rdL,e1]
  clear e1
  exact Ep om_ (Ec rfl (Ep om_ (Ep (by simp only[List.length_nil];omega) (Ep om_ e))))
theorem sp_copy (now:List Int) (past:List (List Int)) (h1:now.length≤1000000) (h2:past.length≤1000000) (h3:∀x∈past,x.length≤1000000):Ev (fun k=>spec_l12Copy.f k now past) (now,past):=by
 unfold spec_l12Copy.f
 exact Ec rfl (Ep (by simp only[List.length_nil];omega) (sp_copyL now past h2 h3 past.length 0 om_ [] rfl))
def Sz (now:List Int) (past:List (List Int)):Prop:=now.length≤24∧past.length≤9∧∀x∈past,x.length≤24
theorem drop_get {f:List Int} {i:Nat} (h:i<f.length):f.drop i=f.getD i 0::f.drop (i+1):=by
 rw[List.drop_eq_getElem_cons h,List.getD_eq_getElem?_getD,List.getElem?_eq_getElem h]
 rfl
theorem same_dec (f g:List Int) (hf:f.length=24) (hg:g.length=24):∀m i:Nat,i+m=24→Ev (fun k=>spec_l12Same.l0 k f g (i:Int)) (decide (f.drop i=g.drop i)):=by
 intro m
 induction m with
 |zero=>
  intro i h
  rw[List.drop_eq_nil_of_le om_,List.drop_eq_nil_of_le om_,decide_eq_true rfl]
  refine Ev.up ?_
  simp only[spec_l12Same.l0]
  exact En om_ (Ev.now _)
 |succ m ih=>
  intro i h
  rw[drop_get (f:=f) om_,drop_get (f:=g) om_]
  refine Ev.up ?_
  have e1:wrap64 ((i:Int)+1)=((i+1:Nat):Int):=w64 om_ om_
  have ih:=ih (i+1) om_
  simp only[spec_l12Same.l0,e1,rdn,List.cons.injEq]
  clear e1
  refine Ep om_ (Ep om_ (Ep om_ (Ep om_ ?_)))
  by_cases c:f.getD i 0=g.getD i 0
  ·refine Ep c ?_
   simp only[c,true_and]
   exact ih
  ·refine En c ?_
   simp only[c,false_and,decide_false]
   exact Ev.now _
theorem same_ev (f g:List Int) (hf:f.length=24) (hg:g.length=24):Ev (fun k=>spec_l12Same.f k f g) (decide (f=g)):=same_dec f g hf hg 24 0 om_
theorem equal_dec (f g:List Int) (hl:f.length≤1000000) (hg:f.length=g.length):∀m i:Nat,i+m=f.length→Ev (fun k=>slices_Equal_int_int.l0 k f g (f.length:Int) (i:Int)) (decide (f.drop i=g.drop i)):=by
 intro m
 induction m with
 |zero=>
  intro i h
  rw[List.drop_eq_nil_of_le om_,List.drop_eq_nil_of_le om_,decide_eq_true rfl]
  refine Ev.up ?_
  simp only[slices_Equal_int_int.l0]
  exact En om_ (Ev.now _)
 |succ m ih=>
  intro i h
  rw[drop_get (f:=f) om_,drop_get (f:=g) om_]
  refine Ev.up ?_
  have e1:wrap64 ((i:Int)+1)=((i+1:Nat):Int):=w64 om_ om_
  have ih:=ih (i+1) om_
  simp only[slices_Equal_int_int.l0,e1,rdn,List.cons.injEq]
  clear e1
  refine Ep om_ (Ep om_ (Ep om_ (Ep om_ ?_)))
  by_cases c:f.getD i 0=g.getD i 0
  ·refine Ep c ?_
   simp only[c,true_and]
   exact ih
  ·refine En c ?_
   simp only[c,false_and,decide_false]
   exact Ev.now _
theorem equal_ev (f g:List Int) (hl:f.length≤1000000):Ev (fun k=>slices_Equal_int_int.f k f g) (decide (f=g)):=by
 unfold slices_Equal_int_int.f
 by_cases h:f.length=g.length
 ·exact Ep om_ (equal_dec f g hl h f.length 0 om_)
 ·rw[decide_eq_false (fun e=>h (by rw[e]))]
  exact En om_ (Ev.now _)
theorem clone_ev {f:List Int} (h:0<f.length) (h2:f.length≤1000000):Ev (fun k=>slices_Clone_int_int.f k f) f:=by
 unfold slices_Clone_int_int.f
 exact Ep h (Ep om_ (Ev.now _))
def Full (past:List (List Int)):Prop:=past.length≤1000000∧∀x∈past,0<x.length∧x.length≤1000000
theorem im_copyL (now:List Int) (past:List (List Int)) (h:Full past):∀m i:Nat,i+m=past.length→∀acc:List (List Int),acc.length=i→Ev (fun k=>impl_copyDesk.l0 k past (past.length:Int) (i:Int) now acc) (now,acc++past.drop i):=by
 obtain⟨h2,h3⟩:=h
 intro m
 induction m with
 |zero=>
  intro i h acc ha
  refine Ev.up ?_
  simp only[impl_copyDesk.l0]
  rw[List.drop_eq_nil_of_le om_,List.append_nil]
  exact En om_ (Ev.now _)
 |succ m ih=>
  intro i h acc ha
  have hi:i<past.length:=by omega
  have e:=ih (i+1) om_ (acc++[past.getD i []]) (by simp;omega)
  have ed:acc++[past.getD i []]++past.drop (i+1)=acc++past.drop i:=by
   rw[List.append_assoc,List.drop_eq_getElem_cons hi,List.getD_eq_getElem?_getD,List.getElem?_eq_getElem hi]
   rfl
  rw[ed]at e
  have hm:past.getD i []∈past:=by
   rw[List.getD_eq_getElem?_getD,List.getElem?_eq_getElem hi]
   exact List.getElem_mem _
  obtain⟨g1,g2⟩:=h3 _ hm
  refine Ev.up ?_
  have e1:wrap64 ((i:Int)+1)=((i+1:Nat):Int):=w64 om_ om_
  simp only[impl_copyDesk.l0,rdL,e1]
  clear e1
  exact Ep om_ (Ep om_ (Ep om_ (Eb (clone_ev g1 g2) (Ep om_ e))))
theorem im_copy (now:List Int) (past:List (List Int)) (h1:0<now.length) (h2:now.length≤1000000) (h:Full past):Ev (fun k=>impl_copyDesk.f k now past) (now,past):=by
 unfold impl_copyDesk.f
 exact Eb (clone_ev h1 h2) (im_copyL now past h past.length 0 om_ [] rfl)
def trimP (past:List (List Int)) (now:List Int):List (List Int):=if((past++[now]).length :Int)>8 then(past++[now]).drop 1 else past++[now]
def fin (now:List Int) (past:List (List Int)) (r:List Int) (o:Bool):List Int×List (List Int)×Bool:=if o=true∧r≠now then(r,trimP past now,true)else(now,past,false)
theorem im_j2 (now:List Int) (past:List (List Int)) (r:List Int) (h1:0<now.length) (h2:now.length≤1000000) (h:Full past) (hp:past.length≤8) (hr:0<r.length) (hr2:r.length≤1000000):Ev (fun k=>impl_DeskDo.j2 k r false now past) (r,trimP past now,true):=by
 have hF:Full (past++[now]):=⟨by simp;omega,fun x hx=>by
  rcases List.mem_append.1 hx with h3|h3
  ·exact h.2 x h3
  ·rw[List.mem_singleton.1 h3];exact⟨h1,h2⟩⟩
 refine Ev.up ?_
 simp only[impl_DeskDo.j2]
 refine En (by simp) (Ep om_ (Ec rfl ?_))
 unfold trimP
 by_cases c:((past++[now]).length :Int)>8
 ·have hF2:Full ((past++[now]).drop 1):=⟨by rw[List.length_drop];have:=hF.1;omega,fun x hx=>hF.2 x (List.mem_of_mem_drop hx)⟩
  rw[if_pos c]
  exact Ep c (Ep om_ (Eb (im_copy r _ hr hr2 hF2) (Ev.now _)))
 ·rw[if_neg c]
  exact En c (Eb (im_copy r _ hr hr2 hF) (Ev.now _))
theorem im_j1 (now:List Int) (past:List (List Int)) (r:List Int) (o:Bool) (h1:now.length=24) (h:Full past) (hp:past.length≤8) (hr:o=true→r.length=24):Ev (fun k=>impl_DeskDo.j1 k r o now past now past) (fin now past r o):=by
 have jt:Ev (fun k=>impl_DeskDo.j2 k r true now past) (now,past,false):=by
  refine Ev.up ?_
  simp only[impl_DeskDo.j2]
  exact Ep trivial (Ev.now _)
 refine Ev.up ?_
 simp only[impl_DeskDo.j1]
 unfold fin
 cases o with
 |false=>
  rw[if_neg (by simp)]
  exact En (by simp) jt
 |true=>
  have hl:=hr rfl
  have he:=equal_ev r now om_
  refine Ep rfl (Eb he ?_)
  by_cases c:r=now
  ·rw[if_neg (by simp[c])]
   rw[decide_eq_true c]
   exact jt
  ·rw[if_pos ⟨rfl,c⟩,decide_eq_false c]
   exact im_j2 now past r om_ om_ h hp om_ om_
theorem sp_j1 (now:List Int) (past:List (List Int)) (r:List Int) (h:past.length≤8):Ev (fun k=>spec_DeskDo.j1 k r false now past) (r,trimP past now,true):=by
 refine Ev.up ?_
 simp only[spec_DeskDo.j1]
 refine En (by simp) (Ep om_ (Ec rfl ?_))
 by_cases c:((past++[now]).length :Int)>8
 ·rw[show trimP past now=(past++[now]).drop 1 from if_pos c]
  exact Ep c (Ep om_ (Ev.now _))
 ·rw[show trimP past now=past++[now]from if_neg c]
  exact En c (Ev.now _)
theorem sp_j0 (now:List Int) (past:List (List Int)) (a b c:Int) (r:List Int) (o:Bool) (h1:now.length=24) (hp:past.length≤8) (hr:o=true→r.length=24) (hm:Ev (fun k=>spec_l12Made.f k now a b c) (r,o)):Ev (fun k=>spec_DeskDo.j0 k false now past a b c now past) (fin now past r o):=by
 have jt:Ev (fun k=>spec_DeskDo.j1 k r true now past) (now,past,false):=by
  refine Ev.up ?_
  simp only[spec_DeskDo.j1]
  exact Ep trivial (Ev.now _)
 refine Ev.up ?_
 simp only[spec_DeskDo.j0]
 refine En (by simp) (Eb hm ?_)
 unfold fin
 cases o with
 |false=>
  rw[if_neg (by simp)]
  exact En (by simp) jt
 |true=>
  refine Ep rfl (Eb (f:=fun k t=>spec_DeskDo.j1 k r t now past) (same_ev r now (hr rfl) h1) ?_)
  by_cases c:r=now
  ·rw[if_neg (by simp[c])]
   rw[decide_eq_true c]
   exact jt
  ·rw[if_pos ⟨rfl,c⟩,decide_eq_false c]
   exact sp_j1 now past r hp
theorem sp_none (f:List Int) (a b c:Int) (h0:¬(a=0∧c=0)) (h1:¬(a=1∧c=0)) (h2:¬(a=2∧b=0∧c=0)) (h3:a≠3):Ev (fun k=>spec_l12Made.f k f a b c) ([],false):=by
 have j1:Ev (fun k=>spec_l12Made.j1 k f false a b c) ([],false):=by
  refine Ev.up ?_
  simp only[spec_l12Made.j1]
  exact En (by simp) (En (by simpa using h2) (En h3 (Ev.now _)))
 have j0:Ev (fun k=>spec_l12Made.j0 k f false a b c) ([],false):=by
  refine Ev.up ?_
  simp only[spec_l12Made.j0]
  refine En (by simp) ?_
  by_cases e:a=1
  ·rw[show(c==0)=false from beq_eq_false_iff_ne.2 (fun hc=>h1 ⟨e,hc⟩)]
   exact Ep e j1
  ·exact En e j1
 unfold spec_l12Made.f
 by_cases e:a=0
 ·rw[show(c==0)=false from beq_eq_false_iff_ne.2 (fun hc=>h0 ⟨e,hc⟩)]
  exact Ep e j0
 ·exact En e j0
def imTail (k:Nat) (now:List Int) (past:List (List Int)) (a b c:Int):Option (List Int×(List (List Int))×Bool):=(if a=3 then(if a=2 then(impl_DeskDo.j0 k (b != 0) now past a b c now past)else(if a=4 then(impl_DeskDo.j0 k (b != 0) now past a b c now past)else(impl_DeskDo.j0 k false now past a b c now past)))else(if c=0 then(if a=2 then(impl_DeskDo.j0 k (b != 0) now past a b c now past)else(if a=4 then(impl_DeskDo.j0 k (b != 0) now past a b c now past)else(impl_DeskDo.j0 k false now past a b c now past)))else(impl_DeskDo.j0 k true now past a b c now past)))
theorem allI_row {f g:List Int} {P:List (List (Nat×Nat))} (hf:smallB f=true) (hg:smallB g=true) (hP:∀l∈P,l.length≤8) (hl:P.length=24):rowB (allI P f g)=true:=by
 unfold rowB
 simp only[Bool.and_eq_true,beq_iff_eq]
 refine⟨allF_of _ _ _ (fun j _ _=>?_),by rw[allI_len];omega⟩
 have:=allI_at (small_at hf) (small_at hg) P hP j
 unfold r1
 refine decide_eq_true ?_
 omega
theorem getD_set_row {now:List Int} {b c:Int} (h:rowB now=true) (hc:0≤c∧c≤9999):rowB (now.set (b-1).toNat c)=true:=by
 have hl:=rowB_len h
 unfold rowB at h ⊢
 simp only[Bool.and_eq_true,beq_iff_eq]at h ⊢
 rw[List.length_set]
 refine⟨allF_of _ _ _ (fun j _ hj=>?_),h.2⟩
 have h1:=of_decide_eq_true (allF_at _ _ _ h.1 j om_ om_)
 unfold r1
 refine decide_eq_true ?_
 by_cases e:j=(b-1).toNat
 ·rw[e,List.getD_eq_getElem?_getD,List.getElem?_set_self om_]
  simp only[Option.getD_some]
  omega
 ·have:(now.set (b-1).toNat c).getD j 0=now.getD j 0:=by rw[List.getD_eq_getElem?_getD,List.getD_eq_getElem?_getD,List.getElem?_set_ne om_]
  rw[this];exact h1
theorem made_both (now:List Int) (a b c:Int) (hn:rowB now=true):∃r o,(o=true→rowB r=true)∧(o=true→a=0→b=1→smallB now=true∧r=allI PT now ones)∧(a=4→o=false)∧Ev (fun k=>spec_l12Made.f k now a b c) (r,o)∧∀past:List (List Int),Full past→past.length≤8→¬(a=4∧b=0∧c=0)→Ev (fun k=>imTail k now past a b c) (fin now past r o):=by
 have h24:=rowB_len hn
 obtain⟨nm,hnm,_,hone,en1,en2⟩:=named_both b
 have hnl:nm.length≤1000000:=by rcases hnm with h|h <;> simp[h]
 have jt:∀past,Ev (fun k=>impl_DeskDo.j0 k true now past a b c now past) (now,past,false):=fun past=>by
  refine Ev.up ?_
  simp only[impl_DeskDo.j0]
  exact Ep trivial (Ev.now _)
 have ft:∀past,fin now past [] false=(now,past,false):=fun past=>if_neg (by simp)
 by_cases c3:a=3
 ·subst c3
  have hi:∀past r o,(∀k,impl_DeskDo.j0 (k+1) false now past 3 b c now past=(if b≥1 then(if b≤24 then(if c≥0 then(if c≤9999 then((slices_Clone_int_int.f k now).bind fun t546=>(if 0≤(wrap64 (b-1))then(if(wrap64 (b-1))<(t546.length:Int)then(impl_DeskDo.j1 k (t546.set ((wrap64 (b-1)):Int).toNat c) true now past now past)else(none))else(none)))else(impl_DeskDo.j1 k ([]:List Int) false now past now past))else(impl_DeskDo.j1 k ([]:List Int) false now past now past))else(impl_DeskDo.j1 k ([]:List Int) false now past now past))else(impl_DeskDo.j1 k ([]:List Int) false now past now past)))→Ev (fun k=>impl_DeskDo.j0 k false now past 3 b c now past) (fin now past r o)→Ev (fun k=>imTail k now past 3 b c) (fin now past r o):=fun past r o _ h=>Ep rfl (En om_ (En om_ h))
  have hj:∀past k,impl_DeskDo.j0 (k+1) false now past 3 b c now past=(if b≥1 then(if b≤24 then(if c≥0 then(if c≤9999 then((slices_Clone_int_int.f k now).bind fun t546=>(if 0≤(wrap64 (b-1))then(if(wrap64 (b-1))<(t546.length:Int)then(impl_DeskDo.j1 k (t546.set ((wrap64 (b-1)):Int).toNat c) true now past now past)else(none))else(none)))else(impl_DeskDo.j1 k ([]:List Int) false now past now past))else(impl_DeskDo.j1 k ([]:List Int) false now past now past))else(impl_DeskDo.j1 k ([]:List Int) false now past now past))else(impl_DeskDo.j1 k ([]:List Int) false now past now past)):=fun past k=>by
   simp only[impl_DeskDo.j0]
   rw[if_neg (by simp),if_neg om_,if_neg om_,if_neg om_,if_pos trivial]
  have hs:∀r o,Ev (fun k=>spec_l12Made.j1 k now false 3 b c) (r,o)→Ev (fun k=>spec_l12Made.f k now 3 b c) (r,o):=fun r o h=>by
   unfold spec_l12Made.f
   refine En om_ (Ev.up ?_)
   simp only[spec_l12Made.j0]
   exact En (by simp) (En om_ h)
  by_cases cb:1≤b∧b≤24
  ·by_cases cc:0≤c∧c≤9999
   ·have e1:wrap64 (b-1)=b-1:=w64 om_ om_
    refine⟨now.set (b-1).toNat c,true,fun _=>getD_set_row hn cc,fun _ h=>by omega,fun h=>by omega,hs _ _ (Ev.up ?_),fun past hF hp _=>hi past _ _ (hj past) (Es (hj past) ?_)⟩
    ·simp only[spec_l12Made.j1,l1In_eq,e1]
     clear e1
     exact En (by simp) (En (by simp) (Ep trivial (Ec rfl (Ep (decide_eq_true cb) (Ec rfl (Ep (decide_eq_true cc) (Ec rfl (Ep (by simp;omega) (Ec rfl (Ep om_ (Ep (by simp;omega) (Ev.now _))))))))))))
    ·simp only[e1]
     clear e1
     exact Ep cb.1 (Ep cb.2 (Ep cc.1 (Ep cc.2 (Eb (clone_ev om_ om_) (Ep om_ (Ep om_ (im_j1 now past _ true h24 hF hp (fun _=>by rw[List.length_set];exact h24))))))))
   ·refine⟨[],false,nofun,nofun,fun _=>rfl,hs _ _ (Ev.up ?_),fun past hF hp _=>hi past _ _ (hj past) (Es (hj past) ?_)⟩
    ·simp only[spec_l12Made.j1,l1In_eq]
     exact En (by simp) (En (by simp) (Ep trivial (Ec rfl (Ep (decide_eq_true cb) (Ec rfl (En (fun h=>cc (of_decide_eq_true h)) (Ev.now _)))))))
    ·have hj1:=im_j1 now past [] false h24 hF hp nofun
     refine Ep cb.1 (Ep cb.2 ?_)
     by_cases c1:c≥0
     ·exact Ep c1 (En om_ hj1)
     ·exact En c1 hj1
  ·refine⟨[],false,nofun,nofun,fun _=>rfl,hs _ _ (Ev.up ?_),fun past hF hp _=>hi past _ _ (hj past) (Es (hj past) ?_)⟩
   ·simp only[spec_l12Made.j1,l1In_eq]
    exact En (by simp) (En (by simp) (Ep trivial (Ec rfl (En (fun h=>cb (of_decide_eq_true h)) (Ev.now _)))))
   ·have hj1:=im_j1 now past [] false h24 hF hp nofun
    by_cases c1:b≥1
    ·exact Ep c1 (En om_ hj1)
    ·exact En c1 hj1
 by_cases c0:c=0
 ·have tl:∀past x,(a≠2∧a≠4∨b=0)→Ev (fun k=>impl_DeskDo.j0 k false now past a b c now past) x→Ev (fun k=>imTail k now past a b c) x:=fun past x hb h=>by
   refine En c3 (Ep c0 ?_)
   by_cases c2:a=2
   ·rw[show(b != 0)=false from bne_eq_false_iff_eq.2 om_]
    exact Ep c2 h
   ·refine En c2 ?_
    by_cases c4:a=4
    ·rw[show(b != 0)=false from bne_eq_false_iff_eq.2 om_]
     exact Ep c4 h
    ·exact En c4 h
  by_cases a0:a=0
  ·rcases times_both now nm om_ hnl with⟨s1,s2,t1,t2⟩|⟨_,t1,t2⟩
   ·refine⟨allI PT now nm,true,fun _=>allI_row s1 s2 PT_8 (by decide+kernel),fun _ _ h=>⟨s1,by rw[hone h]⟩,fun h=>by omega,?_,fun past hF hp _=>tl past _ om_ (Ev.up ?_)⟩
    ·unfold spec_l12Made.f
     rw[show(c==0)=true from beq_iff_eq.2 c0]
     refine Ep a0 (Ev.up ?_)
     simp only[spec_l12Made.j0]
     exact Ep trivial (Eb en1 (Eb t1 (Ev.now _)))
    ·simp only[impl_DeskDo.j0]
     exact En (by simp) (Ep a0 (Eb en2 (Eb t2 (im_j1 now past _ true h24 hF hp (fun _=>allI_len ..)))))
   ·refine⟨[],false,nofun,nofun,fun _=>rfl,?_,fun past hF hp _=>tl past _ om_ (Ev.up ?_)⟩
    ·unfold spec_l12Made.f
     rw[show(c==0)=true from beq_iff_eq.2 c0]
     refine Ep a0 (Ev.up ?_)
     simp only[spec_l12Made.j0]
     exact Ep trivial (Eb en1 (Eb t1 (Ev.now _)))
    ·simp only[impl_DeskDo.j0]
     exact En (by simp) (Ep a0 (Eb en2 (Eb t2 (im_j1 now past _ false h24 hF hp nofun))))
  by_cases a1:a=1
  ·have sp1:∀r o,Ev (fun k=>spec_UnitaryTimes.f k now nm) (r,o)→Ev (fun k=>spec_l12Made.f k now a b c) (r,o):=fun r o h=>by
    unfold spec_l12Made.f
    refine En a0 (Ev.up ?_)
    simp only[spec_l12Made.j0]
    rw[show(c==0)=true from beq_iff_eq.2 c0]
    refine En (by simp) (Ep a1 (Ev.up ?_))
    simp only[spec_l12Made.j1]
    exact Ep trivial (Eb en1 (Eb h (Ev.now _)))
   rcases unitary_both now nm om_ hnl with⟨s1,s2,t1,t2⟩|⟨_,t1,t2⟩
   ·refine⟨allI PU now nm,true,fun _=>allI_row s1 s2 PU_8 (by decide+kernel),fun _ h=>by omega,fun h=>by omega,sp1 _ _ t1,fun past hF hp _=>tl past _ om_ (Ev.up ?_)⟩
    simp only[impl_DeskDo.j0]
    exact En (by simp) (En a0 (Ep a1 (Eb en2 (Eb t2 (im_j1 now past _ true h24 hF hp (fun _=>allI_len ..))))))
   ·refine⟨[],false,nofun,nofun,fun _=>rfl,sp1 _ _ t1,fun past hF hp _=>tl past _ om_ (Ev.up ?_)⟩
    simp only[impl_DeskDo.j0]
    exact En (by simp) (En a0 (Ep a1 (Eb en2 (Eb t2 (im_j1 now past _ false h24 hF hp nofun)))))
  by_cases a2:a=2
  ·by_cases b0:b=0
   ·obtain⟨r,o,hr,t1,t2⟩:=inverse_both now om_
    refine⟨r,o,hr,fun _ h=>by omega,fun h=>by omega,?_,fun past hF hp _=>tl past _ om_ (Ev.up ?_)⟩
    ·unfold spec_l12Made.f
     refine En a0 (Ev.up ?_)
     simp only[spec_l12Made.j0]
     refine En (by simp) (En a1 (Ev.up ?_))
     simp only[spec_l12Made.j1]
     exact En (by simp) (Ep (by simp[a2,b0,c0]) (Eb t1 (Ev.now _)))
    ·simp only[impl_DeskDo.j0]
     exact En (by simp) (En a0 (En a1 (Ep a2 (Eb t2 (im_j1 now past _ o h24 hF hp (fun h=>rowB_len (hr h)))))))
   ·refine⟨[],false,nofun,nofun,fun _=>rfl,sp_none now a b c om_ om_ om_ c3,fun past hF hp _=>?_⟩
    rw[ft]
    refine En c3 (Ep c0 (Ep a2 ?_))
    rw[show(b != 0)=true from bne_iff_ne.2 b0]
    exact jt past
  ·refine⟨[],false,nofun,nofun,fun _=>rfl,sp_none now a b c om_ om_ om_ c3,fun past hF hp h4=>?_⟩
   by_cases a4:a=4
   ·rw[ft]
    refine En c3 (Ep c0 (En a2 (Ep a4 ?_)))
    rw[show(b != 0)=true from bne_iff_ne.2 (fun hb=>h4 ⟨a4,hb,c0⟩)]
    exact jt past
   ·refine tl past _ om_ (Ev.up ?_)
    simp only[impl_DeskDo.j0]
    exact En (by simp) (En a0 (En a1 (En a2 (En c3 (En a4 (im_j1 now past _ false h24 hF hp nofun))))))
 ·refine⟨[],false,nofun,nofun,fun _=>rfl,sp_none now a b c om_ om_ om_ c3,fun past hF hp _=>?_⟩
  rw[ft]
  exact En c3 (En c0 (jt past))
theorem deskB_full {now:List Int} {past:List (List Int)} (h:deskB now past=true):Full past∧∀x∈past,rowB x=true:=by
 obtain⟨d1,d2,d3⟩:=deskB_len h
 refine⟨⟨by omega,fun x hx=>by have:=d3 x hx;omega⟩,fun x hx=>?_⟩
 unfold deskB at h
 simp only[Bool.and_eq_true]at h
 obtain⟨i,hi,rfl⟩:=List.mem_iff_getElem.1 hx
 have:=allF_at _ _ _ h.1 i om_ om_
 rwa [List.getD_eq_getElem?_getD,List.getElem?_eq_getElem hi]at this
theorem deskB_row {now:List Int} {past:List (List Int)} (h:deskB now past=true):rowB now=true:=by
 unfold deskB at h
 simp only[Bool.and_eq_true]at h
 exact h.2.1
theorem deskB_of {now:List Int} {past:List (List Int)} (h1:rowB now=true) (h2:past.length≤8) (h3:∀x∈past,rowB x=true):deskB now past=true:=by
 unfold deskB
 simp only[Bool.and_eq_true,decide_eq_true_eq]
 refine⟨allF_of _ _ _ (fun j _ hj=>?_),h1,by omega⟩
 rw[List.getD_eq_getElem?_getD,List.getElem?_eq_getElem om_]
 exact h3 _ (List.getElem_mem _)
theorem trimP_row {now:List Int} {past:List (List Int)} (h1:rowB now=true) (h2:past.length≤8) (h3:∀x∈past,rowB x=true):(trimP past now).length ≤8∧∀x∈trimP past now,rowB x=true:=by
 have hm:∀x∈past++[now],rowB x=true:=fun x hx=>by
  rcases List.mem_append.1 hx with h|h
  ·exact h3 x h
  ·rw[List.mem_singleton.1 h];exact h1
 unfold trimP
 by_cases c:((past++[now]).length :Int)>8
 ·rw[if_pos c]
  refine⟨?_,fun x hx=>hm x (List.mem_of_mem_drop hx)⟩
  rw[List.length_drop]
  simp only[List.length_append,List.length_cons,List.length_nil]
  omega
 ·rw[if_neg c]
  exact⟨by omega,hm⟩
theorem back_both (now:List Int) (past:List (List Int)) (h:deskB now past=true) (hp:0<past.length):Ev (fun k=>spec_DeskDo.f k now past 4 0 0) (past.getD (past.length-1) [],past.take (past.length-1),true)∧Ev (fun k=>impl_DeskDo.f k now past 4 0 0) (past.getD (past.length-1) [],past.take (past.length-1),true):=by
 obtain⟨d1,d2,d3⟩:=deskB_len h
 obtain⟨hF,hr⟩:=deskB_full h
 have hl:∀x∈past,x.length≤1000000000:=fun x hx=>by have:=d3 x hx;omega
 have eo:=spec_desk now past om_ om_ hl
 have ei:=impl_desk now past om_ om_ hl
 rw[h]at eo ei
 have ec:=sp_copy now past om_ om_ (fun x hx=>by have:=d3 x hx;omega)
 have ek:=im_copy now past om_ om_ hF
 constructor
 ·unfold spec_DeskDo.f
  refine Eb eo (Ep rfl (Eb ec (Ep rfl ?_)))
  rw[show(decide ((past.length:Int)>0))=true from decide_eq_true om_]
  refine Ev.up ?_
  simp only[spec_DeskDo.j0]
  exact Ep trivial (Ep ⟨hp,by omega⟩ (Ev.now _))
 ·unfold impl_DeskDo.f
  refine Eb ei (Ep rfl (Eb ek (En om_ (Ep rfl (En om_ (Ep rfl (Ev.up ?_)))))))
  simp only[impl_DeskDo.j0]
  exact En (by simp) (En om_ (En om_ (En om_ (En om_ (Ep trivial (En om_ (Ep om_ (Ev.now _))))))))
structure Done (now:List Int) (past:List (List Int)) (a b c:Int) (r1:List Int) (r2:List (List Int)) (r3:Bool):Prop where
 spec:Ev (fun k=>spec_DeskDo.f k now past a b c) (r1,r2,r3)
 impl:Ev (fun k=>impl_DeskDo.f k now past a b c) (r1,r2,r3)
 bad:deskB now past=false→r1=[]∧r2=[]∧r3=false
 not:deskB now past=true→r3=false→r1=now∧r2=past
 ok:r3=true→deskB now past=true∧deskB r1 r2=true
 pushed:r3=true→a≠4→r2=trimP past now
 times:r3=true→a=0→b=1→smallB now=true∧r1=allI PT now ones
theorem do_both (now:List Int) (past:List (List Int)) (a b c:Int) (h1:now.length≤1000000) (h2:past.length≤1000000) (h3:∀x∈past,x.length≤1000000):∃r1 r2 r3,Done now past a b c r1 r2 r3:=by
 have hl:∀x∈past,x.length≤1000000000:=fun x hx=>by have:=h3 x hx;omega
 have eo:=spec_desk now past om_ om_ hl
 have ei:=impl_desk now past om_ om_ hl
 cases h:deskB now past with
 |false=>
  rw[h]at eo ei
  refine⟨[],[],false,?_,?_,fun _=>⟨rfl,rfl,rfl⟩,fun e=>(by rw[h]at e;cases e),nofun,nofun,nofun⟩
  ·unfold spec_DeskDo.f
   exact Eb eo (En (by simp) (Ev.now _))
  ·unfold impl_DeskDo.f
   exact Eb ei (En (by simp) (Ev.now _))
 |true=>
  obtain⟨d1,d2,d3⟩:=deskB_len h
  obtain⟨hF,hr⟩:=deskB_full h
  have hrow:=deskB_row h
  by_cases hb:(a=4∧b=0∧c=0)∧0<past.length
  ·obtain⟨⟨rfl,rfl,rfl⟩,hp⟩:=hb
   obtain⟨e1,e2⟩:=back_both now past h hp
   refine⟨_,_,_,e1,e2,fun e=>(by rw[h]at e;cases e),nofun,fun _=>⟨h,deskB_of (hr _ ?_) ?_ (fun x hx=>hr x (List.mem_of_mem_take hx))⟩,fun _ h=>absurd rfl h,fun _ h=>by omega⟩
   ·rw[List.getD_eq_getElem?_getD,List.getElem?_eq_getElem om_]
    exact List.getElem_mem _
   ·rw[List.length_take];omega
  ·rw[h]at eo ei
   have ec:=sp_copy now past om_ om_ h3
   have ek:=im_copy now past om_ om_ hF
   obtain⟨r,o,q1,q2,q3,q4,q5⟩:=made_both now a b c hrow
   have es:Ev (fun k=>spec_DeskDo.f k now past a b c) (fin now past r o):=by
    have hj:=sp_j0 now past a b c r o d1 d2 (fun e=>rowB_len (q1 e)) q4
    unfold spec_DeskDo.f
    refine Eb eo (Ep rfl (Eb ec ?_))
    by_cases cb:(a==4&&(b==0&&(c==0)))=true
    ·refine Ep cb ?_
     simp only[Bool.and_eq_true,beq_iff_eq]at cb
     rw[show(decide ((past.length:Int)>0))=false from decide_eq_false (fun hp=>hb ⟨cb,by omega⟩)]
     exact hj
    ·exact En cb hj
   have em:Ev (fun k=>impl_DeskDo.f k now past a b c) (fin now past r o):=by
    unfold impl_DeskDo.f
    refine Eb ei (Ep rfl (Eb ek ?_))
    by_cases c4:a=4∧b=0∧c=0
    ·have hp:past.length=0:=by
      refine Nat.eq_zero_of_not_pos (fun hp=>hb ⟨c4,hp⟩)
     obtain⟨rfl,rfl,rfl⟩:=c4
     rw[show fin now past r o=(now,past,false)from if_neg (by rw[q3 rfl];simp)]
     refine En om_ (Ep rfl (En om_ (Ep rfl (Ev.up ?_))))
     simp only[impl_DeskDo.j0]
     exact En (by simp) (En om_ (En om_ (En om_ (En om_ (Ep trivial (Ep hp (Ev.now _)))))))
    ·exact q5 past hF d2 c4
   by_cases cf:o=true∧r≠now
   ·rw[show fin now past r o=(r,trimP past now,true)from if_pos cf]at es em
    obtain⟨t1,t2⟩:=trimP_row hrow d2 hr
    exact⟨_,_,_,es,em,fun e=>(by rw[h]at e;cases e),nofun,fun _=>⟨h,deskB_of (q1 cf.1) t1 t2⟩,fun _ _=>rfl,fun _=>q2 cf.1⟩
   ·rw[show fin now past r o=(now,past,false)from if_neg cf]at es em
    exact⟨_,_,_,es,em,fun e=>(by rw[h]at e;cases e),fun _ _=>⟨rfl,rfl⟩,nofun,nofun,nofun⟩
theorem sp_do (now:List Int) (past:List (List Int)) (a b c:Int) (hs:Sz now past):∃r1 r2 r3,Sz r1 r2∧(r3=true→r1.length=24)∧Ev (fun k=>spec_DeskDo.f k now past a b c) (r1,r2,r3):=by
 obtain⟨s1,s2,s3⟩:=hs
 obtain⟨r1,r2,r3,d⟩:=do_both now past a b c om_ om_ (fun x hx=>by have:=s3 x hx;omega)
 refine⟨r1,r2,r3,?_,fun h=>rowB_len (deskB_row (d.ok h).2),d.spec⟩
 cases r3 with
 |true=>
  obtain⟨l1,l2,l3⟩:=deskB_len (d.ok rfl).2
  exact⟨by omega,by omega,fun x hx=>by have:=l3 x hx;omega⟩
 |false=>
  cases h:deskB now past with
  |true=>
   obtain⟨rfl,rfl⟩:=d.not h rfl
   exact⟨s1,s2,s3⟩
  |false=>
   obtain⟨rfl,rfl,_⟩:=d.bad h
   exact⟨by simp,by simp,nofun⟩
theorem digB_sz (n:Nat) (h:n≤9223372036854775808):(digB (n:Int)).size ≤20:=by
 rw[digB_nat]
 show(Go.Lib.decDigits n).toArray.size ≤20
 rw[List.size_toArray,Go.Lib.decDigits_length]
 exact nDigits_pow 19 n om_
theorem spec_number:∀(m n:Nat),n≤m→n≤9223372036854775807→Ev (fun k=>spec_l1Number.f k (n:Int)) (digB (n:Int)):=by
 intro m
 induction m with
 |zero=>
  intro n hn hb
  obtain rfl:n=0:=by omega
  rw[digB_nat,Go.Lib.decDigits_one om_]
  refine Es (f:=fun k=>spec_l1Number.j0 k 0 false) (fun k=>?_) (Es (f:=fun _=>some (strOfNums [((48+0:Nat):Int)%256])) (fun k=>?_) ?_)
  ·simp only[spec_l1Number.f];rfl
  ·simp only[spec_l1Number.j0];rw[if_neg (by simp),if_neg om_,if_pos om_,w64 om_ om_];rfl
  ·rw[strOf_one];exact Ev.now _
 |succ m ih=>
  intro n hn hb
  rw[digB_nat]
  refine Es (f:=fun k=>spec_l1Number.j0 k (n:Int) false) (fun k=>?_) ?_
  ·simp only[spec_l1Number.f];rw[if_neg om_]
  by_cases h:n<10
  ·rw[Go.Lib.decDigits_one h,←strOf_one]
   refine Es (f:=fun k=>some _) (fun k=>?_) (Ev.now _)
   simp only[spec_l1Number.j0]
   rw[if_neg (by simp),if_neg om_,if_pos om_,w64 om_ om_]
   rfl
  ·have h1:=ih (n / 10) om_ om_
   have hsz:=digB_sz (n / 10) om_
   refine Es (f:=fun k=>(spec_l1Number.f k ((n / 10:Nat):Int)).bind fun t=>if t.size+(strOfNums [((48+n%10:Nat):Int)%256]).size ≤9223372036854775807 then some (t++strOfNums [((48+n%10:Nat):Int)%256])else none) (fun k=>?_) (Eb h1 ?_)
   ·simp only[spec_l1Number.j0]
    rw[if_neg (by simp),if_neg om_,if_neg om_,show(10:Int)=((10:Nat):Int)from rfl,tdiv_nat,tmod_nat,w64 om_ om_,w64 om_ om_]
    rfl
   ·rw[strOf_one]
    refine Ep ?_ ?_
    ·have:(⟨[UInt8.ofNat (48+n%10)].toArray⟩:ByteArray).size =1:=rfl
     omega
    ·rw[digB_nat,bytes_append]
     have e:Go.Lib.decDigits n=Go.Lib.decDigits (n / 10)++[UInt8.ofNat (48+n%10)]:=by rw[Go.Lib.decDigits,dif_neg h]
     rw[e]
     exact Ev.now _
theorem digB_neg {n:Nat} (h:0<n):digB (-(n:Int))=(⟨#[45]⟩:ByteArray)++digB (n:Int):=by
 rw[digB_nat]
 unfold digB Go.Lib.itoa
 rw[if_pos om_,Int.natAbs_neg,Int.natAbs_natCast]
 exact(bytes_append [45] (Go.Lib.decDigits n)).symm
def okZ (x:Int):Prop:= -9223372036854775808≤x∧x≤9223372036854775807
theorem okW (x:Int):okZ (wrap64 x):=by unfold okZ wrap64;omega
theorem spec_numZ (x:Int) (hx:okZ x):Ev (fun k=>spec_l1Number.f k x) (digB x):=by
 obtain⟨h1,h2⟩:=hx
 by_cases hm:x= -9223372036854775808
 ·subst hm
  have e:digB (-9223372036854775808)=(⟨#[45,57,50,50,51,51,55,50,48,51,54,56,53,52,55,55,53,56,48,56]⟩:ByteArray):=by decide+kernel
  rw[e]
  refine Es (f:=fun k=>spec_l1Number.j0 k (-9223372036854775808) true) (fun k=>?_) (Es (fun k=>?_) (Ev.now _))
  ·simp only[spec_l1Number.f]
   rw[if_pos om_]
   congr 1
   decide+kernel
  ·simp only[spec_l1Number.j0]
   rw[if_pos trivial]
 by_cases h:x<0
 ·obtain⟨n,rfl⟩:∃n:Nat,x= -(n:Int):=⟨x.natAbs,by omega⟩
  rw[digB_neg om_]
  have hs:=digB_sz n om_
  refine Es (f:=fun k=>spec_l1Number.j0 k (-(n:Int)) false) (fun k=>?_) (Es (f:=fun k=>(spec_l1Number.f k (n:Int)).bind fun t=>if 1+t.size≤9223372036854775807 then some ((⟨#[45]⟩:ByteArray)++t)else none) (fun k=>?_) (Eb (spec_number n n (Nat.le_refl _) om_) (Ep om_ (Ev.now _))))
  ·simp only[spec_l1Number.f]
   rw[if_pos h,w64 om_ om_]
   congr 1
   rw[beq_eq_false_iff_ne]
   omega
  ·simp only[spec_l1Number.j0]
   rw[if_neg (by simp),if_pos h,w64 om_ om_,Int.neg_neg]
 ·obtain⟨n,rfl⟩:∃n:Nat,x=n:=⟨x.toNat,by omega⟩
  exact spec_number n n (Nat.le_refl _) om_
theorem itoa_ev {x:Int} (hx:okZ x):strconv_Itoa.f x=some (digB x):=by
 obtain⟨h1,h2⟩:=hx
 unfold strconv_Itoa.f
 rw[if_pos om_,if_pos om_]
 rfl
theorem digB_szZ {x:Int} (hx:okZ x):(digB x).size ≤21:=by
 obtain⟨h1,h2⟩:=hx
 by_cases h:x<0
 ·obtain⟨n,rfl⟩:∃n:Nat,x= -(n:Int):=⟨x.natAbs,by omega⟩
  have:=digB_sz n om_
  rw[digB_neg om_,ByteArray.size_append,show(⟨#[45]⟩:ByteArray).size =1 from rfl]
  omega
 ·obtain⟨n,rfl⟩:∃n:Nat,x=n:=⟨x.toNat,by omega⟩
  have:=digB_sz n om_
  omega
def jn (c:UInt8) (l:List ByteArray):ByteArray:=bw (Go.Lib.join (l.map (·.data.toList)) [c])
theorem jn_one (c:UInt8) (y:ByteArray):jn c [y]=y:=by
 unfold jn
 rw[List.map_cons,List.map_nil,Go.Lib.join_one,bw_data]
theorem jn_snoc (c:UInt8) {l:List ByteArray} (h:l≠[]) (y:ByteArray):jn c (l++[y])=(jn c l++bw [c])++y:=by
 obtain⟨x,r,rfl⟩:=List.exists_cons_of_ne_nil h
 apply bw_inj
 unfold jn
 rw[data_app,data_app,data_bw,data_bw,data_bw]
 simp[Go.Lib.join_cons,Go.Lib.joinTail]
theorem jn_size (c:UInt8) (b:Nat) (l:List ByteArray) (h:∀x∈l,x.size≤b):(jn c l).size ≤l.length*(b+1):=by
 have key:∀(m:Nat) (l:List ByteArray),l.length=m→(∀x∈l,x.size≤b)→(jn c l).size ≤l.length*(b+1):=by
  intro m
  induction m with
  |zero=>
   intro l hl _
   obtain rfl:=List.eq_nil_of_length_eq_zero hl
   exact Nat.zero_le _
  |succ m ih=>
   intro l hl hb
   obtain⟨p,y,rfl⟩:∃p y,l=p++[y]:=⟨l.dropLast,l.getLast (by intro e;subst e;cases hl),(List.dropLast_concat_getLast _).symm⟩
   have h1:=hb y (by simp)
   have h2:=ih p (by simpa using hl) (fun x hx=>hb x (by simp[hx]))
   rw[List.length_append,Nat.add_mul]
   by_cases hp:p=[]
   ·subst hp
    rw[List.nil_append,jn_one]
    simp;omega
   ·rw[jn_snoc c hp,ByteArray.size_append,ByteArray.size_append,show(bw [c]).size =1 from rfl]
    simp;omega
 exact key l.length l rfl h
theorem join_f (c:UInt8) (b:Nat) (l:List ByteArray) (hl:l.length≤20000) (hb:b≤100) (h:∀x∈l,x.size≤b):strings_Join.f l (bw [c])=some (jn c l):=by
 unfold strings_Join.f
 have h1:=jn_size c b l h
 have h2:(jn c l).size =(Go.Lib.join (l.map (·.data.toList)) [c]).length :=bw_size _
 have h3:l.length*(b+1)≤20000*(b+1):=Nat.mul_le_mul_right _ hl
 have h4:(bw [c]).data.toList =[c]:=rfl
 rw[h4,if_pos ⟨by omega,by omega⟩]
 rfl
theorem take_snoc {α:Type} {l:List α} {i:Nat} {x:α} (h:l[i]? =some x):l.take (i+1)=l.take i++[x]:=by rw[List.take_add_one,h];rfl
theorem rd_at {l:List Int} {i:Nat} {x:Int} (h:l[i]? =some x):rd l (i:Int)=x:=by unfold rd;simp[List.getD,h]
def rowJ (l:List Int):ByteArray:=jn 44 (l.map digB)
theorem rowText_impl (l:List Int) (hl:l.length≤20000) (hb:∀x∈l,okZ x):Ev (fun k=>impl_rowText.f k l) (rowJ l):=by
 have key:∀(r:List Int) (i:Nat),l.drop i=r→i≤l.length→Ev (fun k=>impl_rowText.l0 k ((l.take i).map digB) l (l.length:Int) (i:Int)) (rowJ l):=by
  intro r
  induction r with
  |nil=>
   intro i hd hi
   have:l.length≤i:=List.drop_eq_nil_iff.1 hd
   refine Es (fun k=>?_) (Ev.now _)
   simp only[impl_rowText.l0]
   rw[if_neg om_,List.take_of_length_le this]
   have:=join_f 44 21 (l.map digB) (by simpa using hl) om_ (fun x hx=>by obtain⟨y,hy,rfl⟩:=List.mem_map.1 hx;exact digB_szZ (hb y hy))
   rw[show(⟨#[44]⟩:ByteArray)=bw [44]from rfl,this]
   rfl
  |cons x r ih=>
   intro i hd hi
   obtain⟨hlt,hx,hr⟩:=drop_at hd
   refine Es (fun k=>?_) (ih (i+1) hr hlt)
   simp only[impl_rowText.l0,rd_at hx,itoa_ev (hb x (List.mem_of_getElem? hx)),Option.bind_some]
   rw[if_pos om_,if_pos om_,if_pos om_,if_pos (by simp;omega),w64 om_ om_,take_snoc hx,List.map_append]
   rfl
 exact key l 0 rfl (Nat.zero_le _)
theorem rowText_spec (l:List Int) (h0:l≠[]) (hl:l.length≤20000) (hb:∀x∈l,okZ x):Ev (fun k=>spec_l12Row.f k l) (rowJ l):=by
 have key:∀(r:List Int) (i:Nat),l.drop i=r→i≤l.length→Ev (fun k=>spec_l12Row.l0 k l (rowJ (l.take i)) (i:Int)) (rowJ l):=by
  intro r
  induction r with
  |nil=>
   intro i hd hi
   have:l.length≤i:=List.drop_eq_nil_iff.1 hd
   refine Es (fun k=>?_) (Ev.now _)
   simp only[spec_l12Row.l0]
   have:=List.length_pos_iff.2 h0
   rw[if_neg om_,if_neg om_,List.take_of_length_le om_]
  |cons x r ih=>
   intro i hd hi
   obtain⟨hlt,hx,hr⟩:=drop_at hd
   have hxb:=hb x (List.mem_of_getElem? hx)
   have hsz:=digB_szZ hxb
   have hj:=jn_size 44 21 ((l.take i).map digB) (fun x hx=>by obtain⟨y,hy,rfl⟩:=List.mem_map.1 hx;exact digB_szZ (hb y (List.mem_of_mem_take hy)))
   rw[List.length_map,List.length_take,Nat.min_eq_left hi]at hj
   have hj2:(rowJ (l.take i)).size ≤20000*22:=Nat.le_trans hj (Nat.mul_le_mul_right _ om_)
   have ih:=ih (i+1) hr hlt
   have e:((i:Int)+1)=((i+1:Nat):Int):=rfl
   by_cases hi0:i=0
   ·subst hi0
    have e1:rowJ (l.take (0+1))=rowJ (l.take 0)++digB x:=by
     rw[take_snoc hx]
     show jn 44 [digB x]=bw []++digB x
     rw[jn_one]
     apply bw_inj;rw[data_app];rfl
    rw[e1]at ih
    refine Es (f:=fun k=>(spec_l1Number.f k x).bind fun t=>if(rowJ (l.take 0)).size +t.size≤9223372036854775807 then spec_l12Row.l0 k l (rowJ (l.take 0)++t) ((0+1:Nat):Int)else none) (fun k=>?_) (Eb (spec_numZ x hxb) (Ep om_ ih))
    simp only[spec_l12Row.l0,rd_at hx]
    rw[if_pos om_,if_neg om_,if_pos om_,w64 om_ om_]
    rfl
   ·have hne:(l.take i).map digB≠[]:=by
     intro hz
     have:=congrArg List.length hz
     rw[List.length_map,List.length_take,List.length_nil]at this
     omega
    have e1:rowJ (l.take (i+1))=(rowJ (l.take i)++(⟨#[44]⟩:ByteArray))++digB x:=by
     unfold rowJ
     rw[take_snoc hx,List.map_append]
     exact jn_snoc 44 hne (digB x)
    rw[e1]at ih
    refine Es (f:=fun k=>(spec_l1Number.f k x).bind fun t=>if(rowJ (l.take i)++(⟨#[44]⟩:ByteArray)).size +t.size≤9223372036854775807 then spec_l12Row.l0 k l ((rowJ (l.take i)++(⟨#[44]⟩:ByteArray))++t) ((i+1:Nat):Int)else none) (fun k=>?_) (Eb (spec_numZ x hxb) (Ep ?_ ih))
    ·simp only[spec_l12Row.l0,rd_at hx]
     rw[if_pos om_,if_pos om_,if_pos om_,if_pos om_,w64 om_ om_]
     rfl
    ·rw[ByteArray.size_append,show(⟨#[44]⟩:ByteArray).size =1 from rfl]
     omega
 exact key l 0 rfl (Nat.zero_le _)
theorem sq_cast (a:Nat):(a:Int)*(a:Int)=((a*a:Nat):Int):=by simp
theorem sq_le {a m:Nat} (h:a≤m):a*a≤m*m:=Nat.mul_le_mul h h
theorem spec_strip (z:Int) (x:List (List Int)) (hx:x.length≤1000) (p:Nat) (hp:2≤p) (hp2:p≤10000) (R:List (List Int)):∀(f n c:Nat),1≤n→n≤10000→n<2 ^ f→c+f≤1000→
  Ev (fun k=>spec_FactorsOf.l0 k z (if 0<(strip f n p c).2 then x++[[(p:Int),((strip f n p c).2:Int)]]else x) ((strip f n p c).1:Int) ((p:Int)+1)) R→
  Ev (fun k=>spec_FactorsOf.l1 k z x (n:Int) (p:Int) (c:Int)) R:=by
 intro f
 induction f with
 |zero=>intro n c h1 _ h2;simp at h2;omega
 |succ f ih=>
  intro n c h1 h3 h2 hc hR
  by_cases h:n%p=0
  ·have e:=Nat.mul_div_cancel' (Nat.dvd_of_mod_eq_zero h)
   have hq1:1≤n / p:=by
    refine Nat.pos_of_ne_zero (fun hz=>?_)
    rw[hz]at e;omega
   have hq2:n / p<2 ^ f:=by
    have:2*(n / p)≤p*(n / p):=Nat.mul_le_mul_right _ hp
    rw[Nat.pow_succ]at h2
    omega
   have hq3:n / p≤10000:=Nat.le_trans (Nat.div_le_self _ _) h3
   simp only[strip,if_pos h]at hR
   refine Es (fun k=>?_) (ih (n / p) (c+1) hq1 hq3 hq2 om_ hR)
   simp only[spec_FactorsOf.l1,tmod_nat,tdiv_nat]
   generalize n / p=q at*
   rw[if_neg om_,if_pos om_,w64 (n:=(q:Int)) om_ om_,w64 (n:=(c:Int)+1) om_ om_]
   rfl
  ·simp only[strip,if_neg h]at hR
   refine Es (fun k=>?_) hR
   simp only[spec_FactorsOf.l1,tmod_nat]
   rw[if_neg om_,if_neg om_]
   by_cases hc0:0<c
   ·rw[if_pos om_,if_pos om_,if_pos hc0,w64 om_ om_]
   ·rw[if_neg om_,if_neg hc0,w64 om_ om_]
theorem spec_fac_step {z:Int} (hz:1≤z∧z≤10000) (x R:List (List Int)) (n p:Nat) (h:p≤n) (k:Ev (fun k=>spec_FactorsOf.l1 k z x (n:Int) (p:Int) 0) R):
  Ev (fun k=>spec_FactorsOf.l0 k z x (n:Int) (p:Int)) R:=by
 refine Es (f:=fun k=>spec_FactorsOf.j1 k z x (n:Int) (p:Int) true) (fun k=>?_) (Es (fun k=>?_) k)
 ·simp only[spec_FactorsOf.l0]
  rw[if_pos om_,l1In_eq,decide_eq_true hz]
  rfl
 ·simp only[spec_FactorsOf.j1,if_true]
theorem spec_fac_end (z:Int) (x:List (List Int)) (n p:Nat) (h:n<p):Ev (fun k=>spec_FactorsOf.l0 k z x (n:Int) (p:Int)) x:=by
 refine Es (f:=fun k=>spec_FactorsOf.j1 k z x (n:Int) (p:Int) false) (fun k=>?_) (Es (fun k=>?_) (Ev.now _))
 ·simp only[spec_FactorsOf.l0]
  rw[if_neg om_]
 ·simp only[spec_FactorsOf.j1]
  rw[if_neg (by simp)]
theorem spec_fac_tail {z:Int} (hz:1≤z∧z≤10000) (x:List (List Int)) (hx:x.length≤900) (n:Nat) (h1:1<n) (h2:n≤10000):∀(m p:Nat),p+m=n→2≤p→n<p*p→(∀q,2≤q→q<p→n%q≠0)→
  Ev (fun k=>spec_FactorsOf.l0 k z x (n:Int) (p:Int)) (x++[[(n:Int),1]]):=by
 intro m
 induction m with
 |zero=>
  intro p hp hp2 hpp hq
  have e:p=n:=by omega
  subst e
  have hs:=strip_self (show 2≤p by omega)
  refine spec_fac_step hz x _ p p (Nat.le_refl _) (spec_strip z x om_ p om_ h2 _ 14 p 0 om_ h2 om_ om_ ?_)
  rw[hs]
  exact spec_fac_end z _ 1 (p+1) om_
 |succ m ih=>
  intro p hp hp2 hpp hq
  have hnd:n%p≠0:=by
   intro h0
   have e:=Nat.mul_div_cancel' (Nat.dvd_of_mod_eq_zero h0)
   generalize n / p=q at*
   have hq2:2≤q:=by
    refine Nat.le_of_not_lt (fun h=>?_)
    have:q=0∨q=1:=by omega
    rcases this with rfl|rfl <;> omega
   have hqp:q<p:=by
    refine Nat.lt_of_not_le (fun h=>?_)
    have:p*p≤p*q:=Nat.mul_le_mul_left p h
    omega
   exact hq q hq2 hqp (by rw[←e];exact Nat.mul_mod_left _ _)
  refine spec_fac_step hz x _ n p om_ (spec_strip z x om_ p om_ om_ _ 14 n 0 om_ h2 om_ om_ ?_)
  rw[strip_none hnd]
  refine ih (p+1) om_ om_ ?_ (fun q hq1 hq2=>?_)
  ·have:p*p≤(p+1)*(p+1):=Nat.mul_le_mul om_ om_
   omega
  ·by_cases e:q=p
   ·subst e;exact hnd
   ·exact hq q hq1 om_
theorem spec_facL {z:Int} (hz:1≤z∧z≤10000):∀(m f n p:Nat) (x:List (List Int)),n+1-p≤m→1≤n→n≤10000→2≤p→(∀q,2≤q→q<p→n%q≠0)→(n≤1∨(103≤p+f∧1≤f))→x.length+f≤500→
  Ev (fun k=>spec_FactorsOf.l0 k z x (n:Int) (p:Int)) (x++fints (facI f n p)):=by
 intro m
 induction m with
 |zero=>
  intro f n p x hm h1 h2 h3 hq h5 h6
  have hn:¬1<n:=fun hn=>hq n om_ om_ (Nat.mod_self n)
  rw[facI_one _ _ om_]
  rw[show x++fints []=x by simp[fints]]
  exact spec_fac_end z x n p om_
 |succ m ih=>
  intro f n p x hm h1 h2 h3 hq h5 h6
  by_cases hn:1<n
  ·by_cases hc:n<p*p
   ·obtain⟨f,rfl⟩:∃g,f=g+1:=⟨f-1,by omega⟩
    rw[facI_prime f p hn hc]
    have hpn:p≤n:=Nat.le_of_not_lt (fun h=>hq n om_ h (Nat.mod_self n))
    exact spec_fac_tail hz x om_ n hn h2 (n-p) p om_ h3 hc hq
   ·have hp100:p≤100:=by
     refine Nat.le_of_not_lt (fun hp=>?_)
     have:101*101≤p*p:=sq_le hp
     omega
    have hpn:p*2≤p*p:=Nat.mul_le_mul_left p h3
    obtain⟨f,rfl⟩:∃g,f=g+1:=⟨f-1,by omega⟩
    obtain⟨s1,s2,s3,s4,s5,s6,s7⟩:=strip_spec p h3 14 n 0 h1 om_
    have e:x++fints (facI (f+1) n p)=(if 0<(strip 14 n p 0).2 then x++[[(p:Int),((strip 14 n p 0).2:Int)]]else x)++fints (facI f (strip 14 n p 0).1 (p+1)):=by
     have hc':¬(p*p>n):=hc
     rw[facI_succ,if_pos hn]
     simp only[if_neg hc']
     split <;> simp[fints]
    rw[e]
    have hlen:(if 0<(strip 14 n p 0).2 then x++[[(p:Int),((strip 14 n p 0).2:Int)]]else x).length +f≤500:=by
     by_cases hcc:0<(strip 14 n p 0).2
     ·rw[if_pos hcc];simp;omega
     ·rw[if_neg hcc];omega
    refine spec_fac_step hz x _ n p om_ (spec_strip z x om_ p h3 om_ _ 14 n 0 h1 h2 om_ om_ ?_)
    refine ih f (strip 14 n p 0).1 (p+1) _ om_ s1 om_ om_ (fun q hq1 hq2 h0=>?_) (.inr ⟨by omega,by omega⟩) hlen
    by_cases e:q=p
    ·subst e;exact s4 h0
    ·refine hq q hq1 om_ (Nat.mod_eq_zero_of_dvd (Nat.dvd_trans (Nat.dvd_of_mod_eq_zero h0) s3))
  ·rw[facI_one _ _ om_,show x++fints []=x by simp[fints]]
   exact spec_fac_end z x n p om_
theorem spec_fac {n:Nat} (h1:1≤n) (h2:n≤10000):Ev (fun k=>spec_FactorsOf.f k (n:Int)) (fints (fac n)):=by
 unfold spec_FactorsOf.f
 have h:=spec_facL (z:=(n:Int)) ⟨by omega,by omega⟩ n 101 n 2 [] om_ h1 h2 om_ (fun q h1 h2=>by omega) (.inr ⟨by omega,by omega⟩) (by simp)
 rw[List.nil_append]at h
 exact h
theorem impl_strip (x:List (List Int)) (hx:x.length≤1000) (p:Nat) (hp:2≤p) (hp2:p≤10000) (R:List (List Int)):∀(f n c:Nat),1≤n→n≤10000→n<2 ^ f→c+f≤1000→
  Ev (fun k=>impl_factors.l0 k ((strip f n p c).1:Int) (if 0<(strip f n p c).2 then x++[[(p:Int),((strip f n p c).2:Int)]]else x) ((p:Int)+1)) R→
  Ev (fun k=>impl_factors.l1 k (n:Int) x (p:Int) (c:Int)) R:=by
 intro f
 induction f with
 |zero=>intro n c h1 _ h2;simp at h2;omega
 |succ f ih=>
  intro n c h1 h3 h2 hc hR
  by_cases h:n%p=0
  ·have e:=Nat.mul_div_cancel' (Nat.dvd_of_mod_eq_zero h)
   have hq1:1≤n / p:=by
    refine Nat.pos_of_ne_zero (fun hz=>?_)
    rw[hz]at e;omega
   have hq2:n / p<2 ^ f:=by
    have:2*(n / p)≤p*(n / p):=Nat.mul_le_mul_right _ hp
    rw[Nat.pow_succ]at h2
    omega
   have hq3:n / p≤10000:=Nat.le_trans (Nat.div_le_self _ _) h3
   simp only[strip,if_pos h]at hR
   refine Es (fun k=>?_) (ih (n / p) (c+1) hq1 hq3 hq2 om_ hR)
   simp only[impl_factors.l1,tmod_nat,tdiv_nat]
   generalize n / p=q at*
   rw[if_neg om_,if_pos om_,w64 (n:=(q:Int)) om_ om_,w64 (n:=(c:Int)+1) om_ om_]
   rfl
  ·simp only[strip,if_neg h]at hR
   refine Es (fun k=>?_) hR
   simp only[impl_factors.l1,tmod_nat]
   rw[if_neg om_,if_neg om_]
   by_cases hc0:0<c
   ·rw[if_pos om_,if_pos om_,if_pos hc0,w64 om_ om_]
   ·rw[if_neg om_,if_neg hc0,w64 om_ om_]
theorem impl_facL:∀(f n p:Nat) (x:List (List Int)),1≤n→n≤10000→2≤p→p≤10001→(n≤1∨(103≤p+f∧1≤f))→x.length+f≤500→
  Ev (fun k=>impl_factors.l0 k (n:Int) x (p:Int)) (x++fints (facI f n p)):=by
 intro f
 induction f with
 |zero=>
  intro n p x h1 h2 h3 h4 h5 h6
  have hn:n=1:=by omega
  subst hn
  refine Es (fun k=>?_) (Ev.now _)
  simp only[impl_factors.l0]
  rw[if_neg om_]
  simp[facI,fints]
 |succ f ih=>
  intro n p x h1 h2 h3 h4 h5 h6
  by_cases hn:1<n
  ·have hpp:p*p≤10001*10001:=sq_le h4
   by_cases hc:p*p>n
   ·
    have hs:=strip_self (show 2≤n by omega)
    have ih:=ih 1 (n+1) (x++[[(n:Int),1]]) om_ om_ om_ om_ om_ (by simp;omega)
    have h:=impl_strip x om_ n om_ h2 (x++[[(n:Int),1]]++fints (facI f 1 (n+1))) 14 n 0 h1 h2 om_ om_ (by rw[hs];exact ih)
    have e:x++fints (facI (f+1) n p)=x++[[(n:Int),1]]++fints (facI f 1 (n+1)):=by
     rw[facI_prime f p hn hc,facI_one f _ (Nat.le_refl _)];simp[fints]
    rw[e]
    refine Es (f:=fun k=>impl_factors.j1 k (n:Int) x (n:Int)) (fun k=>?_) (Es (fun k=>?_) h)
    ·simp only[impl_factors.l0,sq_cast]
     rw[if_pos om_,w64 (n:=((p*p:Nat):Int)) om_ om_,if_pos om_]
    ·simp only[impl_factors.j1]
     rfl
   ·have hp100:p≤100:=by
     refine Nat.le_of_not_lt (fun hp=>?_)
     have:101*101≤p*p:=sq_le hp
     omega
    obtain⟨s1,s2,s3,s4,s5,s6,s7⟩:=strip_spec p h3 14 n 0 h1 om_
    have e:x++fints (facI (f+1) n p)=(if 0<(strip 14 n p 0).2 then x++[[(p:Int),((strip 14 n p 0).2:Int)]]else x)++fints (facI f (strip 14 n p 0).1 (p+1)):=by
     rw[facI_succ,if_pos hn]
     simp only[if_neg hc]
     split <;> simp[fints]
    rw[e]
    have hlen:(if 0<(strip 14 n p 0).2 then x++[[(p:Int),((strip 14 n p 0).2:Int)]]else x).length +f≤500:=by
     by_cases hcc:0<(strip 14 n p 0).2
     ·rw[if_pos hcc];simp;omega
     ·rw[if_neg hcc];omega
    have ih:=ih (strip 14 n p 0).1 (p+1) (if 0<(strip 14 n p 0).2 then x++[[(p:Int),((strip 14 n p 0).2:Int)]]else x) s1 om_ om_ om_ (.inr ⟨by omega,by omega⟩) hlen
    have h:=impl_strip x om_ p h3 om_ _ 14 n 0 h1 h2 om_ om_ ih
    refine Es (f:=fun k=>impl_factors.j1 k (n:Int) x (p:Int)) (fun k=>?_) (Es (fun k=>?_) h)
    ·simp only[impl_factors.l0,sq_cast]
     rw[if_pos om_,w64 (n:=((p*p:Nat):Int)) om_ om_,if_neg om_]
    ·simp only[impl_factors.j1]
     rfl
  ·rw[facI_one _ _ om_]
   refine Es (fun k=>?_) (Ev.now _)
   simp only[impl_factors.l0]
   rw[if_neg om_]
   simp[fints]
theorem impl_fac {n:Nat} (h1:1≤n) (h2:n≤10000):Ev (fun k=>impl_factors.f k (n:Int)) (fints (fac n)):=by
 unfold impl_factors.f
 have h:=impl_facL 101 n 2 [] h1 h2 om_ om_ (.inr ⟨by omega,by omega⟩) (by simp)
 rw[List.nil_append]at h
 exact h
theorem fints_at (l:List (Nat×Nat)) (i:Nat) (x:Nat×Nat) (h:l[i]? =some x):rd_L1 (fints l) (i:Int)=[(x.1:Int),(x.2:Int)]:=by
 unfold rd_L1 fints
 rw[Int.toNat_natCast,List.getD_eq_getElem?_getD,List.getElem?_map,h]
 rfl
theorem numberOk_eq (a:Int):impl_numberOk.f a=some (decide (1≤a∧a≤10000)):=by
 unfold impl_numberOk.f
 by_cases h:a≥1
 ·rw[if_pos h];simp[h]
 ·rw[if_neg h];congr 1;symm;simp;intro h2;omega
def fpt (x:Nat×Nat):ByteArray:=if 1<x.2 then digB (x.1:Int)++((⟨#[94]⟩:ByteArray)++digB (x.2:Int))else digB (x.1:Int)
def facT (n:Nat):ByteArray:=if n=1 then⟨#[49]⟩else jn 46 ((fac n).map fpt)
theorem okN {n:Nat} (h:n≤9223372036854775807):okZ (n:Int):=⟨by omega,by omega⟩
theorem fpt_size {x:Nat×Nat} (h:x.1≤10000∧x.2≤14):(fpt x).size ≤41∧0<(fpt x).size :=by
 have h1:=digB_sz x.1 om_
 have h2:=digB_sz x.2 om_
 have h3:0<(digB (x.1:Int)).size :=by rw[digB_bw,bw_size,Go.Lib.decDigits_length];exact Go.Lib.nDigits_pos _
 unfold fpt
 split
 ·rw[ByteArray.size_append,ByteArray.size_append,show(⟨#[94]⟩:ByteArray).size =1 from rfl];omega
 ·omega
theorem fac_ne {n:Nat} (h1:1<n) (h2:n≤10000):fac n≠[]:=by
 have key:∀(f n p:Nat),2≤p→1<n→n≤10000→103≤p+f→p≤102→facI f n p≠[]:=by
  intro f
  induction f with
  |zero=>intro n p _ _ _ _ _;omega
  |succ f ih=>
   intro n p hp hn hn2 hf hp2
   rw[facI_succ,if_pos hn]
   by_cases hq:p*p>n
   ·simp only[if_pos hq,strip_self hn];simp
   ·simp only[if_neg hq]
    by_cases hc:0<(strip 14 n p 0).2
    ·rw[if_pos hc];simp
    ·rw[if_neg hc]
     have hpp:p≤100:=by
      refine Nat.le_of_not_lt (fun hlt=>?_)
      have:101*101≤p*p:=Nat.mul_le_mul hlt hlt
      omega
     have h7:∀(f n c:Nat),c≤(strip f n p c).2:=by
      intro f
      induction f with
      |zero=>intro n c;exact Nat.le_refl _
      |succ f ih=>
       intro n c
       simp only[strip]
       split
       ·exact Nat.le_trans (Nat.le_succ c) (ih _ _)
       ·exact Nat.le_refl _
     have hnd:n%p≠0:=fun h0=>by
      have h6:strip 14 n p 0=strip 13 (n / p) p 1:=by show(if n%p=0 then strip 13 (n / p) p (0+1)else(n,0))=_;rw[if_pos h0]
      have:=h7 13 (n / p) 1
      rw[←h6]at this
      omega
     rw[strip_none hnd]
     exact ih n (p+1) om_ hn hn2 om_ om_
 exact key 101 n 2 om_ h1 h2 om_ om_
theorem facT_impl {n:Nat} (h1:1≤n) (h2:n≤10000):Ev (fun k=>impl_FactorText.f k (n:Int)) (facT n):=by
 have hm:=fac_mem h1 h2
 have hl:=fac_length n
 have key:∀(r:List (Nat×Nat)) (i:Nat),(fac n).drop i=r→i≤(fac n).length →Ev (fun k=>impl_FactorText.l0 k (((fac n).take i).map fpt) (fints (fac n)) ((fac n).length :Int) (i:Int)) (jn 46 ((fac n).map fpt)):=by
  intro r
  induction r with
  |nil=>
   intro i hd hi
   have:(fac n).length ≤i:=List.drop_eq_nil_iff.1 hd
   refine Es (fun k=>?_) (Ev.now _)
   simp only[impl_FactorText.l0]
   rw[if_neg om_,List.take_of_length_le this]
   have:=join_f 46 41 ((fac n).map fpt) (by rw[List.length_map];omega) om_ (fun x hx=>by obtain⟨y,hy,rfl⟩:=List.mem_map.1 hx;have:=hm y hy;exact(fpt_size ⟨by omega,by omega⟩).1)
   rw[show(⟨#[46]⟩:ByteArray)=bw [46]from rfl,this]
   rfl
  |cons x r ih=>
   intro i hd hi
   obtain⟨hlt,hx,hr⟩:=drop_at hd
   have hxm:=hm x (List.mem_of_getElem? hx)
   have s1:=digB_sz x.1 om_
   have s2:=digB_sz x.2 om_
   have ih:=ih (i+1) hr hlt
   rw[take_snoc hx,List.map_append]at ih
   refine Es (fun k=>?_) ih
   simp only[impl_FactorText.l0,fints_at _ i x hx,fints_length,rd_p0,rd_p1,len_p,itoa_ev (okN (show x.1≤9223372036854775807 by omega)),itoa_ev (okN (show x.2≤9223372036854775807 by omega)),Option.bind_some]
   rw[if_pos om_,if_pos om_,if_pos om_,if_pos om_,if_pos om_,w64 om_ om_]
   by_cases hc:1<x.2
   ·have e:fpt x=digB (x.1:Int)++((⟨#[94]⟩:ByteArray)++digB (x.2:Int)):=if_pos hc
    rw[if_pos om_,if_pos om_,if_pos,if_pos (by simp;omega)]
    ·simp only[List.map_cons,List.map_nil,e];rfl
    ·rw[ByteArray.size_append,show(⟨#[94]⟩:ByteArray).size =1 from rfl];omega
   ·have e:fpt x=digB (x.1:Int):=if_neg hc
    rw[if_neg om_,if_pos (by simp;omega)]
    simp only[List.map_cons,List.map_nil,e];rfl
 unfold impl_FactorText.f facT
 simp only[numberOk_eq,Option.bind_some,show(1:Int)≤n∧(n:Int)≤10000 from⟨by omega,by omega⟩,and_self,decide_true,if_true]
 by_cases hn:n=1
 ·rw[if_pos hn]
  exact Ep om_ (Ev.now _)
 ·rw[if_neg hn]
  refine En om_ (Eb (impl_fac h1 h2) ?_)
  rw[fints_length]
  exact key (fac n) 0 rfl (Nat.zero_le _)
theorem facT_spec {n:Nat} (h1:1≤n) (h2:n≤10000):Ev (fun k=>spec_FactorText.f k (n:Int)) (facT n):=by
 have hm:=fac_mem h1 h2
 have hl:=fac_length n
 have hbd:∀i,(jn 46 (((fac n).take i).map fpt)).size ≤1000*42:=fun i=>Nat.le_trans (jn_size 46 41 _ (fun x hx=>by obtain⟨y,hy,rfl⟩:=List.mem_map.1 hx;have:=hm y (List.mem_of_mem_take hy);exact(fpt_size ⟨by omega,by omega⟩).1)) (Nat.mul_le_mul_right _ (by simp;omega))
 have key:∀(r:List (Nat×Nat)) (i:Nat),(fac n).drop i=r→i≤(fac n).length →Ev (fun k=>spec_FactorText.l0 k (jn 46 (((fac n).take i).map fpt)) (fints (fac n)) (i:Int)) (facT n):=by
  intro r
  induction r with
  |nil=>
   intro i hd hi
   have:(fac n).length ≤i:=List.drop_eq_nil_iff.1 hd
   refine Es (fun k=>?_) (Ev.now _)
   simp only[spec_FactorText.l0,fints_length]
   rw[if_neg om_,List.take_of_length_le this]
   unfold facT
   by_cases hn:n=1
   ·subst hn
    rw[if_pos rfl,show fac 1=[]by decide+kernel,if_pos (toList_nil.2 rfl)]
   ·rw[if_neg hn,if_neg]
    rw[toList_nil]
    obtain⟨p,y,e⟩:∃p y,fac n=p++[y]:=⟨(fac n).dropLast,(fac n).getLast (fac_ne om_ h2),(List.dropLast_concat_getLast _).symm⟩
    have hy:=hm y (by rw[e];simp)
    have hs:=(fpt_size (x:=y) ⟨by omega,by omega⟩).2
    rw[e,List.map_append,List.map_cons,List.map_nil]
    by_cases hp:p=[]
    ·subst hp
     rw[List.map_nil,List.nil_append,jn_one];omega
    ·rw[jn_snoc 46 (by simpa using hp),ByteArray.size_append];omega
  |cons x r ih=>
   intro i hd hi
   obtain⟨hlt,hx,hr⟩:=drop_at hd
   have hxm:=hm x (List.mem_of_getElem? hx)
   have s1:=digB_sz x.1 om_
   have s2:=digB_sz x.2 om_
   have hb1:=hbd i
   have ih:=ih (i+1) hr hlt
   -- the text ahead of the part
   obtain⟨z,hz,hzs,hstep⟩:∃z:ByteArray,jn 46 (((fac n).take (i+1)).map fpt)=z++fpt x∧z.size≤1000*42+1∧(Ev (fun k=>spec_FactorText.j1 k z (fints (fac n)) (i:Int)) (facT n)→Ev (fun k=>spec_FactorText.l0 k (jn 46 (((fac n).take i).map fpt)) (fints (fac n)) (i:Int)) (facT n)):=by
    rw[take_snoc hx,List.map_append]
    by_cases hi0:i=0
    ·subst hi0
     refine⟨bw [],?_,Nat.zero_le _,fun h=>Es (fun k=>?_) h⟩
     ·show jn 46 [fpt x]=_
      rw[jn_one];apply bw_inj;rw[data_app];rfl
     ·simp only[spec_FactorText.l0,fints_length]
      rw[if_pos om_,if_neg om_]
      rfl
    ·refine⟨jn 46 (((fac n).take i).map fpt)++(⟨#[46]⟩:ByteArray),jn_snoc 46 ?_ (fpt x),?_,fun h=>Es (fun k=>?_) h⟩
     ·intro hz
      have:=congrArg List.length hz
      rw[List.length_map,List.length_take,List.length_nil]at this
      omega
     ·rw[ByteArray.size_append,show(⟨#[46]⟩:ByteArray).size =1 from rfl];omega
     ·simp only[spec_FactorText.l0,fints_length]
      rw[if_pos om_,if_pos om_,if_pos om_]
   rw[hz]at ih
   refine hstep ?_
   by_cases hc:1<x.2
   ·have e:fpt x=digB (x.1:Int)++((⟨#[94]⟩:ByteArray)++digB (x.2:Int)):=if_pos hc
    rw[e,←ByteArray.append_assoc,←ByteArray.append_assoc]at ih
    refine Es (f:=fun k=>(spec_l1Number.f k (x.1:Int)).bind fun t385=>(if z.size+t385.size≤9223372036854775807 then(if(z++t385).size +1≤9223372036854775807 then((spec_l1Number.f k (x.2:Int)).bind fun t390=>(if((z++t385)++(⟨#[94]⟩:ByteArray)).size +t390.size≤9223372036854775807 then(spec_FactorText.l0 k (((z++t385)++(⟨#[94]⟩:ByteArray))++t390) (fints (fac n)) ((i+1:Nat):Int))else(none)))else(none))else(none))) (fun k=>?_) ?_
    ·simp only[spec_FactorText.j1,fints_at _ i x hx,fints_length,rd_p0,rd_p1,len_p]
     rw[if_pos om_,if_pos om_,if_pos om_,w64 om_ om_]
     simp only[if_pos (show(1:Int)<2 by omega),if_pos (show(x.2:Int)>1 by omega)]
     rfl
    ·refine Eb (spec_numZ _ (okN om_)) (Ep om_ (Ep ?_ (Eb (spec_numZ _ (okN om_)) (Ep ?_ ih))))
     ·rw[ByteArray.size_append];omega
     ·rw[ByteArray.size_append,ByteArray.size_append,show(⟨#[94]⟩:ByteArray).size =1 from rfl];omega
   ·have e:fpt x=digB (x.1:Int):=if_neg hc
    rw[e]at ih
    refine Es (f:=fun k=>(spec_l1Number.f k (x.1:Int)).bind fun t385=>(if z.size+t385.size≤9223372036854775807 then(spec_FactorText.l0 k (z++t385) (fints (fac n)) ((i+1:Nat):Int))else(none))) (fun k=>?_) (Eb (spec_numZ _ (okN om_)) (Ep om_ ih))
    simp only[spec_FactorText.j1,fints_at _ i x hx,fints_length,rd_p0,rd_p1,len_p]
    rw[if_pos om_,if_pos om_,if_pos om_,w64 om_ om_]
    simp only[if_pos (show(1:Int)<2 by omega),if_neg (show ¬(x.2:Int)>1 by omega)]
    rfl
 unfold spec_FactorText.f
 simp only[l1In_eq,Option.bind_some,show(1:Int)≤n∧(n:Int)≤10000 from⟨by omega,by omega⟩,and_self,decide_true,if_true]
 exact Eb (spec_fac h1 h2) (key (fac n) 0 rfl (Nat.zero_le _))
theorem impl_gcdL:∀(m b a:Nat),b≤m→Ev (fun k=>impl_gcd.l0 k (a:Int) (b:Int)) ((Nat.gcd a b:Nat):Int):=by
 intro m
 induction m with
 |zero=>
  intro b a hb
  have e:b=0:=by omega
  subst e
  rw[Nat.gcd_zero_right]
  refine Es (fun k=>?_) (Ev.now _)
  simp only[impl_gcd.l0]
  rw[if_pos om_]
 |succ m ih=>
  intro b a hb
  by_cases h0:b=0
  ·subst h0
   rw[Nat.gcd_zero_right]
   refine Es (fun k=>?_) (Ev.now _)
   simp only[impl_gcd.l0]
   rw[if_pos om_]
  ·have hlt:a%b<b:=Nat.mod_lt _ om_
   have h:=ih (a%b) b om_
   rw[gcd_step]at h
   refine Es (fun k=>?_) h
   simp only[impl_gcd.l0,tmod_nat]
   rw[if_neg om_]
theorem impl_gcd_ev (a b:Nat):Ev (fun k=>impl_gcd.f k (a:Int) (b:Int)) ((Nat.gcd a b:Nat):Int):=by
 unfold impl_gcd.f
 exact impl_gcdL b b a (Nat.le_refl _)
theorem spec_gcdL:∀(m b a:Nat),b≤m→Ev (fun k=>spec_CommonOf.l0 k (a:Int) (b:Int)) ((Nat.gcd a b:Nat):Int):=by
 intro m
 induction m with
 |zero=>
  intro b a hb
  have e:b=0:=by omega
  subst e
  rw[Nat.gcd_zero_right]
  refine Es (fun k=>?_) (Ev.now _)
  simp only[spec_CommonOf.l0]
  rw[if_neg om_]
 |succ m ih=>
  intro b a hb
  by_cases h0:b=0
  ·subst h0
   rw[Nat.gcd_zero_right]
   refine Es (fun k=>?_) (Ev.now _)
   simp only[spec_CommonOf.l0]
   rw[if_neg om_]
  ·have hlt:a%b<b:=Nat.mod_lt _ om_
   have h:=ih (a%b) b om_
   rw[gcd_step]at h
   refine Es (fun k=>?_) h
   simp only[spec_CommonOf.l0,tmod_nat]
   rw[if_pos om_,if_neg om_]
theorem spec_gcd_ev {a b:Nat} (h1:1≤a) (h2:a≤10000) (h3:1≤b) (h4:b≤10000):Ev (fun k=>spec_CommonOf.f k (a:Int) (b:Int)) ((Nat.gcd a b:Nat):Int):=by
 unfold spec_CommonOf.f
 simp only[l1In_eq,Option.bind_some,show(1:Int)≤a∧(a:Int)≤10000 from⟨by omega,by omega⟩,show(1:Int)≤b∧(b:Int)≤10000 from⟨by omega,by omega⟩,and_self,decide_true,if_true,Bool.not_true]
 refine Es (fun k=>?_) (spec_gcdL b b a (Nat.le_refl _))
 simp only[spec_CommonOf.j0]
 rw[if_neg (by simp)]
theorem scan {L0:Nat→Int→Option Bool} {L1:Nat→Int→Int→Option Bool} (G:Nat→Nat→Bool) (s:Nat) (hs:1≤s∧s≤25) (r:Bool) (hend:Ev (fun k=>L0 k ((25:Nat):Int)) r)
  (h0:∀(k a:Nat),a≤24→L0 (k+1) (a:Int)=L1 k (a:Int) (s:Int))
  (h1:∀(k a b:Nat),a≤24→b≤25→24<a*b→a*b≤1000→L1 (k+1) (a:Int) (b:Int)=L0 k ((a+1:Nat):Int))
  (h2:∀(a b:Nat),1≤a→a≤24→1≤b→b≤24→1≤a*b→a*b≤24→∀v,(G a b=true→Ev (fun k=>L1 k (a:Int) ((b+1:Nat):Int)) v)→(G a b=false→v=false)→Ev (fun k=>L1 k (a:Int) (b:Int)) v):
  ∃v,Ev (fun k=>L0 k (s:Int)) v∧(v=true↔(∀a b,s≤a→s≤b→a*b≤24→G a b=true)∧r=true):=by
 have inner:∀(a:Nat),1≤a→a≤24→∀v',Ev (fun k=>L0 k ((a+1:Nat):Int)) v'→∀(m b:Nat),b+m=25→1≤b→∃v,Ev (fun k=>L1 k (a:Int) (b:Int)) v∧(v=true↔(∀b',b≤b'→a*b'≤24→G a b'=true)∧v'=true):=by
  intro a ha ha2 v' hv m
  induction m with
  |zero=>
   intro b hb hb1
   have hm:a*b≤24*25:=Nat.mul_le_mul ha2 om_
   have hl:1*b≤a*b:=Nat.mul_le_mul_right _ ha
   refine⟨v',Es (fun k=>h1 k a b ha2 om_ om_ om_) hv,fun e=>⟨fun b' hb' hab=>?_,e⟩,fun e=>e.2⟩
   have:a*b≤a*b':=Nat.mul_le_mul_left _ hb'
   omega
  |succ m ih=>
   intro b hb hb1
   have hl:1*b≤a*b:=Nat.mul_le_mul_right _ ha
   by_cases hab:a*b≤24
   ·obtain⟨v,e1,e2⟩:=ih (b+1) om_ om_
    cases hG:G a b with
    |true=>
     refine⟨v,h2 a b ha ha2 hb1 om_ om_ hab v (fun _=>e1) (fun z=>by rw[hG]at z;cases z),e2.trans ⟨fun e=>⟨fun b' hb' h=>?_,e.2⟩,fun e=>⟨fun b' hb' h=>e.1 b' om_ h,e.2⟩⟩⟩
     by_cases hq:b'=b
     ·subst hq;exact hG
     ·exact e.1 b' om_ h
    |false=>
     refine⟨false,h2 a b ha ha2 hb1 om_ om_ hab false (fun z=>by rw[hG]at z;cases z) (fun _=>rfl),⟨(fun e=>by cases e),fun e=>?_⟩⟩
     have:=e.1 b (Nat.le_refl _) hab
     rw[hG]at this;cases this
   ·have hm:a*b≤24*25:=Nat.mul_le_mul ha2 om_
    refine⟨v',Es (fun k=>h1 k a b ha2 om_ om_ om_) hv,fun e=>⟨fun b' hb' h=>?_,e⟩,fun e=>e.2⟩
    have:a*b≤a*b':=Nat.mul_le_mul_left _ hb'
    omega
 have outer:∀(m a:Nat),a+m=25→1≤a→∃v,Ev (fun k=>L0 k (a:Int)) v∧(v=true↔(∀a' b,a≤a'→s≤b→a'*b≤24→G a' b=true)∧r=true):=by
  intro m
  induction m with
  |zero=>
   intro a ha _
   obtain rfl:a=25:=by omega
   refine⟨r,hend,fun e=>⟨fun a' b h3 h4 h5=>?_,e⟩,fun e=>e.2⟩
   have:25*1≤a'*b:=Nat.mul_le_mul h3 om_
   omega
  |succ m ih=>
   intro a ha ha1
   obtain⟨v',e1,e2⟩:=ih (a+1) om_ om_
   obtain⟨v,e3,e4⟩:=inner a ha1 om_ v' e1 (25-s) s om_ hs.1
   refine⟨v,Es (fun k=>h0 k a om_) e3,e4.trans ⟨fun e=>?_,fun e=>⟨fun b' hb' h=>e.1 a b' (Nat.le_refl _) hb' h,e2.2 ⟨fun a' b h3 h4 h5=>e.1 a' b om_ h4 h5,e.2⟩⟩⟩⟩
   have h6:=e2.1 e.2
   refine⟨fun a' b h3 h4 h5=>?_,h6.2⟩
   by_cases hq:a'=a
   ·subst hq;exact e.1 b h4 h5
   ·exact h6.1 a' b om_ h4 h5
 exact outer (25-s) s om_ hs.1
abbrev gT (l:List Int) (a b:Nat):Prop:=rd l (((a*b:Nat):Int)-1)=wrap64 (rd l ((a:Int)-1)*rd l ((b:Int)-1))
def gB (all:Bool) (l:List Int) (a b:Nat):Bool:=(!all&& !decide (Nat.gcd a b=1)) || decide (gT l a b)
theorem gB_t {all:Bool} {l:List Int} {a b:Nat} (h:gT l a b):gB all l a b=true:=by unfold gB;rw[decide_eq_true h,Bool.or_true]
theorem gB_g {l:List Int} {a b:Nat} (h:¬Nat.gcd a b=1):gB false l a b=true:=by unfold gB;rw[decide_eq_false h];rfl
theorem gB_f {all:Bool} {l:List Int} {a b:Nat} (h:¬gT l a b) (hg:all=true∨Nat.gcd a b=1):gB all l a b=false:=by
 unfold gB
 rw[decide_eq_false h,Bool.or_false]
 rcases hg with rfl|hg
 ·rfl
 ·rw[decide_eq_true hg];simp
theorem gfacts {l:List Int} (hl:l.length=24) {a b:Nat} (h1:1≤a) (h2:a≤24) (h3:1≤b) (h4:b≤24) (h5:1≤a*b) (h6:a*b≤24):
  (a:Int)*(b:Int)=((a*b:Nat):Int)∧0≤((a*b:Nat):Int)-1∧((a*b:Nat):Int)-1<(l.length:Int)∧0≤(a:Int)-1∧(a:Int)-1<(l.length:Int)∧0≤(b:Int)-1∧(b:Int)-1<(l.length:Int)∧((a*b:Nat):Int)≤24∧
  wrap64 ((a*b:Nat):Int)=((a*b:Nat):Int)∧wrap64 (((a*b:Nat):Int)-1)=((a*b:Nat):Int)-1∧wrap64 ((a:Int)-1)=(a:Int)-1∧wrap64 ((b:Int)-1)=(b:Int)-1∧wrap64 ((b:Int)+1)=((b+1:Nat):Int):=
 ⟨(Int.natCast_mul a b).symm,by omega,by omega,by omega,by omega,by omega,by omega,by omega,w64 om_ om_,w64 om_ om_,w64 om_ om_,w64 om_ om_,w64 om_ om_⟩
theorem products_impl (all:Bool) (l:List Int) (hl:l.length=24):∃v,Ev (fun k=>impl_productsOk.f k l all) v∧(v=true↔(∀a b,1≤a→1≤b→a*b≤24→gB all l a b=true)∧(rd l 0==1)=true):=by
 unfold impl_productsOk.f
 refine scan (L0:=fun k a=>impl_productsOk.l0 k l all a) (L1:=fun k a b=>impl_productsOk.l1 k l all a b) (gB all l) 1 om_ _ ?_ (fun k a h=>?_) (fun k a b h1 h2 h3 h4=>?_) (fun a b h1 h2 h3 h4 h5 h6 v hy hn=>?_)
 ·refine Es (f:=fun _=>some (rd l 0==1)) (fun k=>?_) (Ev.now _)
  simp only[impl_productsOk.l0]
  rw[if_neg om_,if_pos om_]
 ·simp only[impl_productsOk.l0]
  rw[if_pos om_]
  rfl
 ·have e:(a:Int)*(b:Int)=((a*b:Nat):Int):=(Int.natCast_mul a b).symm
  simp only[impl_productsOk.l1]
  rw[e,w64 (n:=((a*b:Nat):Int)) om_ om_,if_neg om_,w64 om_ om_]
  rfl
 ·obtain⟨e,p1,p2,p3,p4,p5,p6,p7,w1,w2,w3,w4,w5⟩:=gfacts hl h1 h2 h3 h4 h5 h6
  have f1:Ev (fun k=>if gT l a b then impl_productsOk.l1 k l all (a:Int) ((b+1:Nat):Int)else some false) (v&&decide (gT l a b)):=by
   by_cases hT:gT l a b
   ·rw[decide_eq_true hT,Bool.and_true];exact Ep hT (hy (gB_t hT))
   ·rw[decide_eq_false hT,Bool.and_false];exact En hT (Ev.now _)
  cases all with
  |true=>
   have hv:(v&&decide (gT l a b))=v:=by
    by_cases hT:gT l a b
    ·rw[decide_eq_true hT,Bool.and_true]
    ·rw[hn (gB_f hT (.inl rfl))];rfl
   rw[hv]at f1
   refine Es (fun k=>?_) f1
   simp only[impl_productsOk.l1,e,w1,w2,w3,w4,w5,if_pos p1,if_pos p2,if_pos p3,if_pos p4,if_pos p5,if_pos p6,if_pos p7,if_true]
  |false=>
   refine Es (f:=fun k=>(impl_gcd.f k (a:Int) (b:Int)).bind fun t=>if t=1 then(if gT l a b then impl_productsOk.l1 k l false (a:Int) ((b+1:Nat):Int)else some false)else impl_productsOk.l1 k l false (a:Int) ((b+1:Nat):Int)) (fun k=>?_) (Eb (impl_gcd_ev a b) ?_)
   ·simp only[impl_productsOk.l1,e,w1,w2,w3,w4,w5,if_pos p1,if_pos p2,if_pos p3,if_pos p4,if_pos p5,if_pos p6,if_pos p7,Bool.false_eq_true,if_false]
   ·by_cases hg:Nat.gcd a b=1
    ·refine Ep om_ ?_
     have hv:(v&&decide (gT l a b))=v:=by
      by_cases hT:gT l a b
      ·rw[decide_eq_true hT,Bool.and_true]
      ·rw[hn (gB_f hT (.inr hg))];rfl
     rw[hv]at f1
     exact f1
    ·exact En om_ (hy (gB_g hg))
theorem mult_spec (l:List Int) (hl:l.length=24):∃v,Ev (fun k=>spec_MultiplicativeOk.l0 k l 2) v∧(v=true↔(∀a b,2≤a→2≤b→a*b≤24→gB false l a b=true)∧true=true):=by
 refine scan (L0:=fun k a=>spec_MultiplicativeOk.l0 k l a) (L1:=fun k a b=>spec_MultiplicativeOk.l1 k l a b) (gB false l) 2 om_ _ ?_ (fun k a h=>?_) (fun k a b h1 h2 h3 h4=>?_) (fun a b h1 h2 h3 h4 h5 h6 v hy hn=>?_)
 ·refine Es (f:=fun _=>some true) (fun k=>?_) (Ev.now _)
  simp only[spec_MultiplicativeOk.l0]
  rw[if_neg om_]
 ·simp only[spec_MultiplicativeOk.l0]
  rw[if_pos om_]
  rfl
 ·have e:(a:Int)*(b:Int)=((a*b:Nat):Int):=(Int.natCast_mul a b).symm
  simp only[spec_MultiplicativeOk.l1]
  rw[e,w64 (n:=((a*b:Nat):Int)) om_ om_,if_neg om_,w64 om_ om_]
  rfl
 ·obtain⟨e,p1,p2,p3,p4,p5,p6,p7,w1,w2,w3,w4,w5⟩:=gfacts hl h1 h2 h3 h4 h5 h6
  have ea:Ev (fun k=>spec_ApartOk.f k (a:Int) (b:Int)) (decide (Nat.gcd a b=1)):=by
   unfold spec_ApartOk.f
   refine Eb (spec_gcd_ev h1 om_ h3 om_) (Ev.const ?_)
   congr 1
   rw[Bool.eq_iff_iff]
   simp only[beq_iff_eq,decide_eq_true_eq]
   omega
  refine Es (f:=fun k=>(spec_ApartOk.f k (a:Int) (b:Int)).bind fun t=>if t=true then(if gT l a b then spec_MultiplicativeOk.l1 k l (a:Int) ((b+1:Nat):Int)else some false)else spec_MultiplicativeOk.l1 k l (a:Int) ((b+1:Nat):Int)) (fun k=>?_) (Eb ea ?_)
  ·simp only[spec_MultiplicativeOk.l1,e,w1,w2,w3,w4,w5,if_pos p1,if_pos p2,if_pos p3,if_pos p4,if_pos p5,if_pos p6,if_pos p7]
  ·by_cases hg:Nat.gcd a b=1
   ·rw[decide_eq_true hg]
    refine Ep rfl ?_
    by_cases hT:gT l a b
    ·exact Ep hT (hy (gB_t hT))
    ·rw[hn (gB_f hT (.inr hg))];exact En hT (Ev.now _)
   ·rw[decide_eq_false hg]
    exact En (by simp) (hy (gB_g hg))
theorem full_spec (l:List Int) (hl:l.length=24):∃v,Ev (fun k=>spec_FullyOk.l0 k l 2) v∧(v=true↔(∀a b,2≤a→2≤b→a*b≤24→gB true l a b=true)∧true=true):=by
 refine scan (L0:=fun k a=>spec_FullyOk.l0 k l a) (L1:=fun k a b=>spec_FullyOk.l1 k l a b) (gB true l) 2 om_ _ ?_ (fun k a h=>?_) (fun k a b h1 h2 h3 h4=>?_) (fun a b h1 h2 h3 h4 h5 h6 v hy hn=>?_)
 ·refine Es (f:=fun _=>some true) (fun k=>?_) (Ev.now _)
  simp only[spec_FullyOk.l0]
  rw[if_neg om_]
 ·simp only[spec_FullyOk.l0]
  rw[if_pos om_]
  rfl
 ·have e:(a:Int)*(b:Int)=((a*b:Nat):Int):=(Int.natCast_mul a b).symm
  simp only[spec_FullyOk.l1]
  rw[e,w64 (n:=((a*b:Nat):Int)) om_ om_,if_neg om_,w64 om_ om_]
  rfl
 ·obtain⟨e,p1,p2,p3,p4,p5,p6,p7,w1,w2,w3,w4,w5⟩:=gfacts hl h1 h2 h3 h4 h5 h6
  refine Es (f:=fun k=>if gT l a b then spec_FullyOk.l1 k l (a:Int) ((b+1:Nat):Int)else some false) (fun k=>?_) ?_
  ·simp only[spec_FullyOk.l1,e,w1,w2,w3,w4,w5,if_pos p1,if_pos p2,if_pos p3,if_pos p4,if_pos p5,if_pos p6,if_pos p7]
  ·by_cases hT:gT l a b
   ·exact Ep hT (hy (gB_t hT))
   ·rw[hn (gB_f hT (.inl rfl))];exact En hT (Ev.now _)
theorem gB_one {all:Bool} {l:List Int} (h0:rd l 0=1) (hb:∀i:Nat,i<24→ -1000000000≤rd l (i:Int)∧rd l (i:Int)≤1000000000) {a b:Nat} (ha:1≤a) (hb1:1≤b) (hab:a*b≤24) (h:a=1∨b=1):gB all l a b=true:=by
 refine gB_t ?_
 unfold gT
 rcases h with rfl|rfl
 ·rw[Nat.one_mul]at hab ⊢
  have:=hb (b-1) om_
  rw[show((b-1:Nat):Int)=(b:Int)-1 by omega]at this
  rw[show((1:Nat):Int)-1=0 from rfl,h0,Int.one_mul,w64 om_ om_]
 ·rw[Nat.mul_one]at hab ⊢
  have:=hb (a-1) om_
  rw[show((a-1:Nat):Int)=(a:Int)-1 by omega]at this
  rw[show((1:Nat):Int)-1=0 from rfl,h0,Int.mul_one,w64 om_ om_]
theorem products_both (l:List Int) (h:rowB l=true):(∃v,Ev (fun k=>impl_MultiplicativeOk.f k l) v∧Ev (fun k=>spec_MultiplicativeOk.f k l) v)∧(∃v,Ev (fun k=>impl_FullyOk.f k l) v∧Ev (fun k=>spec_FullyOk.f k l) v):=by
 have h1:l.length=24:=by
  unfold rowB at h
  rw[Bool.and_eq_true]at h
  have:=h.2
  simp only[beq_iff_eq]at this
  omega
 have hb:∀i:Nat,i<24→ -1000000000≤rd l (i:Int)∧rd l (i:Int)≤1000000000:=fun i hi=>by
  unfold rowB at h
  rw[Bool.and_eq_true]at h
  have:=allF_at _ _ _ h.1 i om_ om_
  rw[rdn]
  simpa [r1] using this
 have ei:=impl_rowOk l om_
 have es:=spec_rowOk l om_
 rw[h]at ei es
 have go:∀(all:Bool) (v w:Bool),(v=true↔(∀a b,1≤a→1≤b→a*b≤24→gB all l a b=true)∧(rd l 0==1)=true)→(w=true↔(∀a b,2≤a→2≤b→a*b≤24→gB all l a b=true)∧true=true)→v=((rd l 0==1)&&w):=by
  intro all v w hv hw
  rw[Bool.eq_iff_iff,Bool.and_eq_true]
  refine hv.trans ⟨fun e=>⟨e.2,hw.2 ⟨fun a b h2 h3 h4=>e.1 a b om_ om_ h4,rfl⟩⟩,fun e=>⟨fun a b h2 h3 h4=>?_,e.1⟩⟩
  by_cases hq:a=1∨b=1
  ·exact gB_one (by simpa using e.1) hb h2 h3 h4 hq
  ·exact(hw.1 e.2).1 a b om_ om_ h4
 constructor
 ·obtain⟨v,e1,e2⟩:=products_impl false l h1
  obtain⟨w,e3,e4⟩:=mult_spec l h1
  refine⟨v,?_,?_⟩
  ·unfold impl_MultiplicativeOk.f
   exact Eb ei (Ep rfl (Eb e1 (Ev.now _)))
  ·unfold spec_MultiplicativeOk.f
   refine Eb es (Ep rfl (Ep om_ ?_))
   rw[go false v w e2 e4]
   by_cases h0:rd l 0=1
   ·rw[show(rd l 0 != 1)=false by simp[h0],show(rd l 0==1)=true by simp[h0],Bool.true_and]
    refine Es (fun k=>?_) e3
    simp only[spec_MultiplicativeOk.j0];rw[if_neg (by simp)]
   ·rw[show(rd l 0 != 1)=true by simp[h0],show(rd l 0==1)=false by simp[h0],Bool.false_and]
    refine Es (f:=fun _=>some false) (fun k=>?_) (Ev.now _)
    simp only[spec_MultiplicativeOk.j0];rw[if_pos trivial]
 ·obtain⟨v,e1,e2⟩:=products_impl true l h1
  obtain⟨w,e3,e4⟩:=full_spec l h1
  refine⟨v,?_,?_⟩
  ·unfold impl_FullyOk.f
   exact Eb ei (Ep rfl (Eb e1 (Ev.now _)))
  ·unfold spec_FullyOk.f
   refine Eb es (Ep rfl (Ep om_ ?_))
   rw[go true v w e2 e4]
   by_cases h0:rd l 0=1
   ·rw[show(rd l 0 != 1)=false by simp[h0],show(rd l 0==1)=true by simp[h0],Bool.true_and]
    refine Es (fun k=>?_) e3
    simp only[spec_FullyOk.j0];rw[if_neg (by simp)]
   ·rw[show(rd l 0 != 1)=true by simp[h0],show(rd l 0==1)=false by simp[h0],Bool.false_and]
    refine Es (f:=fun _=>some false) (fun k=>?_) (Ev.now _)
    simp only[spec_FullyOk.j0];rw[if_pos trivial]
theorem reverse_mid:∀(m:Nat) (A M B:List Int),M.length≤m→(A++M++B).length ≤1000000→
  Ev (fun k=>slices_Reverse_int_int.l0 k (A++M++B) (A.length:Int) ((A.length:Int)+(M.length:Int)-1)) (A++M.reverse++B):=by
 intro m
 induction m with
 |zero=>
  intro A M B hm hl
  have e:M=[]:=List.length_eq_zero_iff.1 om_
  subst e
  refine Es (fun k=>?_) (Ev.now _)
  simp only[slices_Reverse_int_int.l0]
  rw[if_neg (by simp;omega)]
  rfl
 |succ m ih=>
  intro A M B hm hl
  match M,hm,hl with
  |[],_,_=>
   refine Es (fun k=>?_) (Ev.now _)
   simp only[slices_Reverse_int_int.l0]
   rw[if_neg (by simp;omega)]
   rfl
  |x::M,hm,hl=>
   rcases List.eq_nil_or_concat M with rfl|⟨M',y,rfl⟩
   ·refine Es (fun k=>?_) (Ev.now _)
    simp only[slices_Reverse_int_int.l0]
    rw[if_neg (by simp)]
    rfl
   ·have hlen:A.length+(M'.length+2)+B.length≤1000000:=by
     simp at hl ⊢;omega
    have ih:=ih (A++[y]) M' (x::B) (by simp at hm;omega) (by simp;omega)
    have e1:A++[y]++M'++x::B=A++(y::M'++x::B):=by simp
    rw[e1]at ih
    have er:A++[y]++M'.reverse++x::B=A++(x::M'.concat y).reverse ++B:=by simp
    rw[er]at ih
    have ei:((A++[y]).length :Int)=(A.length:Int)+1:=by simp
    rw[ei]at ih
    have ej:(A.length:Int)+1+(M'.length:Int)-1=(A.length:Int)+(M'.length:Int):=by omega
    rw[ej]at ih
    refine Es (fun k=>?_) ih
    have e0:A++x::M'.concat y++B=A++(x::(M'++y::B)):=by simp
    have ej2:(A.length:Int)+((x::M'.concat y).length :Int)-1=((A.length+(M'.length+1):Nat):Int):=by simp;omega
    simp only[slices_Reverse_int_int.l0]
    rw[e0,ej2]
    have r1:rd (A++(x::(M'++y::B))) ((A.length+(M'.length+1):Nat):Int)=y:=by
     unfold rd
     rw[Int.toNat_natCast,List.getD_eq_getElem?_getD,List.getElem?_append_right om_]
     simp
    have r2:rd (A++(x::(M'++y::B))) (A.length:Int)=x:=by
     unfold rd
     rw[Int.toNat_natCast,List.getD_eq_getElem?_getD,List.getElem?_append_right om_]
     simp
    have hL:(A++(x::(M'++y::B))).length =A.length+(M'.length+2)+B.length:=by simp;omega
    rw[if_pos om_,if_pos om_,if_pos om_,if_pos om_,if_pos om_,r1,r2,w64 om_ om_,w64 om_ om_]
    have s1:((A++(x::(M'++y::B))).set ((A.length:Nat):Int).toNat y).set ((A.length+(M'.length+1):Nat):Int).toNat x=A++(y::M'++x::B):=by
     rw[Int.toNat_natCast,Int.toNat_natCast,List.set_append_right _ _ (Nat.le_refl _),List.set_append_right _ _ om_]
     simp
    rw[s1]
    congr 1
    omega
theorem reverse_ev (l:List Int) (hl:l.length≤1000000):Ev (fun k=>slices_Reverse_int_int.f k l) l.reverse:=by
 unfold slices_Reverse_int_int.f
 have h:=reverse_mid l.length [] l [] (Nat.le_refl _) (by simpa using hl)
 simp only[List.nil_append,List.append_nil,List.length_nil]at h
 rw[w64 om_ om_]
 refine Ev.congr (fun k=>?_) h
 congr 1
 omega
theorem impl_dvL {n:Nat} (h1:1≤n) (h2:n≤10000):∀(f d:Nat) (x y:List Int),d+f=102→1≤d→x.length<d→y.length<d→
  Ev (fun k=>impl_divisors.l0 k (n:Int) x y (d:Int)) (x++ints (sm n f d)++(y++ints (bkD n f d)).reverse):=by
 intro f
 induction f with
 |zero=>
  intro d x y hd hd1 hx hy
  have e:d=102:=by omega
  subst e
  have hr:=reverse_ev y om_
  simp only[sm,bkD,ints,List.map_nil,List.append_nil]
  refine Es (f:=fun k=>(slices_Reverse_int_int.f k y).bind fun t=>(if x.length+t.length<17592186044416 then(some (x++t))else(none))) (fun k=>?_) (Eb hr (Ep (by rw[List.length_reverse];omega) (Ev.now _)))
  simp only[impl_divisors.l0,sq_cast]
  rw[w64 (n:=((102*102:Nat):Int)) om_ om_,if_neg om_]
 |succ f ih=>
  intro d x y hd hd1 hx hy
  have hdd:=sq_le (show d≤102 by omega)
  by_cases hc:d*d≤n
  ·by_cases hm:n%d=0
   ·have hq:n / d≤n:=Nat.div_le_self _ _
    by_cases hl:d*d<n
    ·have ih:=ih (d+1) (x++[(d:Int)]) (y++[((n / d:Nat):Int)]) om_ om_ (by simp;omega) (by simp;omega)
     simp only[sm,bkD,if_pos hc,if_pos hm,if_pos hl]
     have e:x++ints (d::sm n f (d+1))++(y++ints (n / d::bkD n f (d+1))).reverse =x++[(d:Int)]++ints (sm n f (d+1))++(y++[((n / d:Nat):Int)]++ints (bkD n f (d+1))).reverse :=by simp[ints]
     rw[e]
     refine Es (fun k=>?_) ih
     simp only[impl_divisors.l0,sq_cast,tmod_nat,tdiv_nat]
     rw[w64 (n:=((d*d:Nat):Int)) om_ om_,if_pos om_,if_neg om_,if_pos om_,if_pos om_]
     simp only[Option.bind_some]
     generalize n / d=q at*
     rw[if_pos om_,if_pos om_,w64 (n:=(q:Int)) om_ om_,w64 (n:=(d:Int)+1) om_ om_]
     rfl
    ·have ih:=ih (d+1) (x++[(d:Int)]) y om_ om_ (by simp;omega) om_
     simp only[sm,bkD,if_pos hc,if_pos hm,if_neg hl]
     have e:x++ints (d::sm n f (d+1))++(y++ints (bkD n f (d+1))).reverse =x++[(d:Int)]++ints (sm n f (d+1))++(y++ints (bkD n f (d+1))).reverse :=by simp[ints]
     rw[e]
     refine Es (fun k=>?_) ih
     simp only[impl_divisors.l0,sq_cast,tmod_nat,tdiv_nat]
     rw[w64 (n:=((d*d:Nat):Int)) om_ om_,if_pos om_,if_neg om_,if_pos om_,if_pos om_]
     simp only[Option.bind_some]
     rw[if_neg om_,w64 (n:=(d:Int)+1) om_ om_]
     rfl
   ·have ih:=ih (d+1) x y om_ om_ om_ om_
    simp only[sm,bkD,if_pos hc,if_neg hm]
    refine Es (fun k=>?_) ih
    simp only[impl_divisors.l0,sq_cast,tmod_nat]
    rw[w64 (n:=((d*d:Nat):Int)) om_ om_,if_pos om_,if_neg om_,if_neg om_,w64 (n:=(d:Int)+1) om_ om_]
    rfl
  ·have hr:=reverse_ev y om_
   simp only[sm,bkD,if_neg hc,ints,List.map_nil,List.append_nil]
   refine Es (f:=fun k=>(slices_Reverse_int_int.f k y).bind fun t=>(if x.length+t.length<17592186044416 then(some (x++t))else(none))) (fun k=>?_) (Eb hr (Ep (by rw[List.length_reverse];omega) (Ev.now _)))
   simp only[impl_divisors.l0,sq_cast]
   rw[w64 (n:=((d*d:Nat):Int)) om_ om_,if_neg om_]
theorem impl_dv {n:Nat} (h1:1≤n) (h2:n≤10000):Ev (fun k=>impl_divisors.f k (n:Int)) (ints (dv n)):=by
 unfold impl_divisors.f
 have h:=impl_dvL h1 h2 101 1 [] [] om_ om_ (by simp) (by simp)
 have e:ints (dv n)=[]++ints (sm n 101 1)++([]++ints (bkD n 101 1)).reverse :=by simp[dv,ints]
 rw[e]
 exact h
theorem dvF_last {n:Nat} (h:1≤n):(dvF n 1 n).sum =(dvF n 1 (n-1)).sum +n:=by
 obtain⟨m,rfl⟩:∃m,n=m+1:=⟨n-1,by omega⟩
 have e:(m+1)%(1+m)==0:=by rw[Nat.add_comm 1 m,Nat.mod_self];rfl
 unfold dvF
 rw[List.range'_1_concat,List.filter_append,Nat.add_sub_cancel,List.filter_cons_of_pos (by simpa using e)]
 simp
 omega
theorem dvF_sum_le (n:Nat):∀(f d:Nat),(dvF n d f).sum ≤f*(d+f):=by
 intro f
 induction f with
 |zero=>intro d;simp[dvF]
 |succ f ih=>
  intro d
  have:=ih (d+1)
  have e:(f+1)*(d+(f+1))=f*(d+1+f)+(d+1+f):=by rw[Nat.add_mul,Nat.one_mul,show d+(f+1)=d+1+f by omega]
  rw[dvF_succ,e]
  split
  ·rw[List.sum_cons];omega
  ·omega
def psN (n:Nat):Nat:=(dvF n 1 (n-1)).sum
theorem psN_le {n:Nat} (h:n≤10000):psN n≤100000000:=by
 have h1:=dvF_sum_le n (n-1) 1
 have h2:(n-1)*(1+(n-1))≤9999*10000:=Nat.mul_le_mul om_ om_
 unfold psN
 omega
theorem sum_ev (l:List Nat) (hl:l.length≤1000000) (hs:l.sum≤1000000000):Ev (fun k=>impl_sum.f k (ints l)) (l.sum:Int):=by
 have key:∀(r:List Nat) (i s:Nat),l.drop i=r→s+r.sum≤1000000000→i≤l.length→Ev (fun k=>impl_sum.l0 k (s:Int) (ints l) (l.length:Int) (i:Int)) ((s+r.sum:Nat):Int):=by
  intro r
  induction r with
  |nil=>
   intro i s hd _ hi
   have:l.length≤i:=List.drop_eq_nil_iff.1 hd
   refine Es (fun k=>?_) (Ev.now _)
   simp only[impl_sum.l0]
   rw[if_neg om_]
   rfl
  |cons x r ih=>
   intro i s hd hb hi
   obtain⟨hlt,hx,hr⟩:=drop_at hd
   rw[List.sum_cons]at hb
   have ih:=ih (i+1) (s+x) hr om_ hlt
   rw[show s+(x::r).sum =s+x+r.sum by rw[List.sum_cons];omega]
   refine Es (fun k=>?_) ih
   simp only[impl_sum.l0,rd_at (l:=ints l) (i:=i) (x:=(x:Int)) (by unfold ints;rw[List.getElem?_map,hx];rfl),ints_length]
   rw[if_pos om_,if_pos om_,if_pos om_,w64 om_ om_,w64 om_ om_]
   rfl
 unfold impl_sum.f
 rw[ints_length]
 have:=key l 0 0 rfl om_ (Nat.zero_le _)
 rw[Nat.zero_add]at this
 exact this
theorem ps_impl {n:Nat} (h1:1≤n) (h2:n≤10000):Ev (fun k=>impl_ProperSum.f k (n:Int)) (psN n:Int):=by
 have hp:=psN_le h2
 have hs:(dv n).sum =psN n+n:=by rw[dv_eq h1 h2];exact dvF_last h1
 unfold impl_ProperSum.f
 simp only[numberOk_eq,Option.bind_some,show(1:Int)≤n∧(n:Int)≤10000 from⟨by omega,by omega⟩,and_self,decide_true,if_true]
 refine Eb (impl_dv h1 h2) (Eb (sum_ev (dv n) ?_ om_) ?_)
 ·rw[dv_eq h1 h2]
  have:=dvF_length n 1 n
  unfold dvs;omega
 ·rw[hs,w64 om_ om_,show((psN n+n:Nat):Int)-(n:Int)=(psN n:Int)by omega]
  exact Ev.now _
theorem ps_spec {n:Nat} (h1:1≤n) (h2:n≤10000):Ev (fun k=>spec_ProperSum.f k (n:Int)) (psN n:Int):=by
 have hp:=psN_le h2
 have key:∀(f d s:Nat),d+f=n→1≤d→s+(dvF n d f).sum ≤1000000000→Ev (fun k=>spec_ProperSum.l0 k (n:Int) (s:Int) (d:Int)) ((s+(dvF n d f).sum :Nat):Int):=by
  intro f
  induction f with
  |zero=>
   intro d s hd _ _
   refine Es (fun k=>?_) (Ev.now _)
   simp only[spec_ProperSum.l0]
   rw[if_neg om_]
   simp[dvF]
  |succ f ih=>
   intro d s hd hd1 hs
   rw[dvF_succ]at hs ⊢
   by_cases hc:n%d=0
   ·rw[if_pos hc,List.sum_cons]at hs ⊢
    have ih:=ih (d+1) (s+d) om_ om_ om_
    rw[show s+(d+(dvF n (d+1) f).sum)=s+d+(dvF n (d+1) f).sum by omega]
    refine Es (fun k=>?_) ih
    simp only[spec_ProperSum.l0,tmod_nat]
    rw[if_pos om_,if_neg om_,if_pos om_,w64 om_ om_,w64 om_ om_]
    rfl
   ·rw[if_neg hc]at hs ⊢
    refine Es (fun k=>?_) (ih (d+1) s om_ om_ hs)
    simp only[spec_ProperSum.l0,tmod_nat]
    rw[if_pos om_,if_neg om_,if_neg om_,w64 om_ om_]
    rfl
 unfold spec_ProperSum.f
 simp only[l1In_eq,Option.bind_some,show(1:Int)≤n∧(n:Int)≤10000 from⟨by omega,by omega⟩,and_self,decide_true,if_true]
 have:=key (n-1) 1 0 om_ om_ (by unfold psN at hp;omega)
 rw[Nat.zero_add]at this
 exact this
theorem kind_both {n:Nat} (h1:1≤n) (h2:n≤10000):∃v, -1≤v∧v≤1∧Ev (fun k=>impl_KindOf.f k (n:Int)) v∧Ev (fun k=>spec_KindOf.f k (n:Int)) v:=by
 have hs:=ps_spec h1 h2
 have hi:=ps_impl h1 h2
 have hn:∀a:Int,cmp_isNaN_int.f a=some false:=fun a=>by unfold cmp_isNaN_int.f;simp
 have hc:∀a b:Int,cmp_Compare_int.f a b=some (if a<b then-1 else if a>b then 1 else 0):=fun a b=>by
  unfold cmp_Compare_int.f
  rw[hn,hn,Option.bind_some,Option.bind_some,if_neg (by simp),if_neg (by simp)]
  repeat' split
  all_goals rfl
 refine⟨if(psN n:Int)<(n:Int)then-1 else if(psN n:Int)>(n:Int)then 1 else 0,(by split;omega;split <;> omega),(by split;omega;split <;> omega),?_,?_⟩
 ·unfold impl_KindOf.f
  simp only[numberOk_eq,Option.bind_some,show(1:Int)≤n∧(n:Int)≤10000 from⟨by omega,by omega⟩,and_self,decide_true,if_true]
  exact Eb hi (Ec (hc _ _) (Ev.now _))
 ·unfold spec_KindOf.f
  refine Eb hs (En om_ ?_)
  by_cases c1:(psN n:Int)<(n:Int)
  ·simp only[if_pos c1];exact Ev.now _
  ·by_cases c2:(psN n:Int)=(n:Int)
   ·simp only[if_neg c1,if_pos c2,if_neg (show ¬(psN n:Int)>(n:Int)by omega)];exact Ev.now _
   ·simp only[if_neg c1,if_neg c2,if_pos (show(psN n:Int)>(n:Int)by omega)];exact Ev.now _
theorem contains_ev (l:List Int) (x:Int) (hl:l.length≤1000):Ev (fun k=>slices_Contains_int_int.f k l x) (decide (x∈l)):=by
 have key:∀(r:List Int) (i:Nat),l.drop i=r→∃v,Ev (fun k=>slices_Index_int_int.l0 k l x (l.length:Int) (i:Int)) v∧(v≥0↔x∈r):=by
  intro r
  induction r with
  |nil=>
   intro i hd
   have:l.length≤i:=List.drop_eq_nil_iff.1 hd
   refine⟨-1,Es (fun k=>?_) (Ev.now _),by simp⟩
   simp only[slices_Index_int_int.l0]
   rw[if_neg om_]
  |cons y r ih=>
   intro i hd
   obtain⟨hlt,hy,hr⟩:=drop_at hd
   by_cases he:x=y
   ·refine⟨(i:Int),Es (f:=fun _=>some (i:Int)) (fun k=>?_) (Ev.now _),⟨fun _=>by simp[he],fun _=>by omega⟩⟩
    simp only[slices_Index_int_int.l0,rd_at hy]
    rw[if_pos om_,if_pos om_,if_pos om_,if_pos he]
   ·obtain⟨v,e1,e2⟩:=ih (i+1) hr
    refine⟨v,Es (fun k=>?_) e1,e2.trans ⟨fun h=>List.mem_cons_of_mem _ h,fun h=>(List.mem_cons.1 h).resolve_left he⟩⟩
    simp only[slices_Index_int_int.l0,rd_at hy]
    rw[if_pos om_,if_pos om_,if_pos om_,if_neg he,w64 om_ om_]
    rfl
 obtain⟨v,e1,e2⟩:=key l 0 rfl
 unfold slices_Contains_int_int.f slices_Index_int_int.f
 refine Eb e1 ?_
 rw[show decide (v≥0)=decide (x∈l)from by rw[Bool.eq_iff_iff,decide_eq_true_eq,decide_eq_true_eq];exact e2]
 exact Ev.now _
theorem way_spec_l1 (l:List Int) (x:Int) (hl:l.length<30) (R:List Int) (p:Int) (hp:Ev (fun k=>spec_ProperSum.f k x) p) (hR:Ev (fun k=>spec_WayFrom.l0 k (l++[x]) p) R):∀(r:List Int) (i:Nat),l.drop i=r→Ev (fun k=>spec_WayFrom.l1 k l x (i:Int)) (if x∈r then l else R):=by
 intro r
 induction r with
 |nil=>
  intro i hd
  have:l.length≤i:=List.drop_eq_nil_iff.1 hd
  rw[if_neg (by simp)]
  refine Es (f:=fun k=>(spec_ProperSum.f k x).bind fun t=>spec_WayFrom.l0 k (l++[x]) t) (fun k=>?_) (Eb hp hR)
  simp only[spec_WayFrom.l1]
  rw[if_neg om_,if_pos om_]
 |cons y r ih=>
  intro i hd
  obtain⟨hlt,hy,hr⟩:=drop_at hd
  by_cases he:y=x
  ·rw[if_pos (by simp[he])]
   refine Es (f:=fun _=>some l) (fun k=>?_) (Ev.now _)
   simp only[spec_WayFrom.l1,rd_at hy]
   rw[if_pos om_,if_pos om_,if_pos he]
  ·rw[show(if x∈y::r then l else R)=(if x∈r then l else R)by simp[List.mem_cons,show ¬x=y from fun h=>he h.symm]]
   refine Es (fun k=>?_) (ih (i+1) hr)
   simp only[spec_WayFrom.l1,rd_at hy]
   rw[if_pos om_,if_pos om_,if_neg he,w64 om_ om_]
   rfl
theorem way_go:∀(f:Nat) (l:List Int) (x:Int),l.length+f=30→(∀y∈l,okZ y)→∃R,l.length≤R.length∧R.length≤30∧((1≤x∧x≤10000)→0<f→0<R.length)∧(∀y∈R,okZ y)∧Ev (fun k=>impl_WayFrom.l0 k x l) R∧Ev (fun k=>spec_WayFrom.l0 k l x) R:=by
 intro f
 have out:∀(l:List Int) (x:Int),¬((1≤x∧x≤10000)∧l.length<30)→Ev (fun k=>impl_WayFrom.l0 k x l) l∧Ev (fun k=>spec_WayFrom.l0 k l x) l:=by
  intro l x h
  constructor
  ·refine Es (f:=fun _=>some l) (fun k=>?_) (Ev.now _)
   simp only[impl_WayFrom.l0,numberOk_eq,Option.bind_some]
   by_cases hx:1≤x∧x≤10000
   ·rw[if_pos (by simpa using hx),if_neg (fun z=>h ⟨hx,by omega⟩)]
   ·rw[if_neg (by simpa using hx)]
  ·refine Es (f:=fun k=>spec_WayFrom.j1 k l x false) (fun k=>?_) (Es (f:=fun _=>some l) (fun k=>?_) (Ev.now _))
   ·simp only[spec_WayFrom.l0,l1In_eq,Option.bind_some]
    by_cases hx:1≤x∧x≤10000
    ·rw[if_pos (by simpa using hx),decide_eq_false (fun z=>h ⟨hx,by omega⟩)]
    ·rw[if_neg (by simpa using hx)]
   ·simp only[spec_WayFrom.j1]
    rw[if_neg (by simp)]
 induction f with
 |zero=>
  intro l x hl hb
  obtain⟨e1,e2⟩:=out l x (fun z=>by omega)
  exact⟨l,Nat.le_refl _,by omega,fun _ h=>by omega,hb,e1,e2⟩
 |succ f ih=>
  intro l x hl hb
  by_cases hx:1≤x∧x≤10000
  ·obtain⟨n,rfl⟩:∃n:Nat,x=n:=⟨x.toNat,by omega⟩
   have h1:1≤n:=by omega
   have h2:n≤10000:=by omega
   obtain⟨R,r1,r2,r3,r4,r5,r6⟩:=ih (l++[(n:Int)]) (psN n:Int) (by simp;omega) (fun y hy=>by
    rcases List.mem_append.1 hy with hy|hy
    ·exact hb y hy
    ·rw[List.mem_singleton.1 hy];exact⟨by omega,by omega⟩)
   rw[List.length_append]at r1
   have hs:=way_spec_l1 l (n:Int) om_ R _ (ps_spec h1 h2) r6 l 0 rfl
   have hs2:Ev (fun k=>spec_WayFrom.l0 k l (n:Int)) (if(n:Int)∈l then l else R):=by
    refine Es (f:=fun k=>spec_WayFrom.j1 k l (n:Int) true) (fun k=>?_) (Es (fun k=>?_) hs)
    ·simp only[spec_WayFrom.l0,l1In_eq,Option.bind_some]
     rw[if_pos (by simpa using hx),decide_eq_true om_]
    ·simp only[spec_WayFrom.j1,if_true];rfl
   have hi:Ev (fun k=>impl_WayFrom.l0 k (n:Int) l) (if(n:Int)∈l then l else R):=by
    refine Es (f:=fun k=>(slices_Contains_int_int.f k l (n:Int)).bind fun t=>if t=true then some l else(impl_ProperSum.f k (n:Int)).bind fun t=>impl_WayFrom.l0 k t (l++[(n:Int)])) (fun k=>?_) (Eb (contains_ev l _ om_) ?_)
    ·simp only[impl_WayFrom.l0,numberOk_eq,Option.bind_some]
     rw[if_pos (by simpa using hx),if_pos om_]
     simp only[if_pos (show l.length<17592186044416 by omega)]
    ·by_cases hm:(n:Int)∈l
     ·rw[decide_eq_true hm,if_pos hm];exact Ep rfl (Ev.now _)
     ·rw[decide_eq_false hm,if_neg hm];exact En (by simp) (Eb (ps_impl h1 h2) r5)
   refine⟨_,?_,?_,?_,?_,hi,hs2⟩
   ·split <;> omega
   ·split <;> omega
   ·intro _ _
    split
    ·rename_i hm;exact List.length_pos_of_mem hm
    ·simp at r1;omega
   ·intro y hy
    split at hy
    ·exact hb y hy
    ·exact r4 y hy
  ·obtain⟨e1,e2⟩:=out l x (fun z=>hx z.1)
   exact⟨l,Nat.le_refl _,by omega,fun h=>absurd h hx,hb,e1,e2⟩
theorem way_both {n:Nat} (h1:1≤n) (h2:n≤10000):∃R,R≠[]∧R.length≤30∧(∀y∈R,okZ y)∧Ev (fun k=>impl_WayFrom.f k (n:Int)) R∧Ev (fun k=>spec_WayFrom.f k (n:Int)) R:=by
 obtain⟨R,r1,r2,r3,r4,r5,r6⟩:=way_go 30 [] (n:Int) (by simp) (by simp)
 refine⟨R,List.length_pos_iff.1 (r3 ⟨by omega,by omega⟩ om_),r2,r4,?_,r6⟩
 unfold impl_WayFrom.f
 simp only[numberOk_eq,Option.bind_some,show(1:Int)≤n∧(n:Int)≤10000 from⟨by omega,by omega⟩,and_self,decide_true,if_true]
 exact r5
def asP (p:Int):Nat→Int→Int
 |0,x=>x
 |t+1,x=>asP p t (wrap64 ((wrap64 (x*p))+1))
def asL:Int→List (Nat×Nat)→Int
 |s,[]=>s
 |s,x::r=>asL (wrap64 (s*asP (x.1:Int) x.2 1)) r
def asW (n:Nat):Int:=asL 1 (fac n)
theorem wr_add (x t:Int):wrap64 (x+18446744073709551616*t)=wrap64 x:=by unfold wrap64;omega
theorem wr_ex (x:Int):∃t,wrap64 x=x+18446744073709551616*t:=⟨-((x+9223372036854775808) / 18446744073709551616),by unfold wrap64;omega⟩
theorem wr_mul (a p:Int):wrap64 (wrap64 a*p)=wrap64 (a*p):=by
 obtain⟨t,e⟩:=wr_ex a
 rw[e,Int.add_mul,Int.mul_assoc,wr_add]
theorem wr_sum (a b:Int):wrap64 (wrap64 a+wrap64 b)=wrap64 (a+b):=by
 obtain⟨t,e⟩:=wr_ex a
 obtain⟨u,f⟩:=wr_ex b
 rw[e,f,show a+18446744073709551616*t+(b+18446744073709551616*u)=a+b+18446744073709551616*(t+u)by omega,wr_add]
theorem wr_one:wrap64 1=1:=w64 om_ om_
def hS (p:Int):Nat→Int
 |0=>1
 |j+1=>hS p j*p+1
def hQ (p:Int):Nat→Int
 |0=>1
 |j+1=>hQ p j*p
theorem hS_Q (p:Int):∀j,hS p j+hQ p (j+1)=hS p j*p+1
 |0=>by simp[hS,hQ];omega
 |j+1=>by
  have ih:=hS_Q p j
  have e:hS p (j+1)*p+1=(hS p j+hQ p (j+1))*p+1:=by rw[ih];rfl
  rw[e,Int.add_mul]
  show hS p j*p+1+hQ p (j+1)*p=_
  omega
theorem asP_hS (p:Int):∀(f j:Nat),asP p f (wrap64 (hS p j))=wrap64 (hS p (j+f))
 |0,j=>rfl
 |f+1,j=>by
  have e:wrap64 (wrap64 (wrap64 (hS p j)*p)+1)=wrap64 (hS p (j+1)):=by
   rw[wr_mul,←wr_one,wr_sum];rfl
  rw[asP,e,asP_hS p f (j+1),show j+1+f=j+(f+1)by omega]
theorem asP_one (p:Int) (f:Nat):asP p f 1=wrap64 (hS p f):=by
 have:=asP_hS p f 0
 rw[Nat.zero_add]at this
 rwa [show wrap64 (hS p 0)=1 from wr_one]at this
theorem impl_asP (s:Int) (x1 x2:Nat) (hx2:x2≤1000) (L:List (List Int)) (len i:Int) (R:Int):∀(f t:Nat) (y:Int),t+f=x2→
  Ev (fun k=>impl_AllSum.l0 k (wrap64 (s*asP (x1:Int) f y)) L len (wrap64 (i+1))) R→
  Ev (fun k=>impl_AllSum.l1 k s [(x1:Int),(x2:Int)] y L len i (x2:Int) (t:Int)) R:=by
 intro f
 induction f with
 |zero=>
  intro t y ht hR
  refine Es (fun k=>?_) hR
  simp only[impl_AllSum.l1,asP]
  rw[if_neg om_]
 |succ f ih=>
  intro t y ht hR
  simp only[asP]at hR
  refine Es (fun k=>?_) (ih (t+1) (wrap64 ((wrap64 (y*(x1:Int)))+1)) om_ hR)
  simp only[impl_AllSum.l1,rd_p0,len_p]
  rw[if_pos om_,if_pos om_,w64 (n:=(t:Int)+1) om_ om_]
  rfl
theorem spec_asP (s:Int) (L:List (List Int)) (i:Nat) (hi:i<L.length) (p e:Nat) (he:e≤1000) (hL:rd_L1 L (i:Int)=[(p:Int),(e:Int)]) (R:Int) (hR:Ev (fun k=>spec_AllSum.l0 k (wrap64 (s*asP (p:Int) e 1)) L (wrap64 ((i:Int)+1))) R):∀(f j:Nat),j+f=e→
  Ev (fun k=>spec_AllSum.l1 k s L (i:Int) (wrap64 (hS p j)) (wrap64 (hQ p j)) (j:Int)) R:=by
 intro f
 induction f with
 |zero=>
  intro j hj
  obtain rfl:j=e:=by omega
  rw[asP_one]at hR
  refine Es (fun k=>?_) hR
  simp only[spec_AllSum.l1,hL,rd_p1,len_p]
  rw[if_pos om_,if_pos om_,if_pos om_,if_neg om_]
 |succ f ih=>
  intro j hj
  refine Es (fun k=>?_) (ih (j+1) om_)
  have e1:wrap64 (wrap64 (hQ p j)*(p:Int))=wrap64 (hQ p (j+1)):=wr_mul _ _
  have e2:wrap64 (wrap64 (hS p j)+wrap64 (hQ p (j+1)))=wrap64 (hS p (j+1)):=by rw[wr_sum,hS_Q];rfl
  simp only[spec_AllSum.l1,hL,rd_p0,rd_p1,len_p,e1,e2]
  rw[if_pos om_,if_pos om_,if_pos om_,if_pos om_,if_pos om_,w64 (n:=(j:Int)+1) om_ om_]
  rfl
theorem allSum_L (l:List (Nat×Nat)) (hl:l.length≤1000) (hm:∀x∈l,2≤x.1∧x.1≤10000∧1≤x.2∧x.2≤14):∀(r:List (Nat×Nat)) (i:Nat) (s:Int),l.drop i=r→i≤l.length→
  Ev (fun k=>impl_AllSum.l0 k s (fints l) (l.length:Int) (i:Int)) (asL s r)∧Ev (fun k=>spec_AllSum.l0 k s (fints l) (i:Int)) (asL s r):=by
 intro r
 induction r with
 |nil=>
  intro i s hd hi
  have:l.length≤i:=List.drop_eq_nil_iff.1 hd
  refine⟨Es (fun k=>?_) (Ev.now _),Es (fun k=>?_) (Ev.now _)⟩
  ·simp only[impl_AllSum.l0]
   rw[if_neg om_]
   rfl
  ·simp only[spec_AllSum.l0,fints_length]
   rw[if_neg om_]
   rfl
 |cons x r ih=>
  intro i s hd hi
  obtain⟨hlt,hx,hr⟩:=drop_at hd
  have hxm:=hm x (List.mem_of_getElem? hx)
  simp only[asL]
  obtain⟨h1,h2⟩:=ih (i+1) (wrap64 (s*asP (x.1:Int) x.2 1)) hr hlt
  have e:wrap64 ((i:Int)+1)=((i+1:Nat):Int):=by rw[w64 om_ om_];rfl
  constructor
  ·refine Es (fun k=>?_) (impl_asP s x.1 x.2 om_ (fints l) (l.length:Int) (i:Int) _ x.2 0 1 om_ (by rw[e];exact h1))
   simp only[impl_AllSum.l0,fints_at l i x hx,fints_length,rd_p1,len_p]
   rw[if_pos om_,if_pos om_,if_pos om_,if_pos om_]
   rfl
  ·refine Es (fun k=>?_) (spec_asP s (fints l) i (by rw[fints_length];exact hlt) x.1 x.2 om_ (fints_at l i x hx) _ (by rw[e];exact h2) x.2 0 om_)
   simp only[spec_AllSum.l0,fints_length]
   rw[if_pos om_,show wrap64 (hS (x.1:Int) 0)=1 from wr_one,show wrap64 (hQ (x.1:Int) 0)=1 from wr_one]
   rfl
theorem allSum_both {n:Nat} (h1:1≤n) (h2:n≤10000):Ev (fun k=>impl_AllSum.f k (n:Int)) (asW n)∧Ev (fun k=>spec_AllSum.f k (n:Int)) (asW n):=by
 have hp:(1:Int)≤n∧(n:Int)≤10000:=⟨by omega,by omega⟩
 obtain⟨e1,e2⟩:=allSum_L (fac n) (fac_length n) (fac_mem h1 h2) (fac n) 0 1 rfl (Nat.zero_le _)
 constructor
 ·unfold impl_AllSum.f
  simp only[numberOk_eq,Option.bind_some,hp,and_self,decide_true,if_true]
  refine Eb (impl_fac h1 h2) ?_
  rw[fints_length]
  exact e1
 ·unfold spec_AllSum.f
  simp only[l1In_eq,Option.bind_some,hp,and_self,decide_true,if_true]
  exact Eb (spec_fac h1 h2) e2
theorem asL_ok:∀(l:List (Nat×Nat)) (s:Int), -9223372036854775808≤s∧s≤9223372036854775807→ -9223372036854775808≤asL s l∧asL s l≤9223372036854775807
 |[],_,h=>h
 |_::r,_,_=>asL_ok r _ (by unfold wrap64;omega)
theorem impl_phL (l:List (Nat×Nat)) (hl:l.length≤1000) (hm:∀x∈l,2≤x.1∧x.1≤10000∧1≤x.2∧x.2≤14):∀(r:List (Nat×Nat)) (i s:Nat),l.drop i=r→i≤l.length→s≤10000→
  Ev (fun k=>impl_phi.l0 k (s:Int) (fints l) (l.length:Int) (i:Int)) ((phL s r:Nat):Int):=by
 intro r
 induction r with
 |nil=>
  intro i s hd hi _
  have:l.length≤i:=List.drop_eq_nil_iff.1 hd
  refine Es (fun k=>?_) (Ev.now _)
  simp only[impl_phi.l0]
  rw[if_neg om_]
  rfl
 |cons x r ih=>
  intro i s hd hi hs
  obtain⟨hlt,hx,hr⟩:=drop_at hd
  have hxm:=hm x (List.mem_of_getElem? hx)
  have hstep:=ph_step (s:=s) (show 1≤x.1 by omega)
  have hdv:s / x.1≤s:=Nat.div_le_self _ _
  simp only[phL]
  refine Es (fun k=>?_) (ih (i+1) (s / x.1*(x.1-1)) hr hlt om_)
  simp only[impl_phi.l0,fints_at l i x hx,fints_length,rd_p0,rd_p1,len_p,tdiv_nat]
  have e:((s / x.1:Nat):Int)*((x.1:Int)-1)=((s / x.1*(x.1-1):Nat):Int):=by
   rw[Int.natCast_mul,show((x.1-1:Nat):Int)=(x.1:Int)-1 by omega]
  generalize hq:s / x.1=q at*
  rw[if_pos om_,if_pos om_,if_pos om_,if_pos om_,if_neg om_,w64 (n:=(q:Int)) om_ om_,w64 (n:=(x.1:Int)-1) om_ om_,e]
  generalize q*(x.1-1)=z at*
  rw[w64 om_ om_,w64 om_ om_]
  rfl
theorem impl_ph {n:Nat} (h1:1≤n) (h2:n≤10000):Ev (fun k=>impl_phi.f k (n:Int)) ((ph n:Nat):Int):=by
 unfold impl_phi.f
 refine Eb (impl_fac h1 h2) ?_
 rw[fints_length]
 exact impl_phL (fac n) (fac_length n) (fac_mem h1 h2) (fac n) 0 n rfl (Nat.zero_le _) h2
theorem spec_phL (l:List (Nat×Nat)) (hl:l.length≤1000) (hm:∀x∈l,2≤x.1∧x.1≤10000∧1≤x.2∧x.2≤14):∀(r:List (Nat×Nat)) (i s:Nat),l.drop i=r→i≤l.length→s≤10000→
  Ev (fun k=>spec_HowManyApart.l0 k (s:Int) (fints l) (i:Int)) ((phL s r:Nat):Int):=by
 intro r
 induction r with
 |nil=>
  intro i s hd hi _
  have:l.length≤i:=List.drop_eq_nil_iff.1 hd
  refine Es (fun k=>?_) (Ev.now _)
  simp only[spec_HowManyApart.l0,fints_length]
  rw[if_neg om_]
  rfl
 |cons x r ih=>
  intro i s hd hi hs
  obtain⟨hlt,hx,hr⟩:=drop_at hd
  have hxm:=hm x (List.mem_of_getElem? hx)
  have hstep:=ph_step (s:=s) (show 1≤x.1 by omega)
  have hdv:s / x.1≤s:=Nat.div_le_self _ _
  simp only[phL]
  refine Es (fun k=>?_) (ih (i+1) (s / x.1*(x.1-1)) hr hlt om_)
  simp only[spec_HowManyApart.l0,fints_at l i x hx,fints_length,rd_p0,rd_p1,len_p,tdiv_nat]
  have e:((s / x.1:Nat):Int)*((x.1:Int)-1)=((s / x.1*(x.1-1):Nat):Int):=by
   rw[Int.natCast_mul,show((x.1-1:Nat):Int)=(x.1:Int)-1 by omega]
  generalize hq:s / x.1=q at*
  rw[if_pos om_,if_pos om_,if_pos om_,if_neg om_,w64 (n:=(q:Int)) om_ om_,w64 (n:=(x.1:Int)-1) om_ om_,e]
  generalize q*(x.1-1)=z at*
  rw[w64 om_ om_,w64 om_ om_]
  rfl
theorem spec_ph {n:Nat} (h1:1≤n) (h2:n≤10000):Ev (fun k=>spec_HowManyApart.f k (n:Int)) ((ph n:Nat):Int):=by
 unfold spec_HowManyApart.f
 simp only[l1In_eq,Option.bind_some,show(1:Int)≤n∧(n:Int)≤10000 from⟨by omega,by omega⟩,and_self,decide_true,if_true]
 exact Eb (spec_fac h1 h2) (spec_phL (fac n) (fac_length n) (fac_mem h1 h2) (fac n) 0 n rfl (Nat.zero_le _) h2)
theorem impl_lsg (a:Int) (h:0≤a):impl_leavesSign.f a=some (lsg a):=by
 unfold impl_leavesSign.f lsg
 rw[tmod_pos h]
 split
 ·rfl
 ·split <;> rfl
theorem spec_Lsg (a:Int):spec_LeavesSign.f a=some (if 1≤a∧a≤10000 then lsg a else 0):=by
 unfold spec_LeavesSign.f
 rw[l1In_eq]
 simp only[Option.bind_some]
 by_cases hr:1≤a∧a≤10000
 ·simp only[hr,decide_true,if_true,and_self]
  rw[tmod_pos om_,tmod_pos om_]
  unfold lsg
  have h4:a%4=0∨a%4=1∨a%4=2∨a%4=3:=by omega
  rcases h4 with h4|h4|h4|h4
  ·rw[if_pos om_,if_neg om_,if_neg om_]
  ·rw[if_neg om_,if_pos om_,h4,w64 om_ om_];rfl
  ·rw[if_pos om_,if_neg om_,if_neg om_]
  ·rw[if_neg om_,if_neg om_,if_pos om_,h4,w64 om_ om_];rfl
 ·simp[hr]
theorem spec_dvL {n:Nat} (h2:n≤10000):∀(f d:Nat) (x:List Int),d+f=n+1→1≤d→x.length<d→
  Ev (fun k=>spec_DivisorsOf.l0 k (n:Int) x (d:Int)) (x++ints (dvF n d f)):=by
 intro f
 induction f with
 |zero=>
  intro d x hd hd1 hx
  simp only[dvF,List.range'_zero,List.filter_nil,ints,List.map_nil,List.append_nil]
  refine Es (f:=fun k=>spec_DivisorsOf.j1 k (n:Int) x (d:Int) false) (fun k=>?_) (Es (fun k=>?_) (Ev.now _))
  ·simp only[spec_DivisorsOf.l0]
   rw[if_neg om_]
  ·simp only[spec_DivisorsOf.j1]
   rw[if_neg (by simp)]
 |succ f ih=>
  intro d x hd hd1 hx
  rw[dvF_succ]
  by_cases hm:n%d=0
  ·have ih:=ih (d+1) (x++[(d:Int)]) om_ om_ (by simp;omega)
   rw[if_pos hm,show x++ints (d::dvF n (d+1) f)=x++[(d:Int)]++ints (dvF n (d+1) f)by simp[ints]]
   refine Es (f:=fun k=>spec_DivisorsOf.j1 k (n:Int) x (d:Int) true) (fun k=>?_) (Es (fun k=>?_) ih)
   ·simp only[spec_DivisorsOf.l0]
    rw[if_pos om_,decide_eq_true om_]
   ·simp only[spec_DivisorsOf.j1,if_true,tmod_nat]
    rw[if_neg om_,if_pos om_,if_pos om_,w64 om_ om_]
    rfl
  ·have ih:=ih (d+1) x om_ om_ om_
   rw[if_neg hm]
   refine Es (f:=fun k=>spec_DivisorsOf.j1 k (n:Int) x (d:Int) true) (fun k=>?_) (Es (fun k=>?_) ih)
   ·simp only[spec_DivisorsOf.l0]
    rw[if_pos om_,decide_eq_true om_]
   ·simp only[spec_DivisorsOf.j1,if_true,tmod_nat]
    rw[if_neg om_,if_neg om_,w64 om_ om_]
    rfl
theorem spec_dv {n:Nat} (h1:1≤n) (h2:n≤10000):Ev (fun k=>spec_DivisorsOf.f k (n:Int)) (ints (dv n)):=by
 unfold spec_DivisorsOf.f
 have h:=spec_dvL h2 n 1 [] om_ om_ (by simp)
 rw[List.nil_append]at h
 rw[dv_eq h1 h2]
 exact h
theorem impl_byL (l:List Nat) (hl:l.length≤20000):∀(r:List Nat) (i:Nat) (s:Int),l.drop i=r→i≤l.length→ -(4*(i:Int))≤s→s≤4*(i:Int)→
  Ev (fun k=>impl_ByDivisors.l0 k s (ints l) (l.length:Int) (i:Int)) (s+4*bySum r):=by
 intro r
 induction r with
 |nil=>
  intro i s hd hi h1 h2
  have:l.length≤i:=List.drop_eq_nil_iff.1 hd
  refine Es (fun k=>?_) (Ev.now _)
  simp only[impl_ByDivisors.l0]
  rw[if_neg om_]
  simp[bySum]
 |cons x r ih=>
  intro i s hd hi h1 h2
  obtain⟨hlt,hx,hr⟩:=drop_at hd
  have hg:=lsg_rng (x:Int)
  have ih:=ih (i+1) (s+4*lsg (x:Int)) hr hlt om_ om_
  have e:s+4*bySum (x::r)=s+4*lsg (x:Int)+4*bySum r:=by rw[bySum_cons];omega
  rw[e]
  refine Es (fun k=>?_) ih
  simp only[impl_ByDivisors.l0,intsAt hx,ints_length]
  rw[if_pos om_,if_pos om_,if_pos om_,impl_lsg _ om_]
  simp only[Option.bind_some]
  rw[w64 (n:=4*lsg (x:Int)) om_ om_,w64 (n:=s+4*lsg (x:Int)) om_ om_,w64 om_ om_]
  rfl
theorem spec_byL (l:List Nat) (hl:l.length≤20000) (hm:∀x∈l,1≤x∧x≤10000):∀(r:List Nat) (i:Nat) (s:Int),l.drop i=r→i≤l.length→ -(i:Int)≤s→s≤(i:Int)→
  Ev (fun k=>spec_ByDivisors.l0 k s (ints l) (i:Int)) (4*(s+bySum r)):=by
 intro r
 induction r with
 |nil=>
  intro i s hd hi h1 h2
  have:l.length≤i:=List.drop_eq_nil_iff.1 hd
  refine Es (fun k=>?_) (Ev.now _)
  simp only[spec_ByDivisors.l0,ints_length]
  rw[if_neg om_,w64 om_ om_]
  simp[bySum]
 |cons x r ih=>
  intro i s hd hi h1 h2
  obtain⟨hlt,hx,hr⟩:=drop_at hd
  have hg:=lsg_rng (x:Int)
  have hxm:=hm x (List.mem_of_getElem? hx)
  have ih:=ih (i+1) (s+lsg (x:Int)) hr hlt om_ om_
  have e:4*(s+bySum (x::r))=4*(s+lsg (x:Int)+bySum r):=by rw[bySum_cons];omega
  rw[e]
  refine Es (fun k=>?_) ih
  simp only[spec_ByDivisors.l0,intsAt hx,ints_length,spec_Lsg]
  rw[if_pos om_,if_pos om_]
  simp only[Option.bind_some]
  rw[if_pos (show(1:Int)≤x∧(x:Int)≤10000 by omega),w64 (n:=s+lsg (x:Int)) om_ om_,w64 om_ om_]
  rfl
theorem impl_by {n:Nat} (h1:1≤n) (h2:n≤10000):Ev (fun k=>impl_ByDivisors.f k (n:Int)) (byD n):=by
 unfold impl_ByDivisors.f
 simp only[numberOk_eq,Option.bind_some,show(1:Int)≤n∧(n:Int)≤10000 from⟨by omega,by omega⟩,and_self,decide_true,if_true]
 have hl:=dv_len h1 h2
 refine Eb (impl_dv h1 h2) ?_
 have h:=impl_byL (dv n) om_ (dv n) 0 0 rfl om_ om_ om_
 rw[Int.zero_add]at h
 rw[ints_length]
 exact h
theorem spec_by {n:Nat} (h1:1≤n) (h2:n≤10000):Ev (fun k=>spec_ByDivisors.f k (n:Int)) (byD n):=by
 unfold spec_ByDivisors.f
 simp only[l1In_eq,Option.bind_some,show(1:Int)≤n∧(n:Int)≤10000 from⟨by omega,by omega⟩,and_self,decide_true,if_true]
 have hl:=dv_len h1 h2
 refine Eb (spec_dv h1 h2) ?_
 have h:=spec_byL (dv n) om_ (fun x hx=>by rw[dv_eq h1 h2]at hx;have:=mem_dvs.1 hx;omega) (dv n) 0 0 rfl om_ om_ om_
 rw[Int.zero_add]at h
 exact h
theorem cutL (s:ByteArray) (hs:s.size≤1099511627776):∀(d i f:Nat) (out:List ByteArray),i+d=s.size→f≤i→out.length≤f→(∀j,f≤j→j<i→s.data.toList[j]? ≠some 32)→
  Ev (fun k=>spec_l1Cut.l0 k s 32 out (f:Int) (i:Int)) (out++(wordsL 32 (s.data.toList.drop f)).map bw):=by
 intro d
 induction d with
 |zero=>
  intro i f out h hf ho hn
  have hl:s.data.toList.length=s.size:=(size_data s).symm
  have e:s.data.toList.drop f=(s.data.toList.drop f).take (i-f):=by rw[List.take_of_length_le];rw[List.length_drop];omega
  rw[wordsL_plain (by rw[e];exact seg_no hn)]
  refine Es (f:=fun _=>some (out++[bw (s.data.toList.drop f)])) (fun k=>?_) (Ev.now _)
  simp only[spec_l1Cut.l0]
  rw[if_neg om_,if_pos om_,if_pos om_,if_pos om_]
  have e2:s.extract ((f:Int).toNat) s.size=bw (s.data.toList.drop f):=by
   rw[show((f:Int)).toNat =f by omega,ext_bw,List.take_of_length_le]
   rw[List.length_drop];omega
  rw[e2]
 |succ d ih=>
  intro i f out h hf ho hn
  have hl:s.data.toList.length=s.size:=(size_data s).symm
  obtain⟨b,hb⟩:∃b,s.data.toList[i]? =some b:=⟨_,List.getElem?_eq_getElem om_⟩
  by_cases hc:b=32
  ·subst hc
   have hsp:=seg_split hf hb
   have e:(wordsL 32 (s.data.toList.drop f)).map bw=bw ((s.data.toList.drop f).take (i-f))::(wordsL 32 (s.data.toList.drop (i+1))).map bw:=by
    conv=>lhs;rw[hsp,wordsL_cut _ (seg_no hn)]
    rfl
   rw[e,show out++bw ((s.data.toList.drop f).take (i-f))::(wordsL 32 (s.data.toList.drop (i+1))).map bw=(out++[bw ((s.data.toList.drop f).take (i-f))])++(wordsL 32 (s.data.toList.drop (i+1))).map bw by simp]
   refine Es (fun k=>?_) (ih (i+1) (i+1) (out++[bw ((s.data.toList.drop f).take (i-f))]) om_ (Nat.le_refl _) (by simp;omega) (fun j h1 h2=>by omega))
   simp only[spec_l1Cut.l0]
   rw[if_pos om_,if_pos om_,bt_get hb,if_pos dc_,if_pos om_,if_pos om_,if_pos om_,if_pos om_,w64 om_ om_,←ext_bw]
   rw[show((f:Int)).toNat =f by omega,show((i:Int)).toNat =i by omega]
   rfl
  ·refine Es (fun k=>?_) (ih (i+1) f out om_ om_ ho (fun j h1 h2=>?_))
   ·simp only[spec_l1Cut.l0]
    rw[if_pos om_,if_pos om_,bt_get hb,if_neg (fun hz=>hc (UInt8.toNat.inj (by have:(32:UInt8).toNat =32:=rfl;omega))),w64 om_ om_]
    rfl
   ·by_cases hj:j=i
    ·subst hj;rw[hb];exact fun hz=>hc (Option.some.inj hz)
    ·exact hn j h1 om_
theorem spec_cut (s:ByteArray) (hs:s.size≤1099511627776):Ev (fun k=>spec_l1Cut.f k s 32) (wordsB s):=by
 unfold spec_l1Cut.f
 have h:=cutL s hs s.size 0 0 [] om_ (Nat.le_refl _) (by simp) (fun j h1 h2=>by omega)
 exact h
def dgf (n:Int):List UInt8→Int
 |[]=>n
 |b::r=>if(b.toNat:Int)<48 then-1 else if(b.toNat:Int)>57 then-1 else dgf (wrap64 (wrap64 (10*n)+((b.toNat:Int)-48)%256)) r
theorem digitsL (s:ByteArray) (hs:s.size≤1099511627776):∀(r:List UInt8) (i:Nat) (n:Int),s.data.toList.drop i=r→Ev (fun k=>spec_l1Digits.l0 k s n (i:Int)) (dgf n r):=by
 intro r
 have hl:s.data.toList.length=s.size:=(size_data s).symm
 induction r with
 |nil=>
  intro i n h
  have:s.data.toList.length≤i:=List.drop_eq_nil_iff.1 h
  refine Es (f:=fun _=>some n) (fun k=>?_) (Ev.now _)
  simp only[spec_l1Digits.l0]
  rw[if_neg om_]
 |cons b r ih=>
  intro i n h
  obtain⟨h1,h2,h3⟩:=drop_at h
  by_cases c1:(b.toNat:Int)<48
  ·rw[dgf,if_pos c1]
   refine Es (f:=fun _=>some (-1)) (fun k=>?_) (Ev.now _)
   simp only[spec_l1Digits.l0]
   rw[if_pos om_,if_pos om_,bt_get h2,if_pos c1]
  ·by_cases c2:(b.toNat:Int)>57
   ·rw[dgf,if_neg c1,if_pos c2]
    refine Es (f:=fun _=>some (-1)) (fun k=>?_) (Ev.now _)
    simp only[spec_l1Digits.l0]
    rw[if_pos om_,if_pos om_,bt_get h2,if_neg c1,if_pos c2]
   ·rw[dgf,if_neg c1,if_neg c2]
    refine Es (fun k=>?_) (ih (i+1) _ h3)
    simp only[spec_l1Digits.l0]
    rw[if_pos om_,if_pos om_,bt_get h2,if_neg c1,if_neg c2]
    have e:wrap64 ((i:Int)+1)=((i+1:Nat):Int):=by rw[w64 om_ om_];rfl
    rw[e]
theorem dv_app:∀(xs ys:List UInt8) (n:Int) (m:Int),(∀b∈xs,48≤b.toNat∧b.toNat≤57)→dgf n xs=m→dgf n (xs++ys)=dgf m ys
 |[],ys,n,m,_,h=>by simp only[dgf]at h;subst h;rfl
 |b::r,ys,n,m,hd,h=>by
  have hb:=hd b List.mem_cons_self
  rw[dgf,if_neg om_,if_neg om_]at h
  rw[List.cons_append,dgf,if_neg om_,if_neg om_]
  exact dv_app r ys _ m (fun x hx=>hd x (List.mem_cons_of_mem _ hx)) h
theorem dv_dec (u:Nat) (h:u≤1000000):dgf 0 (Go.Lib.decDigits u)=(u:Int):=by
 induction u using Nat.strongRecOn with
 |_ u ih=>
  by_cases h1:u<10
  ·rw[Go.Lib.decDigits_one h1]
   simp only[dgf]
   rw[ofNat_toNat om_,if_neg om_,if_neg om_,w64 (n:=10*0) om_ om_,w64 om_ om_]
   omega
  ·rw[dec_big h1,dv_app _ _ 0 ((u / 10:Nat):Int) (dec_digits _) (ih (u / 10) om_ om_)]
   simp only[dgf]
   rw[ofNat_toNat om_,if_neg om_,if_neg om_,w64 (n:=10*((u / 10:Nat):Int)) om_ om_,w64 om_ om_]
   omega
def dgv (s:ByteArray):Int:=if ¬(1≤(s.size:Int)∧(s.size:Int)≤5)then-1 else if(s.size:Int)>1∧bt s 0=48 then-1 else dgf 0 s.data.toList
theorem spec_digits (s:ByteArray) (hs:s.size≤1099511627776):Ev (fun k=>spec_l1Digits.f k s) (dgv s):=by
 unfold spec_l1Digits.f dgv
 rw[l1In_eq]
 have hno:Ev (fun k=>spec_l1Digits.j0 k s true) (-1):=by
  refine Es (f:=fun _=>some (-1)) (fun k=>?_) (Ev.now _)
  simp only[spec_l1Digits.j0];rw[if_pos trivial]
 have hgo:Ev (fun k=>spec_l1Digits.j0 k s false) (dgf 0 s.data.toList):=by
  refine Es (fun k=>?_) (digitsL s hs s.data.toList 0 0 rfl)
  simp only[spec_l1Digits.j0];rw[if_neg (by simp)];rfl
 by_cases h1:1≤(s.size:Int)∧(s.size:Int)≤5
 ·rw[if_neg (by simpa using h1)]
  refine Ec rfl (Ep (by simpa using h1) ?_)
  by_cases h2:(s.size:Int)>1
  ·refine Ep h2 (Ep om_ ?_)
   by_cases h3:bt s 0=48
   ·rw[if_pos ⟨h2,h3⟩]
    simp only[h3,beq_self_eq_true]
    exact hno
   ·rw[if_neg (fun z=>h3 z.2)]
    have:(bt s 0==48)=false:=by simpa using h3
    simp only[this]
    exact hgo
  ·rw[if_neg (fun z=>h2 z.1)]
   exact En h2 hgo
 ·rw[if_pos h1]
  exact Ec rfl (En (by simpa using h1) hno)
theorem dgv_dec (u:Nat) (h:u≤99999):dgv (bw (Go.Lib.decDigits u))=(u:Int):=by
 unfold dgv
 have hsz:(bw (Go.Lib.decDigits u)).size =Go.Lib.nDigits u:=by rw[bw_size,Go.Lib.decDigits_length]
 have h4:=nDigits_pow 4 u om_
 have h1:=Go.Lib.nDigits_pos u
 rw[hsz,if_neg om_,if_neg,data_bw,dv_dec u om_]
 rintro⟨h2,h3⟩
 obtain⟨b,r,e,hb⟩:=dec_head u
 have hg:(bw (Go.Lib.decDigits u)).data.toList[0]? =some b:=by rw[data_bw,e];rfl
 have h5:=bt_get hg
 have hu:¬u<10:=fun hz=>by rw[Go.Lib.nDigits_small hz]at h2;omega
 have:=hb om_
 rw[show((0:Nat):Int)=0 from rfl]at h5
 omega
theorem itoa_eq (n:Int) (h0:0≤n) (h1:n≤100000):strconv_Itoa.f n=some (digB n):=by
 unfold strconv_Itoa.f;rw[if_pos om_,if_pos om_];rfl
theorem impl_j1 (b:Bool) (a x y:Int) (hb:b=decide (¬(y=0∧0≤x∧x≤9))) (h3:¬(a=3∧0≤x∧x≤99∧0≤y∧y≤9999)):Ev (fun k=>impl_DeedText.j1 k b a x y) (dText a x y):=by
 cases b with
 |true=>
  have hb:=of_decide_eq_true hb.symm
  refine Es (f:=fun _=>some (dText a x y)) (fun k=>?_) (Ev.now _)
  simp only[impl_DeedText.j1]
  unfold dText
  rw[if_pos trivial,if_neg h3,if_pos hb];rfl
 |false=>
  have hb:y=0∧0≤x∧x≤9:=Decidable.not_not.1 (of_decide_eq_false hb.symm)
  obtain⟨rfl,h1,h2⟩:=hb
  obtain⟨n,rfl⟩:∃n:Nat,x=n:=⟨x.toNat,by omega⟩
  have s1:=digB_size n om_
  have e:dText a (n:Int) 0=(if a=0 then tTimes++digB (n:Int)else if a=1 then tUnit++digB (n:Int)else if(n:Int)=0∧a=2 then tInv else if(n:Int)=0∧a=4 then tBack else tNone):=by
   unfold dText;rw[if_neg h3,if_neg om_]
  rw[e]
  refine Es (f:=fun _=>some (if a=0 then tTimes++digB (n:Int)else if a=1 then tUnit++digB (n:Int)else if(n:Int)=0∧a=2 then tInv else if(n:Int)=0∧a=4 then tBack else tNone)) (fun k=>?_) (Ev.now _)
  simp only[impl_DeedText.j1]
  rw[if_neg (by simp),itoa_eq _ om_ om_]
  simp only[Option.bind_some]
  by_cases c0:a=0
  ·rw[if_pos c0,if_pos c0,if_pos om_];rfl
  ·rw[if_neg c0,if_neg c0]
   by_cases c1:a=1
   ·rw[if_pos c1,if_pos c1,if_pos om_];rfl
   ·rw[if_neg c1,if_neg c1]
    by_cases cx:(n:Int)=0
    ·simp only[cx,if_true,true_and]
     by_cases c2:a=2
     ·simp only[if_pos c2];rfl
     ·simp only[if_neg c2]
      by_cases c4:a=4
      ·simp only[if_pos c4];rfl
      ·simp only[if_neg c4];rfl
    ·simp only[cx,if_false,false_and];rfl
theorem impl_j0f (a x y:Int) (h3:¬(a=3∧0≤x∧x≤99∧0≤y∧y≤9999)):Ev (fun k=>impl_DeedText.j0 k false a x y) (dText a x y):=by
 refine Es (f:=fun k=>impl_DeedText.j1 k (decide (¬(y=0∧0≤x∧x≤9))) a x y) (fun k=>?_) (impl_j1 _ a x y rfl h3)
 simp only[impl_DeedText.j0]
 rw[if_neg (by simp)]
 by_cases hy:y=0
 ·rw[if_pos hy]
  by_cases hx:x<0
  ·rw[if_pos hx];congr 1
   exact(decide_eq_true (show ¬(y=0∧0≤x∧x≤9)from fun z=>by omega)).symm
  ·rw[if_neg hx];congr 1
   by_cases h9:x>9
   ·rw[decide_eq_true h9];exact(decide_eq_true (show ¬(y=0∧0≤x∧x≤9)from fun z=>by omega)).symm
   ·rw[decide_eq_false h9];exact(decide_eq_false (show ¬¬(y=0∧0≤x∧x≤9)from fun z=>z ⟨hy,by omega,by omega⟩)).symm
 ·rw[if_neg hy];congr 1
  exact(decide_eq_true (show ¬(y=0∧0≤x∧x≤9)from fun z=>hy z.1)).symm
theorem impl_deedText (a x y:Int):Ev (fun k=>impl_DeedText.f k a x y) (dText a x y):=by
 unfold impl_DeedText.f
 by_cases h3:a=3
 ·simp only[if_pos h3]
  by_cases hx:x≥0
  ·simp only[if_pos hx]
   by_cases hx2:x≤99
   ·simp only[if_pos hx2]
    by_cases hy:y≥0
    ·simp only[if_pos hy]
     by_cases hy2:y≤9999
     ·simp only[decide_eq_true hy2]
      obtain⟨n,rfl⟩:∃n:Nat,x=n:=⟨x.toNat,by omega⟩
      obtain⟨m,rfl⟩:∃m:Nat,y=m:=⟨y.toNat,by omega⟩
      have s1:=digB_size n om_
      have s2:=digB_size m om_
      have e:dText a (n:Int) (m:Int)=((tSet++digB (n:Int))++tSp)++digB (m:Int):=by unfold dText;rw[if_pos ⟨h3,hx,hx2,hy,hy2⟩]
      rw[e]
      refine Es (f:=fun _=>some _) (fun k=>?_) (Ev.now _)
      simp only[impl_DeedText.j0]
      rw[if_pos trivial,itoa_eq _ om_ om_,Option.bind_some,if_pos om_,if_pos,itoa_eq _ om_ om_,Option.bind_some,if_pos]
      ·rfl
      ·show((tSet++digB (n:Int))++tSp).size +_≤_
       rw[ByteArray.size_append,ByteArray.size_append,show tSet.size=4 from rfl,show tSp.size=1 from rfl];omega
      ·show(tSet++digB (n:Int)).size +_≤_
       rw[ByteArray.size_append,show tSet.size=4 from rfl];omega
     ·simp only[decide_eq_false hy2]
      exact impl_j0f a x y (fun z=>hy2 z.2.2.2.2)
    ·simp only[if_neg hy];exact impl_j0f a x y (fun z=>hy z.2.2.2.1)
   ·simp only[if_neg hx2];exact impl_j0f a x y (fun z=>hx2 z.2.2.1)
  ·simp only[if_neg hx];exact impl_j0f a x y (fun z=>hx z.2.1)
 ·simp only[if_neg h3];exact impl_j0f a x y (fun z=>h3 z.1)
def kfrom (w:ByteArray):List ByteArray→Int→Int
 |[],_=> -1
 |x::r,i=>if w.toList=x.toList then i else kfrom w r (i+1)
theorem idxL (l:List ByteArray) (w:ByteArray) (hl:l.length≤1000):∀(r:List ByteArray) (i:Nat),l.drop i=r→Ev (fun k=>slices_Index_string_string.l0 k l w (l.length:Int) (i:Int)) (kfrom w r (i:Int)):=by
 intro r
 induction r with
 |nil=>
  intro i h
  have:l.length≤i:=List.drop_eq_nil_iff.1 h
  refine Es (f:=fun _=>some (-1)) (fun k=>?_) (Ev.now _)
  simp only[slices_Index_string_string.l0]
  rw[if_neg om_]
 |cons x r ih=>
  intro i h
  obtain⟨h1,h2,h3⟩:=drop_at h
  have hx:rdOf ByteArray.empty l (i:Int)=x:=by unfold rdOf;simp[List.getD,h2]
  by_cases he:w.toList=x.toList
  ·rw[kfrom,if_pos he]
   refine Es (f:=fun _=>some (i:Int)) (fun k=>?_) (Ev.now _)
   simp only[slices_Index_string_string.l0]
   rw[if_pos om_,if_pos om_,if_pos om_,hx,if_pos he]
  ·rw[kfrom,if_neg he]
   refine Es (fun k=>?_) (ih (i+1) h3)
   simp only[slices_Index_string_string.l0]
   rw[if_pos om_,if_pos om_,if_pos om_,hx,if_neg he,w64 om_ om_]
   rfl
theorem idx_ev (w:ByteArray):Ev (fun k=>slices_Index_string_string.f k n5 w) (kidx w):=by
 unfold slices_Index_string_string.f
 have h:=idxL n5 w dc_ n5 0 rfl
 have e:kfrom w n5 ((0:Nat):Int)=kidx w:=by unfold kidx n5;simp[kfrom]
 rw[e]at h
 exact h
theorem wordsB_pos (s:ByteArray):0<(wordsB s).length :=by
 obtain⟨w,ws,e⟩:=wordsL_ne 32 s.data.toList
 unfold wordsB;rw[e];simp
theorem wordsB_size {s w:ByteArray} (h:w∈wordsB s):w.size≤s.size:=by
 unfold wordsB at h
 obtain⟨l,hl,rfl⟩:=List.mem_map.1 h
 rw[bw_size,size_data]
 exact wordsL_len 32 _ l hl
theorem rdOf_size {s:ByteArray} (i:Nat):(rdOf ByteArray.empty (wordsB s) (i:Int)).size ≤s.size:=by
 unfold rdOf
 have e:((i:Int)).toNat =i:=by omega
 rw[e]
 by_cases h:i<(wordsB s).length
 ·rw[List.getD_eq_getElem?_getD,List.getElem?_eq_getElem h]
  exact wordsB_size (List.getElem_mem h)
 ·rw[List.getD_eq_getElem?_getD,List.getElem?_eq_none om_]
  exact Nat.zero_le _
theorem atoi_eq (s:ByteArray) (h:s.size≤281474976710656):strconv_Atoi.f s=some (aval s,strconv_Atoi.err s):=by
 unfold strconv_Atoi.f;rw[if_pos h];rfl
theorem rdT_ev {g:Nat→Option ByteArray} {s:ByteArray} {a b c:Int} (h:Ev g (dText a b c)):Ev (fun k=>(g k).bind fun t=>if t.toList=s.toList then some (a,b,c,true)else some (0,0,0,false)) (rdT s a b c):=by
 unfold rdT
 by_cases hq:(dText a b c).toList =s.toList
 ·rw[if_pos hq];exact Eb h (Ep hq (Ev.now _))
 ·rw[if_neg hq];exact Eb h (En hq (Ev.now _))
theorem impl_rj1 (s:ByteArray) (hs:s.size<4294967281) (a b:Int):Ev (fun k=>impl_ReadDeed.j1 k s (wordsB s) a b 0) (rdT s a b (rdC (wordsB s))):=by
 unfold rdC
 by_cases h:((wordsB s).length :Int)>2
 ·rw[if_pos h]
  refine Es (f:=fun k=>(impl_DeedText.f k a b (aval (rdOf ByteArray.empty (wordsB s) 2))).bind fun t=>if t.toList=s.toList then some (a,b,aval (rdOf ByteArray.empty (wordsB s) 2),true)else some (0,0,0,false)) (fun k=>?_) (rdT_ev (impl_deedText _ _ _))
  have:(rdOf ByteArray.empty (wordsB s) 2).size ≤s.size:=rdOf_size (s:=s) 2
  simp only[impl_ReadDeed.j1]
  rw[if_pos h,if_pos om_,atoi_eq _ (Nat.le_trans this om_),Option.bind_some]
 ·rw[if_neg h]
  refine Es (f:=fun k=>(impl_DeedText.f k a b 0).bind fun t=>if t.toList=s.toList then some (a,b,0,true)else some (0,0,0,false)) (fun k=>?_) (rdT_ev (impl_deedText _ _ _))
  simp only[impl_ReadDeed.j1]
  rw[if_neg h]
theorem rd5 {i:Int} (h0:0≤i) (h4:i≤4):rd ([0,1,2,3,4]:List Int) i=i:=by
 have:i=0∨i=1∨i=2∨i=3∨i=4:=by omega
 rcases this with rfl|rfl|rfl|rfl|rfl <;> rfl
theorem impl_readDeed (s:ByteArray) (hs:s.size<4294967281):Ev (fun k=>impl_ReadDeed.f k s) (rdVal s):=by
 unfold impl_ReadDeed.f
 have hp:=wordsB_pos s
 have hsplit:strings_Split.f s (⟨#[32]⟩:ByteArray)=some (wordsB s):=by
  unfold strings_Split.f
  rw[if_pos hs,if_pos dc_]
  exact congrArg some (splitB_words 32 s)
 refine Ec hsplit (Ep om_ (Eb (idx_ev _) ?_))
 obtain⟨k0,k4⟩:=kidx_range (rdOf ByteArray.empty (wordsB s) 0)
 have hno:∀x5,Ev (fun k=>impl_ReadDeed.j0 k s (wordsB s) x5 true) no4:=fun x5=>by
  refine Es (f:=fun _=>some no4) (fun k=>?_) (Ev.now _)
  simp only[impl_ReadDeed.j0]
  rw[if_pos trivial];rfl
 unfold rdVal rdW
 by_cases h1:kidx (rdOf ByteArray.empty (wordsB s) 0)<0
 ·rw[if_pos h1]
  exact Ep h1 (hno _)
 ·rw[if_neg h1]
  refine En h1 ?_
  by_cases h2:((wordsB s).length :Int)>3
  ·rw[if_pos h2]
   simp only[decide_eq_true h2]
   exact hno _
  ·rw[if_neg h2]
   simp only[decide_eq_false h2]
   have hj:=impl_rj1 s hs (kidx (rdOf ByteArray.empty (wordsB s) 0)) (rdB (wordsB s))
   refine Es (fun k=>?_) hj
   simp only[impl_ReadDeed.j0,Option.bind_some]
   rw[if_neg (by simp),if_pos om_,if_pos (by simp;omega),rd5 om_ k4]
   unfold rdB
   by_cases h3:((wordsB s).length :Int)>1
   ·have:(rdOf ByteArray.empty (wordsB s) 1).size ≤s.size:=rdOf_size (s:=s) 1
    rw[if_pos h3,if_pos om_,atoi_eq _ (Nat.le_trans this om_),if_pos h3]
    rfl
   ·rw[if_neg h3,if_neg h3]
def w8:List ByteArray:=[bw [97,116],bw [112,114,105,109,101,115],bw [100,105,118,105,115,111,114,115],bw [119,97,121],bw [115,117,109],bw [107,105,110,100],bw [97,112,97,114,116],bw [115,113,117,97,114,101,115]]
def v8:List ByteArray:=[bw [97,116],bw [112,114,105,109,101,115],bw [100,105,118,105,115,111,114,115],bw [115,117,109],bw [107,105,110,100],bw [119,97,121],bw [97,112,97,114,116],bw [115,113,117,97,114,101,115]]
theorem v8_w8 (s:ByteArray):s∈v8↔s∈w8:=by
 simp only[v8,w8,List.mem_cons,List.not_mem_nil,or_false]
 constructor <;> (rintro(h|h|h|h|h|h|h|h) <;> simp[h])
theorem containsS_ev (l:List ByteArray) (w:ByteArray) (hl:l.length≤1000):∃b,Ev (fun k=>slices_Contains_string_string.f k l w) b∧(b=true↔w∈l):=by
 have key:∀(r:List ByteArray) (i:Nat),l.drop i=r→∃v,Ev (fun k=>slices_Index_string_string.l0 k l w (l.length:Int) (i:Int)) v∧(v≥0↔w∈r):=by
  intro r
  induction r with
  |nil=>
   intro i hd
   have:l.length≤i:=List.drop_eq_nil_iff.1 hd
   refine⟨-1,Es (fun k=>?_) (Ev.now _),by simp⟩
   simp only[slices_Index_string_string.l0]
   rw[if_neg om_]
  |cons y r ih=>
   intro i hd
   obtain⟨hlt,hy,hr⟩:=drop_at hd
   have hx:rdOf ByteArray.empty l (i:Int)=y:=by unfold rdOf;simp[List.getD,hy]
   by_cases he:w=y
   ·refine⟨(i:Int),Es (f:=fun _=>some (i:Int)) (fun k=>?_) (Ev.now _),⟨fun _=>by simp[he],fun _=>by omega⟩⟩
    simp only[slices_Index_string_string.l0,hx]
    rw[if_pos om_,if_pos om_,if_pos om_,if_pos (by rw[he])]
   ·obtain⟨v,e1,e2⟩:=ih (i+1) hr
    refine⟨v,Es (fun k=>?_) e1,e2.trans ⟨fun h=>List.mem_cons_of_mem _ h,fun h=>(List.mem_cons.1 h).resolve_left he⟩⟩
    simp only[slices_Index_string_string.l0,hx]
    rw[if_pos om_,if_pos om_,if_pos om_,if_neg (fun z=>he (toList_inj.1 z)),w64 om_ om_]
    rfl
 obtain⟨v,e1,e2⟩:=key l 0 rfl
 unfold slices_Contains_string_string.f slices_Index_string_string.f
 exact⟨decide (v≥0),Eb e1 (Ev.now _),by rw[decide_eq_true_eq];exact e2⟩
theorem nDigits_lt:∀(k u:Nat),Go.Lib.nDigits u≤k+1→u<10 ^ (k+1)
 |0,u,h=>by
  by_cases h1:u<10
  ·simpa using h1
  ·rw[Go.Lib.nDigits_big h1]at h
   have:=Go.Lib.nDigits_pos (u / 10)
   omega
 |k+1,u,h=>by
  by_cases h1:u<10
  ·have:10 ^ 1≤10 ^ (k+1+1):=Nat.pow_le_pow_right om_ om_
   omega
  ·rw[Go.Lib.nDigits_big h1]at h
   have:=nDigits_lt k (u / 10) om_
   rw[Nat.pow_succ]
   omega
theorem dec_snoc {a d:Nat} (ha:1≤a) (hd:d<10):Go.Lib.decDigits (10*a+d)=Go.Lib.decDigits a++[UInt8.ofNat (48+d)]:=by
 rw[dec_big om_,show(10*a+d) / 10=a by omega,show(10*a+d)%10=d by omega]
theorem dv_dec2:∀(l:List UInt8) (c a:Nat),c+l.length=12→1≤a→a+1≤10 ^ c→0≤dgf (a:Int) l→∃m:Nat,dgf (a:Int) l=(m:Int)∧Go.Lib.decDigits a++l=Go.Lib.decDigits m
 |[],_,a,_,_,_,_=>⟨a,rfl,by simp⟩
 |b::r,c,a,hc,ha,hp,h0=>by
  simp only[List.length_cons]at hc
  have hp2:10 ^ c≤10 ^ 12:=Nat.pow_le_pow_right om_ om_
  rw[show(10:Nat) ^ 12=1000000000000 from rfl]at hp2
  rw[dgf]at h0 ⊢
  by_cases h1:(b.toNat:Int)<48
  ·rw[if_pos h1]at h0;omega
  rw[if_neg h1]at h0 ⊢
  by_cases h2:(b.toNat:Int)>57
  ·rw[if_pos h2]at h0;omega
  rw[if_neg h2]at h0 ⊢
  have e:wrap64 (wrap64 (10*(a:Int))+((b.toNat:Int)-48)%256)=((10*a+(b.toNat-48):Nat):Int):=by
   rw[w64 (n:=10*(a:Int)) om_ om_,w64 om_ om_];omega
  rw[e]at h0 ⊢
  obtain⟨m,h3,h4⟩:=dv_dec2 r (c+1) (10*a+(b.toNat-48)) om_ om_ (by rw[Nat.pow_succ];omega) h0
  refine⟨m,h3,?_⟩
  rw[←h4,dec_snoc ha om_,List.append_assoc,show 48+(b.toNat-48)=b.toNat by omega]
  congr 1
  show b::r=[UInt8.ofNat b.toNat]++r
  rw[show UInt8.ofNat b.toNat=b from by apply UInt8.toNat.inj;simp]
  rfl
theorem dgv_num {s:ByteArray} (h:0≤dgv s):∃n:Nat,dgv s=(n:Int)∧s.data.toList=Go.Lib.decDigits n∧n≤99999:=by
 have hz:=size_data s
 unfold dgv at h ⊢
 by_cases h1:1≤(s.size:Int)∧(s.size:Int)≤5
 ·rw[if_neg (by simpa using h1)]at h ⊢
  by_cases h2:(s.size:Int)>1∧bt s 0=48
  ·rw[if_pos h2]at h;omega
  rw[if_neg h2]at h ⊢
  obtain⟨b,r,e⟩:∃b r,s.data.toList=b::r:=List.exists_cons_of_ne_nil (by intro z;rw[z,List.length_nil]at hz;omega)
  have key:∃n:Nat,dgf 0 s.data.toList=(n:Int)∧s.data.toList=Go.Lib.decDigits n:=by
   rw[e]at h ⊢
   rw[dgf]at h ⊢
   by_cases h3:(b.toNat:Int)<48
   ·rw[if_pos h3]at h;omega
   rw[if_neg h3]at h ⊢
   by_cases h4:(b.toNat:Int)>57
   ·rw[if_pos h4]at h;omega
   rw[if_neg h4]at h ⊢
   have e2:wrap64 (wrap64 (10*0)+((b.toNat:Int)-48)%256)=((b.toNat-48:Nat):Int):=by
    rw[w64 (n:=10*0) om_ om_,w64 om_ om_];omega
   rw[e2]at h ⊢
   have e3:Go.Lib.decDigits (b.toNat-48)=[b]:=by
    rw[Go.Lib.decDigits_one om_,show 48+(b.toNat-48)=b.toNat by omega,show UInt8.ofNat b.toNat=b from by apply UInt8.toNat.inj;simp]
   by_cases hr:r=[]
   ·subst hr
    exact⟨b.toNat-48,rfl,e3.symm⟩
   ·have hl:r.length≤4:=by rw[e]at hz;simp only[List.length_cons]at hz;omega
    have hl2:=List.length_pos_iff.2 hr
    have hb:bt s 0=(b.toNat:Int):=bt_get (i:=0) (by rw[e];rfl)
    have hb2:b.toNat≠48:=fun z=>h2 ⟨by rw[e]at hz;simp only[List.length_cons]at hz;omega,by rw[hb,z];rfl⟩
    have hpow:10 ^ 8≤10 ^ (12-r.length):=Nat.pow_le_pow_right om_ om_
    obtain⟨m,h5,h6⟩:=dv_dec2 r (12-r.length) (b.toNat-48) om_ om_ om_ h
    exact⟨m,h5,by rw[←h6,e3];rfl⟩
  obtain⟨n,h5,h6⟩:=key
  refine⟨n,h5,h6,?_⟩
  have:=nDigits_lt 4 n (by rw[←Go.Lib.decDigits_length,←h6,←hz];omega)
  omega
 ·rw[if_pos h1]at h;omega
theorem bw_toList (l:List UInt8):(bw l).toList =l:=by rw[ByteArray.toList_eq];rfl
theorem cut_space (L:List UInt8):((32:UInt8)∉L∧Go.Lib.cut L [32]=(L,[],false))∨∃x r,(32:UInt8)∉x∧L=x++32::r∧Go.Lib.cut L [32]=(x,r,true):=by
 by_cases h:(32:UInt8)∈L
 ·obtain⟨i,h1,h2,h3,h4⟩:=index_some h
  refine .inr ⟨_,_,h4,h3,?_⟩
  unfold Go.Lib.cut
  rw[h1,if_pos om_,Int.toNat_natCast]
  rfl
 ·refine .inl ⟨h,?_⟩
  unfold Go.Lib.cut
  rw[index_none_iff.2 h,if_neg om_]
theorem words_two {L a b:List UInt8} (h:wordsL 32 L=[a,b]):(32:UInt8)∉a∧L=a++32::b:=by
 rcases cut_space L with⟨h1,_⟩|⟨x,r,h1,rfl,_⟩
 ·rw[wordsL_plain h1]at h;cases h
 ·rw[wordsL_cut r h1]at h
  obtain⟨rfl,h2⟩:=List.cons.inj h
  rcases cut_space r with⟨h3,_⟩|⟨y,t,h3,rfl,_⟩
  ·rw[wordsL_plain h3]at h2
   obtain⟨rfl,_⟩:=List.cons.inj h2
   exact⟨h1,rfl⟩
  ·rw[wordsL_cut t h3]at h2
   obtain⟨w,ws,e⟩:=wordsL_ne 32 t
   rw[e]at h2;cases h2
theorem cut_uniq {x y r t:List UInt8} (hx:(32:UInt8)∉x) (hy:(32:UInt8)∉y) (h:x++32::r=y++32::t):x=y∧r=t:=by
 have:=congrArg (wordsL 32) h
 rw[wordsL_cut r hx,wordsL_cut t hy]at this
 obtain⟨rfl,_⟩:=List.cons.inj this
 exact⟨rfl,(List.cons.inj (List.append_cancel_left h)).2⟩
def tNo:ByteArray:=⟨#[110,111,110,101]⟩
def tWhat:ByteArray:=⟨#[119,104,97,116]⟩
def k3:List ByteArray:=[(⟨#[112,111,111,114]⟩:ByteArray),(⟨#[112,101,114,102,101,99,116]⟩:ByteArray),(⟨#[114,105,99,104]⟩:ByteArray)]
theorem bySum_rng:∀l:List Nat, -(l.length:Int)≤bySum l∧bySum l≤(l.length:Int)
 |[]=>by simp[bySum]
 |x::r=>by
  have h1:=lsg_rng (x:Int)
  have h2:=bySum_rng r
  rw[bySum_cons,List.length_cons]
  omega
theorem im_none (f:List Int) (w:ByteArray) {n:Nat} (h:¬(1≤n∧n≤10000)):Ev (fun k=>impl_answer.j0 k f w (n:Int) false) tNo:=by
 refine Es (f:=fun k=>impl_answer.j1 k f w (n:Int) true) (fun k=>?_) (Es (f:=fun _=>some tNo) (fun k=>?_) (Ev.now _))
 ·simp only[impl_answer.j0,numberOk_eq,Option.bind_some]
  rw[if_neg (by simp),if_neg (by simp;omega)]
 ·simp only[impl_answer.j1]
  rw[if_pos trivial];rfl
theorem spq_none (f:List Int) (w:ByteArray) {n:Nat} (h:¬(1≤n∧n≤10000)):Ev (fun k=>spec_l12Ask.f k f w (n:Int)) tNo:=by
 have hj:Ev (fun k=>spec_l12Ask.j0 k f w (n:Int) false) tNo:=by
  refine Es (f:=fun k=>spec_l12Ask.j1 k w (n:Int) true) (fun k=>?_) (Es (f:=fun _=>some tNo) (fun k=>?_) (Ev.now _))
  ·simp only[spec_l12Ask.j0,l1In_eq,Option.bind_some]
   rw[if_neg (by simp),if_neg (by simp;omega)]
  ·simp only[spec_l12Ask.j1]
   rw[if_pos trivial];rfl
 unfold spec_l12Ask.f
 by_cases hw:w.toList=[97,116]
 ·refine Ep hw (Ec (l1In_eq _ _ _) ?_)
  rw[decide_eq_false om_]
  exact hj
 ·exact En hw hj
theorem im_in (f:List Int) {w:ByteArray} {n:Nat} (h:1≤n∧n≤10000) (hw:¬w.toList=[97,116]) {R:ByteArray} (k:Ev (fun k=>impl_answer.j1 k f w (n:Int) false) R):Ev (fun k=>impl_answer.j0 k f w (n:Int) false) R:=by
 refine Es (fun k=>?_) k
 simp only[impl_answer.j0,numberOk_eq,Option.bind_some]
 rw[if_neg (by simp),if_pos (by simp;omega),if_neg hw]
theorem sp_in (f:List Int) {w:ByteArray} {n:Nat} (h:1≤n∧n≤10000) (hw:¬w.toList=[97,116]) {R:ByteArray} (k:Ev (fun k=>spec_l12Ask.j1 k w (n:Int) false) R):Ev (fun k=>spec_l12Ask.f k f w (n:Int)) R:=by
 unfold spec_l12Ask.f
 refine En hw (Es (fun k=>?_) k)
 simp only[spec_l12Ask.j0,l1In_eq,Option.bind_some]
 rw[if_neg (by simp),if_pos (by simp;omega),show(w.toList==([97,116]:List UInt8))=false by simpa using hw]
theorem ask_both (f:List Int) (hf:rowB f=true) (w:ByteArray) (hw:w∈w8) (n:Nat):∃R,Ev (fun k=>impl_answer.j0 k f w (n:Int) false) R∧Ev (fun k=>spec_l12Ask.f k f w (n:Int)) R:=by
 by_cases hn:1≤n∧n≤10000
 ·have h1:=hn.1
  have h2:=hn.2
  have gen:¬w.toList=[97,116]→(∃R,Ev (fun k=>impl_answer.j1 k f w (n:Int) false) R∧Ev (fun k=>spec_l12Ask.j1 k w (n:Int) false) R)→∃R,Ev (fun k=>impl_answer.j0 k f w (n:Int) false) R∧Ev (fun k=>spec_l12Ask.f k f w (n:Int)) R:=fun hw ⟨R,e1,e2⟩=>⟨R,im_in f hn hw e1,sp_in f hn hw e2⟩
  simp only[w8,List.mem_cons,List.not_mem_nil,or_false]at hw
  have F:false≠true:=by decide
  rcases hw with rfl|rfl|rfl|rfl|rfl|rfl|rfl|rfl
  ·by_cases h24:n≤24
   ·have hl:f.length=24:=by
     unfold rowB at hf
     rw[Bool.and_eq_true]at hf
     have:=hf.2
     simp only[beq_iff_eq]at this
     omega
    have hv:okZ (rd f ((n:Int)-1)):=by
     unfold rowB at hf
     rw[Bool.and_eq_true]at hf
     have:=allF_at _ _ _ hf.1 (n-1) om_ om_
     rw[show(n:Int)-1=((n-1:Nat):Int)by omega,rdn]
     simp only[r1,decide_eq_true_eq]at this
     unfold okZ
     omega
    refine⟨digB (rd f ((n:Int)-1)),?_,?_⟩
    ·refine Es (f:=fun k=>impl_answer.j1 k f (bw [97,116]) (n:Int) false) (fun k=>?_) (Es (f:=fun _=>some (digB (rd f ((n:Int)-1)))) (fun k=>?_) (Ev.now _))
     ·simp only[impl_answer.j0,numberOk_eq,Option.bind_some]
      rw[if_neg (by simp),if_pos (by simp;omega),if_pos (bw_toList _),decide_eq_false om_]
     ·simp only[impl_answer.j1]
      rw[if_neg (by simp),if_pos (bw_toList _),w64 om_ om_,if_pos om_,if_pos om_,itoa_ev hv]
      rfl
    ·unfold spec_l12Ask.f
     refine Ep (bw_toList _) (Ec (l1In_eq _ _ _) ?_)
     rw[decide_eq_true om_]
     refine Es (f:=fun k=>(spec_l1Number.f k (rd f ((n:Int)-1))).bind fun t=>some t) (fun k=>?_) (Eb (spec_numZ _ hv) (Ev.now _))
     simp only[spec_l12Ask.j0]
     rw[if_pos trivial,w64 om_ om_,if_pos om_,if_pos om_]
   ·refine⟨tNo,?_,?_⟩
    ·refine Es (f:=fun k=>impl_answer.j1 k f (bw [97,116]) (n:Int) true) (fun k=>?_) (Es (f:=fun _=>some tNo) (fun k=>?_) (Ev.now _))
     ·simp only[impl_answer.j0,numberOk_eq,Option.bind_some]
      rw[if_neg (by simp),if_pos (by simp;omega),if_pos (bw_toList _),decide_eq_true om_]
     ·simp only[impl_answer.j1]
      rw[if_pos trivial];rfl
    ·unfold spec_l12Ask.f
     refine Ep (bw_toList _) (Ec (l1In_eq _ _ _) ?_)
     rw[decide_eq_false om_]
     refine Es (f:=fun k=>spec_l12Ask.j1 k (bw [97,116]) (n:Int) true) (fun k=>?_) (Es (f:=fun _=>some tNo) (fun k=>?_) (Ev.now _))
     ·simp only[spec_l12Ask.j0,l1In_eq,Option.bind_some]
      rw[if_neg (by simp),if_pos (by simp;omega),bw_toList]
      rfl
     ·simp only[spec_l12Ask.j1]
      rw[if_pos trivial];rfl
  ·refine gen (by rw[bw_toList];decide) ⟨facT n,Es (fun k=>?_) (Eb (facT_impl h1 h2) (Ev.now _)),Es (fun k=>?_) (Eb (facT_spec h1 h2) (Ev.now _))⟩
   ·simp only[impl_answer.j1,bw_toList];rfl
   ·simp only[spec_l12Ask.j1,bw_toList];rfl
  ·have hb:∀x∈ints (dv n),okZ x:=fun x hx=>by
    obtain⟨y,hy,rfl⟩:=List.mem_map.1 hx
    rw[dv_eq h1 h2]at hy
    have:=mem_dvs.1 hy
    exact okN om_
   have hl:(ints (dv n)).length ≤20000:=by rw[ints_length];exact Nat.le_trans (dv_len h1 h2) om_
   have h0:ints (dv n)≠[]:=by
    intro z
    have:(1:Nat)∈dv n:=by rw[dv_eq h1 h2];exact mem_dvs.2 ⟨by omega,by omega,Nat.mod_one n⟩
    rw[show dv n=[]from List.map_eq_nil_iff.1 z]at this
    cases this
   refine gen (by rw[bw_toList];decide) ⟨rowJ (ints (dv n)),Es (fun k=>?_) (Eb (f:=fun k t=>(impl_rowText.f k t).bind fun t=>some t) (impl_dv h1 h2) (Eb (rowText_impl _ hl hb) (Ev.now _))),Es (fun k=>?_) (Eb (f:=fun k t=>(spec_l12Row.f k t).bind fun t=>some t) (spec_dv h1 h2) (Eb (rowText_spec _ h0 hl hb) (Ev.now _)))⟩
   ·simp only[impl_answer.j1,bw_toList];rfl
   ·simp only[spec_l12Ask.j1,bw_toList];rfl
  ·obtain⟨R,r0,rl,rb,e1,e2⟩:=way_both h1 h2
   refine gen (by rw[bw_toList];decide) ⟨rowJ R,Es (fun k=>?_) (Eb (f:=fun k t=>(impl_rowText.f k t).bind fun t=>some t) e1 (Eb (rowText_impl _ om_ rb) (Ev.now _))),Es (fun k=>?_) (Eb (f:=fun k t=>(spec_l12Row.f k t).bind fun t=>some t) e2 (Eb (rowText_spec _ r0 om_ rb) (Ev.now _)))⟩
   ·simp only[impl_answer.j1,bw_toList];rfl
   ·simp only[spec_l12Ask.j1,bw_toList];rfl
  ·obtain⟨e1,e2⟩:=allSum_both h1 h2
   have hk:okZ (asW n):=asL_ok _ _ ⟨by omega,by omega⟩
   refine gen (by rw[bw_toList];decide) ⟨digB (asW n),Es (fun k=>?_) (Eb (f:=fun _ t=>(strconv_Itoa.f t).bind fun t=>some t) e1 (Ec (itoa_ev hk) (Ev.now _))),Es (fun k=>?_) (Eb (f:=fun k t=>(spec_l1Number.f k t).bind fun t=>some t) e2 (Eb (spec_numZ _ hk) (Ev.now _)))⟩
   ·simp only[impl_answer.j1,bw_toList];rfl
   ·simp only[spec_l12Ask.j1,bw_toList];rfl
  ·obtain⟨v,v1,v2,e1,e2⟩:=kind_both h1 h2
   have hv:Ev (fun k=>if 0≤wrap64 (v+1)then(if wrap64 (v+1)<3 then some (rdOf ByteArray.empty k3 (wrap64 (v+1)))else none)else none) (rdOf ByteArray.empty k3 (v+1)):=by
    rw[w64 om_ om_]
    exact Ep om_ (Ep om_ (Ev.now _))
   refine gen (by rw[bw_toList];decide) ⟨rdOf ByteArray.empty k3 (v+1),Es (fun k=>?_) (Eb (f:=fun _ v=>if 0≤wrap64 (v+1)then(if wrap64 (v+1)<3 then some (rdOf ByteArray.empty k3 (wrap64 (v+1)))else none)else none) e1 hv),Es (fun k=>?_) (Eb (f:=fun _ v=>if 0≤wrap64 (v+1)then(if wrap64 (v+1)<3 then some (rdOf ByteArray.empty k3 (wrap64 (v+1)))else none)else none) e2 hv)⟩
   ·simp only[impl_answer.j1,bw_toList];rfl
   ·simp only[spec_l12Ask.j1,bw_toList];rfl
  ·have hk:okZ ((ph n:Nat):Int):=by have:=ph_le h1 h2;exact okN om_
   refine gen (by rw[bw_toList];decide) ⟨digB ((ph n:Nat):Int),Es (fun k=>?_) (Eb (f:=fun _ t=>(strconv_Itoa.f t).bind fun t=>some t) (impl_ph h1 h2) (Ec (itoa_ev hk) (Ev.now _))),Es (fun k=>?_) (Eb (f:=fun k t=>(spec_l1Number.f k t).bind fun t=>some t) (spec_ph h1 h2) (Eb (spec_numZ _ hk) (Ev.now _)))⟩
   ·simp only[impl_answer.j1,bw_toList];rfl
   ·simp only[spec_l12Ask.j1,bw_toList];rfl
  ·have hk:okZ (byD n):=by have z1:=bySum_rng (dv n);have z2:=dv_len h1 h2;unfold okZ byD;omega
   refine gen (by rw[bw_toList];decide) ⟨digB (byD n),Es (fun k=>?_) (Eb (f:=fun _ t=>(strconv_Itoa.f t).bind fun t=>some t) (impl_by h1 h2) (Ec (itoa_ev hk) (Ev.now _))),Es (fun k=>?_) (Eb (f:=fun k t=>(spec_l1Number.f k t).bind fun t=>some t) (spec_by h1 h2) (Eb (spec_numZ _ hk) (Ev.now _)))⟩
   ·simp only[impl_answer.j1,bw_toList];rfl
   ·simp only[spec_l12Ask.j1,bw_toList];rfl
 ·exact⟨tNo,im_none f w hn,spq_none f w hn⟩
theorem bw_rd1 (a b:ByteArray):rdOf ByteArray.empty [a,b] 1=b:=rfl
theorem sp_words (W:List ByteArray) (now:List Int) (past:List (List Int)) (c1:List Int) (c2:List (List Int)) (hs:(rdOf ByteArray.empty W 1).size ≤1099511627776) (R:ByteArray):∀(r:List ByteArray) (i:Nat),v8.drop i=r→
  (W.length=2→rdOf ByteArray.empty W 0∈r→0≤dgv (rdOf ByteArray.empty W 1)→Ev (fun k=>spec_l12Ask.f k now (rdOf ByteArray.empty W 0) (dgv (rdOf ByteArray.empty W 1))) R)→
  (¬(W.length=2∧rdOf ByteArray.empty W 0∈r∧0≤dgv (rdOf ByteArray.empty W 1))→R=tWhat)→Ev (fun k=>spec_DeskLine.l0 k W v8 8 (i:Int) now past c1 c2) (c1,c2,R):=by
 intro r
 induction r with
 |nil=>
  intro i hd _ hn
  have h8:v8.length=8:=rfl
  have:v8.length≤i:=List.drop_eq_nil_iff.1 hd
  rw[hn (by simp)]
  refine Es (f:=fun _=>some (c1,c2,tWhat)) (fun k=>?_) (Ev.now _)
  simp only[spec_DeskLine.l0]
  rw[if_neg om_]
  rfl
 |cons y r ih=>
  intro i hd hy hn
  have h8:v8.length=8:=rfl
  obtain⟨hlt,hx,hr⟩:=drop_at hd
  have hrd:rdOf ByteArray.empty v8 (i:Int)=y:=by unfold rdOf;simp[List.getD,hx]
  have e1:wrap64 ((i:Int)+1)=((i+1:Nat):Int):=w64 om_ om_
  have next:(W.length=2→0≤dgv (rdOf ByteArray.empty W 1)→rdOf ByteArray.empty W 0≠y)→Ev (fun k=>spec_DeskLine.j1 k W y v8 8 (i:Int) false now past c1 c2) (c1,c2,R):=fun hne=>by
   refine Es (fun k=>?_) (ih (i+1) hr (fun a b c=>hy a (List.mem_cons_of_mem _ b) c) (fun z=>hn fun w=>z ⟨w.1,(List.mem_cons.1 w.2.1).resolve_left (hne w.1 w.2.2),w.2.2⟩))
   simp only[spec_DeskLine.j1,e1]
   rw[if_neg (by simp)]
  by_cases h2:W.length=2
  ·by_cases h0:rdOf ByteArray.empty W 0=y
   ·refine Es (f:=fun k=>(spec_l1Digits.f k (rdOf ByteArray.empty W 1)).bind fun t=>spec_DeskLine.j1 k W y v8 8 (i:Int) (decide (t≥0)) now past c1 c2) (fun k=>?_) (Eb (spec_digits _ hs) ?_)
    ·simp only[spec_DeskLine.l0,hrd]
     rw[if_pos om_,if_pos om_,if_pos om_,if_pos om_,if_pos om_,if_pos (by rw[h0]),if_pos om_]
    ·by_cases hg:0≤dgv (rdOf ByteArray.empty W 1)
     ·rw[decide_eq_true hg]
      have hR:=hy h2 (by rw[h0];exact List.mem_cons_self) hg
      rw[h0]at hR
      refine Es (f:=fun k=>(spec_l1Digits.f k (rdOf ByteArray.empty W 1)).bind fun t=>(spec_l12Ask.f k now y t).bind fun u=>some (c1,c2,u)) (fun k=>?_) (Eb (spec_digits _ hs) (Eb hR (Ev.now _)))
      simp only[spec_DeskLine.j1]
      rw[if_pos trivial,if_pos om_]
     ·rw[decide_eq_false hg]
      exact next fun _ z=>absurd z hg
   ·refine Es (fun k=>?_) (next fun _ _=>h0)
    simp only[spec_DeskLine.l0,hrd]
    rw[if_pos om_,if_pos om_,if_pos om_,if_pos om_,if_pos om_,if_neg (fun z=>h0 (toList_inj.1 z))]
  ·refine Es (fun k=>?_) (next fun z=>absurd z h2)
   simp only[spec_DeskLine.l0,hrd]
   rw[if_pos om_,if_pos om_,if_pos om_,if_neg om_]
def isQ (s:ByteArray) (w:ByteArray) (n:Nat):Prop:=(32:UInt8)∉w.data.toList∧s.data.toList=w.data.toList++32::Go.Lib.decDigits n∧n≤99999
theorem atoi_q {n:Nat} (h:n≤99999):strconv_Atoi.f (bw (Go.Lib.decDigits n))=some ((n:Int),none):=by
 have hz:(bw (Go.Lib.decDigits n)).size =Go.Lib.nDigits n:=by rw[bw_size,Go.Lib.decDigits_length]
 have h1:=nDigits_pow 4 n om_
 unfold strconv_Atoi.f strconv_Atoi.val strconv_Atoi.err
 rw[if_pos om_,data_bw,atoi_dec n om_]
theorem im_q (f:List Int) (s:ByteArray) (hs:s.size≤1048576) (h1:¬s.toList=[102,105,114,115,116]) (h2:¬s.toList=[109,117,108,116,105,112,108,105,99,97,116,105,118,101]) (h3:¬s.toList=[102,117,108,108]) (R:ByteArray)
  (hy:∀w n,isQ s w n→w∈w8→Ev (fun k=>impl_answer.j0 k f w (n:Int) false) R) (hn:(¬∃w n,isQ s w n∧w∈w8)→R=tWhat):Ev (fun k=>impl_answer.f k f s) R:=by
 have no:∀w x,(¬∃w n,isQ s w n∧w∈w8)→Ev (fun k=>impl_answer.j0 k f w x true) R:=fun w x h=>by
  rw[hn h]
  refine Es (f:=fun _=>some tWhat) (fun k=>?_) (Ev.now _)
  simp only[impl_answer.j0]
  rw[if_pos trivial];rfl
 unfold impl_answer.f
 refine En h1 (En h2 (En h3 ?_))
 have hc:strings_Cut.f s (⟨#[32]⟩:ByteArray)=some (bw (Go.Lib.cut s.data.toList [32]).1,bw (Go.Lib.cut s.data.toList [32]).2.1,(Go.Lib.cut s.data.toList [32]).2.2):=by
  unfold strings_Cut.f
  rw[if_pos om_]
  rfl
 refine Ec hc ?_
 have hsz:=size_data s
 rcases cut_space s.data.toList with⟨q1,q2⟩|⟨x,r,q1,q2,q3⟩
 ·rw[q2]
  have ha:strconv_Atoi.f (bw [])=some (0,some 0):=rfl
  refine Ec ha ?_
  obtain⟨b,e1,e2⟩:=containsS_ev w8 (bw s.data.toList) dc_
  refine Eb e1 ?_
  have hno:¬∃w n,isQ s w n∧w∈w8:=fun⟨w,n,hq,_⟩=>q1 (by rw[hq.2.1];simp)
  cases b with
  |true=>exact Ep rfl (En (by simp) (no _ _ hno))
  |false=>exact En (by simp) (no _ _ hno)
 ·rw[q3]
  have hxr:x.length+r.length+1=s.size:=by rw[hsz,q2];simp;omega
  have hat:strconv_Atoi.f (bw r)=some (strconv_Atoi.val (bw r),strconv_Atoi.err (bw r)):=by
   unfold strconv_Atoi.f
   rw[bw_size,if_pos om_]
  refine Ec hat ?_
  obtain⟨b,e1,e2⟩:=containsS_ev w8 (bw x) dc_
  refine Eb e1 ?_
  by_cases hq:∃n:Nat,r=Go.Lib.decDigits n∧n≤99999
  ·obtain⟨n,rfl,hn5⟩:=hq
   have hQ:isQ s (bw x) n:=⟨q1,q2,hn5⟩
   cases b with
   |true=>
    have h5:=atoi_q hn5
    rw[hat]at h5
    have h6:=congrArg (·.1) (Option.some.inj h5)
    have h7:=congrArg (·.2) (Option.some.inj h5)
    simp only at h6 h7
    simp only[h6,h7]
    have hz:(bw (Go.Lib.decDigits n)).size =Go.Lib.nDigits n:=by rw[bw_size,Go.Lib.decDigits_length]
    have h8:=nDigits_pow 4 n om_
    refine Ep (by simp) (Ep (by simp) (En om_ (En om_ (Ec (itoa_ev (okN om_)) ?_))))
    rw[digB_bw,show((bw (Go.Lib.decDigits n)).toList != (bw (Go.Lib.decDigits n)).toList)=false from bne_self_eq_false ..]
    exact hy _ _ hQ (e2.1 rfl)
   |false=>
    refine En (by simp) (no _ _ fun⟨w,m,hw,hm⟩=>?_)
    have:=(cut_uniq q1 hw.1 (q2.symm.trans hw.2.1)).1
    rw[show bw x=w from bw_inj this]at e2
    exact absurd (e2.2 hm) (by simp)
  ·have hno:¬∃w n,isQ s w n∧w∈w8:=fun⟨w,n,hw,_⟩=>hq ⟨n,(cut_uniq q1 hw.1 (q2.symm.trans hw.2.1)).2,hw.2.2⟩
   cases b with
   |false=>exact En (by simp) (no _ _ hno)
   |true=>
    refine Ep rfl ?_
    by_cases g1:(strconv_Atoi.err (bw r)).isNone =true
    ·refine Ep g1 ?_
     by_cases g2:strconv_Atoi.val (bw r)<0
     ·exact Ep g2 (no _ _ hno)
     ·refine En g2 ?_
      by_cases g3:((bw r).size :Int)>5
      ·exact Ep g3 (no _ _ hno)
      ·refine En g3 ?_
       have hv:okZ (strconv_Atoi.val (bw r)):=by
        unfold strconv_Atoi.val
        rcases ha:Go.Lib.atoiAll (bw r).data.toList with v|_|_
        ·exact Go.Lib.atoiAll_bounds ha
        ·exact⟨by show(-9223372036854775808:Int)≤0;omega,by show(0:Int)≤_;omega⟩
        ·unfold Go.Lib.atoiSat;simp only;split <;> exact⟨by omega,by omega⟩
       refine Ec (itoa_ev hv) ?_
       have hne:((digB (strconv_Atoi.val (bw r))).toList != (bw r).toList)=true:=by
        rw[bne_iff_ne]
        intro z
        rw[toList_inj]at z
        obtain⟨m,hm⟩:∃m:Nat,strconv_Atoi.val (bw r)=m:=⟨(strconv_Atoi.val (bw r)).toNat,by omega⟩
        rw[hm,digB_bw]at z
        have h4:Go.Lib.decDigits m=r:=congrArg (fun b=>b.data.toList) z
        refine hq ⟨m,h4.symm,?_⟩
        rw[bw_size,←h4,Go.Lib.decDigits_length]at g3
        have:=nDigits_lt 4 m om_
        omega
       rw[hne]
       exact no _ _ hno
    ·exact En g1 (no _ _ hno)
theorem sp_q (f:List Int) (past:List (List Int)) (c1:List Int) (c2:List (List Int)) (s:ByteArray) (hs:s.size≤1048576) (R:ByteArray)
  (hy:∀w n,isQ s w n→w∈w8→Ev (fun k=>spec_l12Ask.f k f w (n:Int)) R) (hn:(¬∃w n,isQ s w n∧w∈w8)→R=tWhat):Ev (fun k=>spec_DeskLine.l0 k (wordsB s) v8 8 0 f past c1 c2) (c1,c2,R):=by
 have key:(wordsB s).length =2→0≤dgv (rdOf ByteArray.empty (wordsB s) 1)→∃n:Nat,dgv (rdOf ByteArray.empty (wordsB s) 1)=(n:Int)∧isQ s (rdOf ByteArray.empty (wordsB s) 0) n:=by
  intro h2 hd
  unfold wordsB at h2 hd ⊢
  rw[List.length_map]at h2
  obtain⟨a,b,e⟩:∃a b,wordsL 32 s.data.toList=[a,b]:=by
   match h:wordsL 32 s.data.toList with
   |[]=>rw[h]at h2;cases h2
   |[_]=>rw[h]at h2;cases h2
   |[a,b]=>exact⟨a,b,rfl⟩
   |_::_::_::_=>rw[h]at h2;simp at h2
  rw[e]at hd ⊢
  obtain⟨n,h3,h4,h5⟩:=dgv_num hd
  obtain⟨h6,h7⟩:=words_two e
  refine⟨n,h3,h6,?_,h5⟩
  rw[h7]
  show a++32::b=a++32::_
  rw[←h4]
  rfl
 refine sp_words (wordsB s) f past c1 c2 (Nat.le_trans (rdOf_size (s:=s) 1) om_) R v8 0 rfl (fun h2 hm hd=>?_) (fun hno=>hn fun⟨w,n,hq,hw⟩=>hno ?_)
 ·obtain⟨n,h3,h4⟩:=key h2 hd
  rw[h3]
  exact hy _ n h4 ((v8_w8 _).1 hm)
 ·have e:wordsB s=[w,bw (Go.Lib.decDigits n)]:=by
   unfold wordsB
   rw[hq.2.1,words2 hq.1]
   rfl
  rw[e]
  exact⟨rfl,(v8_w8 _).2 hw,by rw[bw_rd1,dgv_dec n hq.2.2];omega⟩
theorem spec_j2f (a x y:Int):Ev (fun k=>spec_DeedText.j2 k false a x y) (if a=4∧x=0∧y=0 then tBack else tNone):=by
 refine Es (f:=fun _=>some (if a=4∧x=0∧y=0 then tBack else tNone)) (fun k=>?_) (Ev.now _)
 simp only[spec_DeedText.j2]
 rw[if_neg (by simp)]
 by_cases h:a=4∧x=0∧y=0
 ·rw[if_pos (by simp[h]),if_pos h];rfl
 ·rw[if_neg (by simpa using h),if_neg h];rfl
theorem spec_j2t (a x y:Int) (h:0≤x∧x≤99∧0≤y∧y≤9999):Ev (fun k=>spec_DeedText.j2 k true a x y) (((tSet++digB x)++tSp)++digB y):=by
 obtain⟨h1,h2,h4,h5⟩:=h
 obtain⟨n,rfl⟩:∃n:Nat,x=n:=⟨x.toNat,by omega⟩
 obtain⟨m,rfl⟩:∃m:Nat,y=m:=⟨y.toNat,by omega⟩
 have s1:=digB_size n om_
 have s2:=digB_size m om_
 refine Es (f:=fun k=>(spec_l1Number.f k (n:Int)).bind fun t116=>(if 4+t116.size≤9223372036854775807 then(if(tSet++t116).size +1≤9223372036854775807 then((spec_l1Number.f k (m:Int)).bind fun t117=>(if((tSet++t116)++tSp).size +t117.size≤9223372036854775807 then(some (((tSet++t116)++tSp)++t117))else(none)))else(none))else(none))) (fun k=>?_) ?_
 ·simp only[spec_DeedText.j2,if_true];rfl
 ·refine Eb (spec_number n n (Nat.le_refl _) om_) (Ep om_ (Ep ?_ (Eb (spec_number m m (Nat.le_refl _) om_) (Ep ?_ (Ev.now _)))))
  ·rw[ByteArray.size_append,show tSet.size=4 from rfl];omega
  ·rw[ByteArray.size_append,ByteArray.size_append,show tSet.size=4 from rfl,show tSp.size=1 from rfl];omega
theorem spec_rest (a x y:Int) (h0:¬(a=0∧0≤x∧x≤9∧y=0)) (h1:¬(a=1∧0≤x∧x≤9∧y=0)):Ev (fun k=>spec_DeedText.j1 k false a x y) (dText a x y):=by
 by_cases hi:a=2∧x=0∧y=0
 ·obtain⟨rfl,rfl,rfl⟩:=hi
  refine Es (f:=fun _=>some tInv) (fun k=>?_) (Ev.now _)
  simp only[spec_DeedText.j1];rfl
 ·have hi2:¬(a==2&&(x==0&&y==0))=true:=by simpa using hi
  by_cases h3:a=3
  ·subst h3
   by_cases c:0≤x∧x≤99∧0≤y∧y≤9999
   ·have e:dText 3 x y=((tSet++digB x)++tSp)++digB y:=by unfold dText;rw[if_pos ⟨rfl,c⟩]
    rw[e]
    refine Es (f:=fun k=>spec_DeedText.j2 k true 3 x y) (fun k=>?_) (spec_j2t 3 x y c)
    simp only[spec_DeedText.j1]
    rw[if_neg (by simp),if_neg hi2,if_pos trivial,l1In_eq,Option.bind_some,l1In_eq,if_pos (by simp[c]),Option.bind_some]
    congr 1
    simp[c]
   ·have e:dText 3 x y=(if(3:Int)=4∧x=0∧y=0 then tBack else tNone):=by
     unfold dText
     rw[if_neg (fun z=>c z.2)]
     by_cases hh:y=0∧0≤x∧x≤9
     ·rw[if_neg (by simpa using hh),if_neg om_,if_neg om_,if_neg om_,if_neg om_,if_neg om_]
     ·rw[if_pos hh,if_neg om_]
    rw[e]
    refine Es (f:=fun k=>spec_DeedText.j2 k false 3 x y) (fun k=>?_) (spec_j2f 3 x y)
    simp only[spec_DeedText.j1]
    rw[if_neg (by simp),if_neg hi2,if_pos trivial,l1In_eq,Option.bind_some,l1In_eq]
    by_cases c1:0≤x∧x≤99
    ·rw[if_pos (by simpa using c1),Option.bind_some]
     congr 1
     exact decide_eq_false (fun z=>c ⟨c1.1,c1.2,z.1,z.2⟩)
    ·rw[if_neg (by simpa using c1)]
  ·have e:dText a x y=(if a=4∧x=0∧y=0 then tBack else tNone):=by
    unfold dText
    rw[if_neg (fun z=>h3 z.1)]
    by_cases hh:y=0∧0≤x∧x≤9
    ·rw[if_neg (by simpa using hh),if_neg (fun z=>h0 ⟨z,hh.2.1,hh.2.2,hh.1⟩),if_neg (fun z=>h1 ⟨z,hh.2.1,hh.2.2,hh.1⟩),if_neg (fun z=>hi ⟨z.2,z.1,hh.1⟩)]
     by_cases h4:a=4∧x=0∧y=0
     ·rw[if_pos h4,if_pos ⟨h4.2.1,h4.1⟩]
     ·rw[if_neg h4,if_neg (fun z=>h4 ⟨z.2,z.1,hh.1⟩)]
    ·rw[if_pos hh,if_neg (fun z=>hh ⟨z.2.2,by omega,by omega⟩)]
   rw[e]
   refine Es (f:=fun k=>spec_DeedText.j2 k false a x y) (fun k=>?_) (spec_j2f a x y)
   simp only[spec_DeedText.j1]
   rw[if_neg (by simp),if_neg hi2,if_neg h3]
theorem spec_j1 (b:Bool) (a x y:Int) (hb:b=decide (a=1∧0≤x∧x≤9∧y=0)) (h0:¬(a=0∧0≤x∧x≤9∧y=0)):Ev (fun k=>spec_DeedText.j1 k b a x y) (dText a x y):=by
 cases b with
 |true=>
  obtain⟨rfl,h1,h2,rfl⟩:=of_decide_eq_true hb.symm
  obtain⟨n,rfl⟩:∃n:Nat,x=n:=⟨x.toNat,by omega⟩
  have s1:=digB_size n om_
  have e:dText 1 (n:Int) 0=tUnit++digB (n:Int):=by
   unfold dText;rw[if_neg om_,if_neg om_,if_neg om_,if_pos rfl]
  rw[e]
  refine Es (f:=fun k=>(spec_l1Number.f k (n:Int)).bind fun t=>if 8+t.size≤9223372036854775807 then some (tUnit++t)else none) (fun k=>?_) (Eb (spec_number n n (Nat.le_refl _) om_) (Ep om_ (Ev.now _)))
  simp only[spec_DeedText.j1,if_true];rfl
 |false=>exact spec_rest a x y h0 (of_decide_eq_false hb.symm)
theorem spec_j0 (b:Bool) (a x y:Int) (hb:b=decide (a=0∧0≤x∧x≤9∧y=0)):Ev (fun k=>spec_DeedText.j0 k b a x y) (dText a x y):=by
 cases b with
 |true=>
  obtain⟨rfl,h1,h2,rfl⟩:=of_decide_eq_true hb.symm
  obtain⟨n,rfl⟩:∃n:Nat,x=n:=⟨x.toNat,by omega⟩
  have s1:=digB_size n om_
  have e:dText 0 (n:Int) 0=tTimes++digB (n:Int):=by
   unfold dText;rw[if_neg om_,if_neg om_,if_pos rfl]
  rw[e]
  refine Es (f:=fun k=>(spec_l1Number.f k (n:Int)).bind fun t=>if 6+t.size≤9223372036854775807 then some (tTimes++t)else none) (fun k=>?_) (Eb (spec_number n n (Nat.le_refl _) om_) (Ep om_ (Ev.now _)))
  simp only[spec_DeedText.j0,if_true];rfl
 |false=>
  refine Es (f:=fun k=>spec_DeedText.j1 k (decide (a=1∧0≤x∧x≤9∧y=0)) a x y) (fun k=>?_) (spec_j1 _ a x y rfl (of_decide_eq_false hb.symm))
  simp only[spec_DeedText.j0]
  rw[if_neg (by simp)]
  by_cases h1:a=1
  ·rw[if_pos h1,l1In_eq,Option.bind_some]
   by_cases h2:0≤x∧x≤9
   ·rw[if_pos (by simpa using h2)];congr 1
    by_cases h3:y=0 <;> simp[h1,h2,h3]
   ·rw[if_neg (by simpa using h2)];congr 1
    exact(decide_eq_false (fun z=>h2 ⟨z.2.1,z.2.2.1⟩)).symm
  ·rw[if_neg h1];congr 1
   exact(decide_eq_false (fun z=>h1 z.1)).symm
theorem spec_deedText (a x y:Int):Ev (fun k=>spec_DeedText.f k a x y) (dText a x y):=by
 refine Ev.congr (f:=fun k=>spec_DeedText.j0 k (decide (a=0∧0≤x∧x≤9∧y=0)) a x y) (fun k=>?_) (spec_j0 _ a x y rfl)
 unfold spec_DeedText.f
 by_cases h1:a=0
 ·rw[if_pos h1,l1In_eq,Option.bind_some]
  by_cases h2:0≤x∧x≤9
  ·rw[if_pos (by simpa using h2)];congr 1
   by_cases h3:y=0 <;> simp[h1,h2,h3]
  ·rw[if_neg (by simpa using h2)];congr 1
   exact(decide_eq_false (fun z=>h2 ⟨z.2.1,z.2.2.1⟩)).symm
 ·rw[if_neg h1];congr 1
  exact(decide_eq_false (fun z=>h1 z.1)).symm
def findD (s:ByteArray):List S55→Int×Int×Int×Bool
 |[]=>no4
 |d::r=>if s.toList=([]:List UInt8)then findD s r else if(dText d.f0 d.f1 d.f2).toList =s.toList then(d.f0,d.f1,d.f2,true)else findD s r
theorem spec_rL (s:ByteArray) (l:List S55) (hl:l.length≤1000):∀(r:List S55) (i:Nat),l.drop i=r→Ev (fun k=>spec_ReadDeed.l0 k s l (i:Int)) (findD s r):=by
 intro r
 induction r with
 |nil=>
  intro i h
  have:l.length≤i:=List.drop_eq_nil_iff.1 h
  refine Es (f:=fun _=>some no4) (fun k=>?_) (Ev.now _)
  simp only[spec_ReadDeed.l0]
  rw[if_neg om_];rfl
 |cons d r ih=>
  intro i h
  obtain⟨h1,h2,h3⟩:=drop_at h
  have hd:rd_T55 l (i:Int)=d:=by unfold rd_T55;simp[List.getD,h2]
  have hi:=ih (i+1) h3
  have ew:wrap64 ((i:Int)+1)=((i+1:Nat):Int):=by rw[w64 om_ om_];rfl
  by_cases h0:s.toList=([]:List UInt8)
  ·rw[findD,if_pos h0]
   refine Es (fun k=>?_) hi
   simp only[spec_ReadDeed.l0]
   rw[if_pos om_,if_pos h0,ew]
  ·rw[findD,if_neg h0]
   refine Es (f:=fun k=>(spec_DeedText.f k d.f0 d.f1 d.f2).bind fun t=>if t.toList=s.toList then some (d.f0,d.f1,d.f2,true)else spec_ReadDeed.l0 k s l ((i+1:Nat):Int)) (fun k=>?_) ?_
   ·simp only[spec_ReadDeed.l0]
    rw[if_pos om_,if_neg h0,if_pos om_,hd,ew]
   ·by_cases hq:(dText d.f0 d.f1 d.f2).toList =s.toList
    ·rw[if_pos hq];exact Eb (spec_deedText _ _ _) (Ep hq (Ev.now _))
    ·rw[if_neg hq];exact Eb (spec_deedText _ _ _) (En hq hi)
theorem findD_rd (s:ByteArray):∀(l:List S55),(∀a b c,dText a b c=s→s.size≠0→(⟨a,b,c⟩:S55)∈l∨False)→findD s l=rdVal s∨(findD s l=no4∧∀d∈l,s.size=0∨dText d.f0 d.f1 d.f2≠s)
 |[],_=> .inr ⟨rfl,by simp⟩
 |d::r,hc=>by
  by_cases h0:s.toList=([]:List UInt8)
  ·have hz:=toList_nil.1 h0
   rcases findD_rd s r (fun a b c h1 h2=>absurd hz h2)with h|⟨h,h'⟩
   ·exact .inl (by rw[findD,if_pos h0];exact h)
   ·exact .inr ⟨by rw[findD,if_pos h0];exact h,fun x hx=> .inl hz⟩
  ·have hs:s.size≠0:=fun hz=>h0 (toList_nil.2 hz)
   by_cases hq:(dText d.f0 d.f1 d.f2).toList =s.toList
   ·refine .inl ?_
    rw[findD,if_neg h0,if_pos hq,rd_complete (toList_inj.1 hq) hs]
   ·have hne:dText d.f0 d.f1 d.f2≠s:=fun e=>hq (by rw[e])
    rcases findD_rd s r (fun a b c h1 h2=>by
     rcases hc a b c h1 h2 with hm|hm
     ·rcases List.mem_cons.1 hm with e|hm
      ·exact absurd (by rw[←e];exact h1) hne
      ·exact .inl hm
     ·exact hm.elim)with h|⟨h,h'⟩
    ·exact .inl (by rw[findD,if_neg h0,if_neg hq];exact h)
    ·refine .inr ⟨by rw[findD,if_neg h0,if_neg hq];exact h,fun x hx=>?_⟩
     rcases List.mem_cons.1 hx with rfl|hx
     ·exact .inr hne
     ·exact h' x hx
theorem findD_eq (s:ByteArray) (l:List S55) (hc:∀a b c,dText a b c=s→s.size≠0→(⟨a,b,c⟩:S55)∈l):findD s l=rdVal s:=by
 rcases findD_rd s l (fun a b c h1 h2=> .inl (hc a b c h1 h2))with h|⟨h,h'⟩
 ·exact h
 ·rw[h]
  by_cases ht:(rdVal s).2.2.2=true
  ·obtain⟨a,b,c,e⟩:∃a b c,rdVal s=(a,b,c,true):=⟨(rdVal s).1,(rdVal s).2.1,(rdVal s).2.2.1,by rw[←ht]⟩
   obtain⟨h1,h2⟩:=rd_sound e
   rcases h' _ (hc a b c h1 h2)with hz|hz
   ·exact absurd hz h2
   ·exact absurd h1 hz
  ·exact(rd_false ht).symm
theorem spec_readDeed (s:ByteArray) (hs:s.size<4294967281):Ev (fun k=>spec_ReadDeed.f k s) (rdVal s):=by
 unfold spec_ReadDeed.f
 have hp:=wordsB_pos s
 have s1:(rdOf ByteArray.empty (wordsB s) 1).size ≤s.size:=rdOf_size (s:=s) 1
 have s2:(rdOf ByteArray.empty (wordsB s) 2).size ≤s.size:=rdOf_size (s:=s) 2
 refine Eb (spec_cut s om_) ?_
 simp only[Option.bind_some]
 have hj1:∀l:List S55,l.length≤1000→Ev (fun k=>spec_ReadDeed.j1 k s l) (findD s l):=fun l hl=>by
  refine Es (fun k=>?_) (spec_rL s l hl l 0 rfl)
  simp only[spec_ReadDeed.j1];rfl
 have hmem:∀a b c,dText a b c=s→s.size≠0→((a=2∨a=4)∧b=0∧c=0)∨((a=0∨a=1)∧c=0∧(wordsB s).length =2∧b=dgv (rdOf ByteArray.empty (wordsB s) 1))∨(a=3∧(wordsB s).length =3∧b=dgv (rdOf ByteArray.empty (wordsB s) 1)∧c=dgv (rdOf ByteArray.empty (wordsB s) 2)):=by
  intro a b c h hz
  subst h
  rcases dText_cases a b c hz with⟨rfl,n,m,rfl,rfl,hn,hm,e⟩|⟨rfl,rfl,n,rfl,hn,e⟩|⟨rfl,rfl,n,rfl,hn,e⟩|⟨rfl,rfl,rfl,e⟩|⟨rfl,rfl,rfl,e⟩
  ·have hw:wordsB (dText 3 (n:Int) (m:Int))=[bw [115,101,116],bw (Go.Lib.decDigits n),bw (Go.Lib.decDigits m)]:=by unfold wordsB;rw[e,words3];rfl
   refine .inr (.inr ⟨rfl,by rw[hw];rfl,?_,?_⟩)
   ·rw[hw];exact(dgv_dec n om_).symm
   ·rw[hw];exact(dgv_dec m om_).symm
  ·have hw:wordsB (dText 0 (n:Int) 0)=[bw [116,105,109,101,115],bw (Go.Lib.decDigits n)]:=by unfold wordsB;rw[e,words2 dc_];rfl
   refine .inr (.inl ⟨.inl rfl,rfl,by rw[hw];rfl,?_⟩)
   rw[hw];exact(dgv_dec n om_).symm
  ·have hw:wordsB (dText 1 (n:Int) 0)=[bw [117,110,105,116,97,114,121],bw (Go.Lib.decDigits n)]:=by unfold wordsB;rw[e,words2 dc_];rfl
   refine .inr (.inl ⟨.inr rfl,rfl,by rw[hw];rfl,?_⟩)
   rw[hw];exact(dgv_dec n om_).symm
  ·exact .inl ⟨.inl rfl,rfl,rfl⟩
  ·exact .inl ⟨.inr rfl,rfl,rfl⟩
 by_cases h2:((wordsB s).length :Int)=2
 ·refine Ep h2 (Ep om_ (Eb (spec_digits _ (Nat.le_trans s1 om_)) (Eb (spec_digits _ (Nat.le_trans s1 om_)) ?_)))
  refine Ep (by simp) ?_
  have e:=findD_eq s ([⟨2,0,0⟩,⟨4,0,0⟩]++[⟨0,dgv (rdOf ByteArray.empty (wordsB s) 1),0⟩,⟨1,dgv (rdOf ByteArray.empty (wordsB s) 1),0⟩]) (fun a b c h hz=>by
   rcases hmem a b c h hz with⟨ha,rfl,rfl⟩|⟨ha,rfl,_,rfl⟩|⟨_,h3,_⟩
   ·rcases ha with rfl|rfl <;> simp
   ·rcases ha with rfl|rfl <;> simp
   ·omega)
  rw[←e]
  refine Es (fun k=>?_) (hj1 _ (by simp))
  simp only[spec_ReadDeed.j0]
  rw[if_neg om_]
 ·refine En h2 ?_
  by_cases h3:((wordsB s).length :Int)=3
  ·have e:=findD_eq s ([⟨2,0,0⟩,⟨4,0,0⟩]++[⟨3,dgv (rdOf ByteArray.empty (wordsB s) 1),dgv (rdOf ByteArray.empty (wordsB s) 2)⟩]) (fun a b c h hz=>by
    rcases hmem a b c h hz with⟨ha,rfl,rfl⟩|⟨ha,_,h4,_⟩|⟨rfl,_,rfl,rfl⟩
    ·rcases ha with rfl|rfl <;> simp
    ·omega
    ·simp)
   rw[←e]
   refine Es (f:=fun k=>(spec_l1Digits.f k (rdOf ByteArray.empty (wordsB s) 1)).bind fun t188=>(if 2<((wordsB s).length :Int)then((spec_l1Digits.f k (rdOf ByteArray.empty (wordsB s) 2)).bind fun t190=>(if [(⟨2,0,0⟩:S55),⟨4,0,0⟩].length <5864062014805 then(spec_ReadDeed.j1 k s ([⟨2,0,0⟩,⟨4,0,0⟩]++[(⟨3,t188,t190⟩:S55)]))else none))else none)) (fun k=>?_) (Eb (spec_digits _ (Nat.le_trans s1 om_)) (Ep om_ (Eb (spec_digits _ (Nat.le_trans s2 om_)) (Ep (by simp) (hj1 _ (by simp))))))
   simp only[spec_ReadDeed.j0]
   rw[if_pos h3,if_pos om_]
  ·have e:=findD_eq s [⟨2,0,0⟩,⟨4,0,0⟩] (fun a b c h hz=>by
    rcases hmem a b c h hz with⟨ha,rfl,rfl⟩|⟨ha,_,h4,_⟩|⟨_,h4,_⟩
    ·rcases ha with rfl|rfl <;> simp
    ·omega
    ·omega)
   rw[←e]
   refine Es (fun k=>?_) (hj1 _ (by simp))
   simp only[spec_ReadDeed.j0]
   rw[if_neg h3]
def tOk:ByteArray:=⟨#[111,107]⟩
def tEmpty:ByteArray:=⟨#[]⟩
theorem yes_both (b:Bool):∃t,impl_yes.f b=some t∧spec_l12Yes.f b=some t:=by cases b <;> exact⟨_,rfl,rfl⟩
theorem line_both (a:List Int) (l:List (List Int)) (s:ByteArray) (h:szD a l≤1048576) (hs:s.size≤1048576):∃r1 r2 R,szD r1 r2≤1048576∧Ev (fun k=>spec_DeskLine.f k a l s) (r1,r2,R)∧Ev (fun k=>impl_DeskLine.f k a l s) (r1,r2,R)∧(deskB a l=false→r1=[]∧r2=[]∧R=tEmpty)∧(deskB a l=true→deskB r1 r2=true∧(R=tOk∨r1=a∧r2=l)∧(s.size=0→R=tWhat∧r1=a∧r2=l)):=by
 obtain⟨h1,h2,h3,h4⟩:=szD_row h
 have hl:∀x∈l,x.length≤1000000000:=fun x hx=>by have:=h4 x hx;omega
 have eo:=spec_desk a l om_ om_ hl
 have ei:=impl_desk a l om_ om_ hl
 cases hb:deskB a l with
 |false=>
  rw[hb]at eo ei
  refine⟨[],[],tEmpty,by simp[szD,totL],?_,?_,fun _=>⟨rfl,rfl,rfl⟩,nofun⟩
  ·unfold spec_DeskLine.f
   exact Eb eo (En (by simp) (Ev.now _))
  ·unfold impl_DeskLine.f
   exact Eb ei (En (by simp) (Ev.now _))
 |true=>
  rw[hb]at eo ei
  have hz:=deskB_sz hb
  obtain⟨g1,g2,g3,g4⟩:=szD_row hz
  obtain⟨d1,d2,d3⟩:=deskB_len hb
  have hrow:=deskB_row hb
  have sc:=sp_copy a l om_ om_ (fun x hx=>by have:=g4 x hx;omega)
  have ic:=im_copy a l om_ om_ (deskB_full hb).1
  have sr:=spec_readDeed s om_
  have ir:=impl_readDeed s om_
  by_cases hd:(rdVal s).2.2.2=true
  ·obtain⟨r1,r2,r3,dn⟩:=do_both a l (rdVal s).1 (rdVal s).2.1 (rdVal s).2.2.1 om_ om_ (fun x hx=>by have:=g4 x hx;omega)
   have e1:=dn.spec
   have e2:=dn.impl
   have hdk:deskB r1 r2=true:=by
    cases r3 with
    |true=>exact(dn.ok rfl).2
    |false=>obtain⟨rfl,rfl⟩:=dn.not hb rfl;exact hb
   have hne:s.size≠0:=(rd_sound (s:=s) (a:=(rdVal s).1) (b:=(rdVal s).2.1) (c:=(rdVal s).2.2.1) (by rw[←hd])).2
   refine⟨r1,r2,if r3=true then tOk else⟨#[110,111,116]⟩,by have:=deskB_sz hdk;omega,?_,?_,nofun,fun _=>⟨hdk,?_,fun z=>absurd z hne⟩⟩
   ·unfold spec_DeskLine.f
    refine Eb eo (Ep rfl (Eb sc (Eb sr (Ep hd (Eb e1 ?_)))))
    cases r3 <;> exact Ev.now _
   ·unfold impl_DeskLine.f
    refine Eb ei (Ep rfl (Eb ir (Ep hd (Eb e2 ?_))))
    cases r3 <;> exact Ev.now _
   ·cases r3 with
    |true=>exact .inl rfl
    |false=>exact .inr (dn.not hb rfl)
  ·have fin:∀R:ByteArray,Ev (fun k=>impl_answer.f k a s) R→Ev (fun k=>impl_DeskLine.f k a l s) (a,l,R):=fun R h=>by
    unfold impl_DeskLine.f
    exact Eb ei (Ep rfl (Eb ir (En hd (Eb ic (Eb h (Ev.now _))))))
   have row8:∃R,Ev (fun k=>impl_rowText.f k (a.take 8)) R∧Ev (fun k=>spec_l12Row.f k (a.take 8)) R:=by
    have hb2:∀x∈a.take 8,okZ x:=fun x hx=>by
     obtain⟨i,hi,rfl⟩:=List.getElem_of_mem (List.mem_of_mem_take hx)
     unfold rowB at hrow
     rw[Bool.and_eq_true]at hrow
     have:=allF_at _ _ _ hrow.1 i om_ om_
     simp only[r1,decide_eq_true_eq,List.getD_eq_getElem?_getD,List.getElem?_eq_getElem hi,Option.getD_some]at this
     unfold okZ
     omega
    refine⟨_,rowText_impl _ (by rw[List.length_take];omega) hb2,rowText_spec _ ?_ (by rw[List.length_take];omega) hb2⟩
    intro z
    have:=congrArg List.length z
    rw[List.length_take,List.length_nil]at this
    omega
   obtain⟨⟨m1,m2,m3⟩,f1,f2,f3⟩:=products_both a hrow
   by_cases c1:s.toList=[102,105,114,115,116]
   ·obtain⟨R,x1,x2⟩:=row8
    refine⟨a,l,R,by omega,?_,fin R ?_,nofun,fun _=>⟨hb,.inr ⟨rfl,rfl⟩,fun z=>absurd (toList_nil.2 z) (by rw[c1];decide)⟩⟩
    ·unfold spec_DeskLine.f
     exact Eb eo (Ep rfl (Eb sc (Eb sr (En hd (Ep c1 (Ep om_ (Eb x2 (Ev.now _))))))))
    ·unfold impl_answer.f
     exact Ep c1 (Ep om_ (Eb x1 (Ev.now _)))
   by_cases c2:s.toList=[109,117,108,116,105,112,108,105,99,97,116,105,118,101]
   ·obtain⟨t,y1,y2⟩:=yes_both m1
    refine⟨a,l,t,by omega,?_,fin t ?_,nofun,fun _=>⟨hb,.inr ⟨rfl,rfl⟩,fun z=>absurd (toList_nil.2 z) (by rw[c2];decide)⟩⟩
    ·unfold spec_DeskLine.f
     exact Eb eo (Ep rfl (Eb sc (Eb sr (En hd (En c1 (Ep c2 (Eb m3 (Ec y2 (Ev.now _)))))))))
    ·unfold impl_answer.f
     exact En c1 (Ep c2 (Eb m2 (Ec y1 (Ev.now _))))
   by_cases c3:s.toList=[102,117,108,108]
   ·obtain⟨t,y1,y2⟩:=yes_both f1
    refine⟨a,l,t,by omega,?_,fin t ?_,nofun,fun _=>⟨hb,.inr ⟨rfl,rfl⟩,fun z=>absurd (toList_nil.2 z) (by rw[c3];decide)⟩⟩
    ·unfold spec_DeskLine.f
     exact Eb eo (Ep rfl (Eb sc (Eb sr (En hd (En c1 (En c2 (Ep c3 (Eb f3 (Ec y2 (Ev.now _))))))))))
    ·unfold impl_answer.f
     exact En c1 (En c2 (Ep c3 (Eb f2 (Ec y1 (Ev.now _)))))
   obtain⟨R,q1,q2⟩:∃R,(∀w n,isQ s w n→w∈w8→Ev (fun k=>impl_answer.j0 k a w (n:Int) false) R∧Ev (fun k=>spec_l12Ask.f k a w (n:Int)) R)∧((¬∃w n,isQ s w n∧w∈w8)→R=tWhat):=by
    by_cases hq:∃w n,isQ s w n∧w∈w8
    ·obtain⟨w,n,z1,z2⟩:=hq
     obtain⟨R,e1,e2⟩:=ask_both a hrow w z2 n
     refine⟨R,fun w' n' z3 z4=>?_,fun z=>absurd ⟨w,n,z1,z2⟩ z⟩
     obtain⟨p1,p2⟩:=cut_uniq z1.1 z3.1 (z1.2.1.symm.trans z3.2.1)
     have p3:n'=n:=by
      have u1:=dgv_dec n z1.2.2
      have u2:=dgv_dec n' z3.2.2
      rw[←p2,u1]at u2
      omega
     rw[←bw_inj p1,p3]
     exact⟨e1,e2⟩
    ·exact⟨tWhat,fun w n z1 z2=>absurd ⟨w,n,z1,z2⟩ hq,fun _=>rfl⟩
   refine⟨a,l,R,by omega,?_,fin R (im_q a s hs c1 c2 c3 R (fun w n z1 z2=>(q1 w n z1 z2).1) q2),nofun,fun _=>⟨hb,.inr ⟨rfl,rfl⟩,fun z=>⟨q2 ?_,rfl,rfl⟩⟩⟩
   rotate_left
   ·rintro⟨w,n,z1,_⟩
    have:=congrArg List.length z1.2.1
    rw[←size_data,z]at this
    simp at this
   unfold spec_DeskLine.f
   exact Eb eo (Ep rfl (Eb sc (Eb sr (En hd (En c1 (En c2 (En c3 (Eb (spec_cut s om_) (Ec (a:=v8) rfl (sp_q a l a l s hs R (fun w n z1 z2=>(q1 w n z1 z2).2) q2))))))))))
theorem ints_dec (f g:List Int) (hl:f.length≤1000000) (hg:f.length=g.length):∀m i:Nat,i+m=f.length→Ev (fun k=>laws_sameInts.l0 k f g (i:Int)) (decide (f.drop i=g.drop i)):=by
 intro m
 induction m with
 |zero=>
  intro i h
  rw[List.drop_eq_nil_of_le om_,List.drop_eq_nil_of_le om_,decide_eq_true rfl]
  refine Ev.up ?_
  simp only[laws_sameInts.l0]
  exact En om_ (Ev.now _)
 |succ m ih=>
  intro i h
  rw[drop_get (f:=f) om_,drop_get (f:=g) om_]
  refine Ev.up ?_
  have e1:wrap64 ((i:Int)+1)=((i+1:Nat):Int):=w64 om_ om_
  have ih:=ih (i+1) om_
  simp only[laws_sameInts.l0,e1,rdn,List.cons.injEq]
  clear e1
  refine Ep om_ (Ep om_ (Ep om_ ?_))
  by_cases c:f.getD i 0=g.getD i 0
  ·refine Ep c ?_
   simp only[c,true_and]
   exact ih
  ·refine En c ?_
   simp only[c,false_and,decide_false]
   exact Ev.now _
theorem ints_ev (f g:List Int) (hl:f.length≤1000000):Ev (fun k=>laws_sameInts.f k f g) (decide (f=g)):=by
 unfold laws_sameInts.f
 by_cases h:f.length=g.length
 ·exact Ep om_ (ints_dec f g hl h f.length 0 om_)
 ·rw[decide_eq_false (fun e=>h (by rw[e]))]
  exact En om_ (Ev.now _)
theorem dropL_get {f:List (List Int)} {i:Nat} (h:i<f.length):f.drop i=f.getD i []::f.drop (i+1):=by
 rw[List.drop_eq_getElem_cons h,List.getD_eq_getElem?_getD,List.getElem?_eq_getElem h]
 rfl
theorem rows_dec (f g:List (List Int)) (hl:f.length≤1000000) (hx:∀x∈f,x.length≤1000000) (hg:f.length=g.length):∀m i:Nat,i+m=f.length→Ev (fun k=>laws_sameRows.l0 k f g (i:Int)) (decide (f.drop i=g.drop i)):=by
 intro m
 induction m with
 |zero=>
  intro i h
  rw[List.drop_eq_nil_of_le om_,List.drop_eq_nil_of_le om_,decide_eq_true rfl]
  refine Ev.up ?_
  simp only[laws_sameRows.l0]
  exact En om_ (Ev.now _)
 |succ m ih=>
  intro i h
  rw[dropL_get (f:=f) om_,dropL_get (f:=g) om_]
  refine Ev.up ?_
  have e1:wrap64 ((i:Int)+1)=((i+1:Nat):Int):=w64 om_ om_
  have ih:=ih (i+1) om_
  have hs:=ints_ev (f.getD i []) (g.getD i []) (getD_len hx i)
  simp only[laws_sameRows.l0,e1,rdL,List.cons.injEq]
  clear e1
  refine Ep om_ (Ep om_ (Ep om_ (Eb hs ?_)))
  by_cases c:f.getD i []=g.getD i []
  ·rw[decide_eq_true c]
   refine Ep rfl ?_
   simp only[c,true_and]
   exact ih
  ·rw[decide_eq_false c]
   refine En (by simp) ?_
   simp only[c,false_and,decide_false]
   exact Ev.now _
theorem rows_ev (f g:List (List Int)) (hl:f.length≤1000000) (hx:∀x∈f,x.length≤1000000):Ev (fun k=>laws_sameRows.f k f g) (decide (f=g)):=by
 unfold laws_sameRows.f
 by_cases h:f.length=g.length
 ·exact Ep om_ (rows_dec f g hl hx h f.length 0 om_)
 ·rw[decide_eq_false (fun e=>h (by rw[e]))]
  exact En om_ (Ev.now _)
theorem desk_ev (a:List Int) (b:List (List Int)) (c:List Int) (d:List (List Int)) (h1:a.length≤1000000) (h2:b.length≤1000000) (h3:∀x∈b,x.length≤1000000):Ev (fun k=>laws_sameDesk.f k a b c d) (decide (a=c∧b=d)):=by
 have e1:=ints_ev a c h1
 have e2:=rows_ev b d h2 h3
 unfold laws_sameDesk.f
 refine Eb e1 ?_
 by_cases h:a=c
 ·rw[decide_eq_true h]
  simp only[h,true_and]
  exact Ep (by trivial) (Eb e2 (Ev.now _))
 ·rw[decide_eq_false h]
  simp only[h,false_and,decide_false]
  exact En (by simp) (Ev.now _)
theorem pick_ev {bs:List Int} (hb:Bytes bs) (hl:bs.length≤2000) {p n:Int} (h0:0≤p) (h1:p≤1000000) (hn:1≤n):
  ∃r,0≤r∧r<n∧Ev (fun k=>spec_l20Rd_pick.f k bs p n) (r,p+1):=by
 have ep:wrap64 (p+1)=p+1:=w64 om_ om_
 have e1:wrap64 (p+1-1)=p:=by rw[w64 om_ om_];omega
 have hf:∀k,spec_l20Rd_pick.f k bs p n=spec_l20Rd_pick.j0 k n ((bs.length:Int)==0) bs (p+1):=by
  intro k
  unfold spec_l20Rd_pick.f
  rw[if_neg om_,ep]
 by_cases hz:bs.length=0
 ·refine⟨0,by omega,by omega,Ev.congr hf (Es (fun k=>?_) (Ev.now _))⟩
  simp only[spec_l20Rd_pick.j0]
  rw[if_pos (by simp[hz])]
 ·have hz2:((bs.length:Int)==0)=false:=by simpa using hz
  by_cases hp:p<(bs.length:Int)
  ·have hr:=hb.at_ p
   have ht:=tmod_range hr.1 hn
   refine⟨Int.tmod (rd bs p) n,ht.1,ht.2,Ev.congr hf (Es (fun k=>?_) (Ev.now _))⟩
   simp only[spec_l20Rd_pick.j0,hz2,e1]
   rw[if_neg (by simp),if_pos hp,if_pos h0,if_neg om_,w64 om_ om_]
  ·have hl1:(1:Int)≤(bs.length:Int):=by omega
   have t1:=tmod_range h0 hl1
   have t2:=tmod_range (show 0≤p*7+3 by omega) hl1
   have t3:=tdiv_range h0 hl1
   have e7:wrap64 (p*7)=p*7:=w64 om_ om_
   have e73:wrap64 (p*7+3)=p*7+3:=w64 om_ om_
   have u1:=hb.at_ (Int.tmod p (bs.length:Int))
   have u2:=hb.at_ (Int.tmod (p*7+3) (bs.length:Int))
   have key:∀k,spec_l20Rd_pick.j0 (k+1) n ((bs.length:Int)==0) bs (p+1)=some (Int.tmod (Go.bits .xor .i64 (rd bs (Int.tmod p (bs.length:Int))*131+rd bs (Int.tmod (p*7+3) (bs.length:Int))*1117+p*29+Int.tdiv p (bs.length:Int)*53) (Int.tdiv (rd bs (Int.tmod p (bs.length:Int))*131+rd bs (Int.tmod (p*7+3) (bs.length:Int))*1117+p*29+Int.tdiv p (bs.length:Int)*53) 64)) n,p+1):=by
    intro k
    simp only[spec_l20Rd_pick.j0,hz2,e1,e7,e73]
    rw[if_neg (by simp),if_neg hp,if_neg om_,if_pos t1.1,if_pos t1.2,if_pos t2.1,if_pos t2.2,if_neg om_]
    generalize rd bs (Int.tmod p (bs.length:Int))=u at*
    generalize rd bs (Int.tmod (p*7+3) (bs.length:Int))=v at*
    generalize Int.tdiv p (bs.length:Int)=q at*
    rw[w64 (n:=u) om_ om_,w64 (n:=v) om_ om_,w64 (n:=u*131) om_ om_,w64 (n:=v*1117) om_ om_,w64 (n:=u*131+v*1117) om_ om_,w64 (n:=p*29) om_ om_,w64 (n:=u*131+v*1117+p*29) om_ om_,w64 (n:=q) om_ om_,w64 (n:=q*53) om_ om_,w64 (n:=u*131+v*1117+p*29+q*53) om_ om_]
    have t4:=tdiv_range (show 0≤u*131+v*1117+p*29+q*53 by omega) (show(1:Int)≤64 by omega)
    rw[w64 (n:=Int.tdiv (u*131+v*1117+p*29+q*53) 64) om_ om_]
   generalize rd bs (Int.tmod p (bs.length:Int))=u at*
   generalize rd bs (Int.tmod (p*7+3) (bs.length:Int))=v at*
   generalize Int.tdiv p (bs.length:Int)=q at*
   have t4:=tdiv_range (show 0≤u*131+v*1117+p*29+q*53 by omega) (show(1:Int)≤64 by omega)
   have hx:=xor_pos (a:=u*131+v*1117+p*29+q*53) (b:=Int.tdiv (u*131+v*1117+p*29+q*53) 64) om_ om_ om_ om_
   have ht:=tmod_range hx hn
   exact⟨_,ht.1,ht.2,Ev.congr hf (Es key (Ev.now _))⟩
theorem open_ev {l0:List Int} (hb:Bytes l0):∃bs,Bytes bs∧bs.length≤2000∧spec_l20Open.f l0=some (bs,0):=by
 unfold spec_l20Open.f
 by_cases h:(l0.length:Int)>2000
 ·exact⟨l0.take 2000,hb.take _,by rw[List.length_take];omega,by rw[if_pos h,if_pos om_]⟩
 ·exact⟨l0,hb,by omega,by rw[if_neg h]⟩
theorem odd_ev {bs:List Int} (hb:Bytes bs) (hl:bs.length≤2000) {p n:Int} (h0:0≤p) (h1:p≤1000000) (hn:1≤n):∃b:Bool,Ev (fun k=>spec_l20Rd_odd.f k bs p n) (b,p+1):=by
 obtain⟨r,a1,b1,c1⟩:=pick_ev hb hl h0 h1 hn
 refine⟨r==wrap64 (n-1),?_⟩
 unfold spec_l20Rd_odd.f
 exact Ep om_ (Eb c1 (Ev.now _))
theorem deed_j1 {bs:List Int} (hb:Bytes bs) (hl:bs.length≤2000) {p:Int} (h0:0≤p) (h1:p≤900000) (a b c:Int):∃b' q,p≤q∧q≤p+2∧Ev (fun k=>spec_l20Deed.j1 k bs p a b c) (a,b',c,q):=by
 obtain⟨o,ho⟩:=odd_ev hb hl h0 (by omega:p≤1000000) (by omega:(1:Int)≤40)
 cases o with
 |true=>
  obtain⟨r,a1,b1,c1⟩:=pick_ev hb hl (by omega:0≤p+1) om_ (by omega:(1:Int)≤3)
  refine⟨rd [-1,25,100] r,p+1+1,by omega,by omega,Es (f:=fun k=>(spec_l20Rd_odd.f k bs p 40).bind fun bt152=>(if bt152.1=true then((some (([(-1),25,100]:List Int):List Int)).bind fun y154=>((spec_l20Rd_pick.f k bs bt152.2 3).bind fun bt157=>(if 0≤bt157.1 then(if bt157.1<(y154.length:Int)then(some (a,rd y154 bt157.1,c,bt157.2))else(none))else(none))))else(some (a,b,c,bt152.2)))) (fun k=>?_) (Eb ho (Ep rfl (Ec rfl (Eb c1 (Ep a1 (Ep (by simp;omega) (Ev.now _)))))))⟩
  simp only[spec_l20Deed.j1]
 |false=>
  refine⟨b,p+1,by omega,by omega,Es (f:=fun k=>(spec_l20Rd_odd.f k bs p 40).bind fun bt152=>(if bt152.1=true then((some (([(-1),25,100]:List Int):List Int)).bind fun y154=>((spec_l20Rd_pick.f k bs bt152.2 3).bind fun bt157=>(if 0≤bt157.1 then(if bt157.1<(y154.length:Int)then(some (a,rd y154 bt157.1,c,bt157.2))else(none))else(none))))else(some (a,b,c,bt152.2)))) (fun k=>?_) (Eb ho (En (by simp) (Ev.now _)))⟩
  simp only[spec_l20Deed.j1]
theorem deed_j0 {bs:List Int} (hb:Bytes bs) (hl:bs.length≤2000) {p:Int} (h0:0≤p) (h1:p≤800000) (x:Int) (f:Bool) (a b c:Int):∃b' c' q,p≤q∧q≤p+5∧Ev (fun k=>spec_l20Deed.j0 k x f bs p a b c) (a,b',c',q):=by
 by_cases hf:f=true
 ·obtain⟨r,a1,b1,c1⟩:=pick_ev hb hl h0 om_ (by omega:(1:Int)≤9)
  obtain⟨b',q,q1,q2,hj⟩:=deed_j1 hb hl (by omega:0≤p+1) om_ a r c
  refine⟨b',c,q,by omega,by omega,Es (f:=fun k=>(spec_l20Rd_pick.f k bs p 9).bind fun bt140=>(spec_l20Deed.j1 k bs bt140.2 a bt140.1 c)) (fun k=>?_) (Eb c1 hj)⟩
  simp only[spec_l20Deed.j0]
  rw[if_pos hf]
 ·by_cases hx:x=3
  ·obtain⟨r1,a1,b1,c1⟩:=pick_ev hb hl h0 om_ (by omega:(1:Int)≤24)
   obtain⟨r2,a2,b2,c2⟩:=pick_ev hb hl (by omega:0≤p+1) om_ (by omega:(1:Int)≤100)
   obtain⟨r3,a3,b3,c3⟩:=pick_ev hb hl (by omega:0≤p+1+1) om_ (by omega:(1:Int)≤4)
   obtain⟨b',q,q1,q2,hj⟩:=deed_j1 hb hl (by omega:0≤p+1+1+1) om_ a (wrap64 (1+r1)) (rd [0,1,r2,9999] r3)
   refine⟨b',rd [0,1,r2,9999] r3,q,by omega,by omega,Es (f:=fun k=>(spec_l20Rd_pick.f k bs p 24).bind fun bt142=>((spec_l20Rd_pick.f k bs bt142.2 100).bind fun bt144=>((some (([0,1,bt144.1,9999]:List Int):List Int)).bind fun y146=>((spec_l20Rd_pick.f k bs bt144.2 4).bind fun bt149=>(if 0≤bt149.1 then(if bt149.1<(y146.length:Int)then(spec_l20Deed.j1 k bs bt149.2 a (wrap64 (1+bt142.1)) (rd y146 bt149.1))else(none))else(none)))))) (fun k=>?_) (Eb c1 (Eb c2 (Ec rfl (Eb c3 (Ep a3 (Ep (by simp;omega) hj))))))⟩
   simp only[spec_l20Deed.j0]
   rw[if_neg hf,if_pos hx]
  ·obtain⟨b',q,q1,q2,hj⟩:=deed_j1 hb hl h0 om_ a b c
   refine⟨b',c,q,by omega,by omega,Es (fun k=>?_) hj⟩
   simp only[spec_l20Deed.j0]
   rw[if_neg hf,if_neg hx]
theorem deed_ev {bs:List Int} (hb:Bytes bs) (hl:bs.length≤2000) {p:Int} (h0:0≤p) (h1:p≤700000):∃a b c q,p≤q∧q≤p+7∧Ev (fun k=>spec_l20Deed.f k bs p) (a,b,c,q):=by
 obtain⟨r1,a1,b1,c1⟩:=pick_ev hb hl h0 om_ (by omega:(1:Int)≤7)
 obtain⟨r2,a2,b2,c2⟩:=pick_ev hb hl (by omega:0≤p+1) om_ (by omega:(1:Int)≤60)
 unfold spec_l20Deed.f
 by_cases hk:wrap64 (rd [0,0,1,2,3,3,4] r1+wrap64 (wrap64 (Int.tdiv r2 59)*5))=0
 ·obtain⟨b',c',q,q1,q2,hj⟩:=deed_j0 hb hl (by omega:0≤p+1+1) om_ (wrap64 (rd [0,0,1,2,3,3,4] r1+wrap64 (wrap64 (Int.tdiv r2 59)*5))) (wrap64 (rd [0,0,1,2,3,3,4] r1+wrap64 (wrap64 (Int.tdiv r2 59)*5))==0) (wrap64 (rd [0,0,1,2,3,3,4] r1+wrap64 (wrap64 (Int.tdiv r2 59)*5))) 0 0
  exact⟨_,b',c',q,by omega,by omega,Ec rfl (Eb c1 (Ep a1 (Ep (by simp;omega) (Eb c2 (Ep hk hj)))))⟩
 ·obtain⟨b',c',q,q1,q2,hj⟩:=deed_j0 hb hl (by omega:0≤p+1+1) om_ (wrap64 (rd [0,0,1,2,3,3,4] r1+wrap64 (wrap64 (Int.tdiv r2 59)*5))) (wrap64 (rd [0,0,1,2,3,3,4] r1+wrap64 (wrap64 (Int.tdiv r2 59)*5))==1) (wrap64 (rd [0,0,1,2,3,3,4] r1+wrap64 (wrap64 (Int.tdiv r2 59)*5))) 0 0
  exact⟨_,b',c',q,by omega,by omega,Ec rfl (Eb c1 (Ep a1 (Ep (by simp;omega) (Eb c2 (En hk hj)))))⟩
theorem deskNew_all:(List.range 8).all (fun n=>match spec_DeskNew.f 200 (n:Int)with|some (r,p,_)=>r.length==24&&p.isEmpty|none=>false)=true:=by decide+kernel
theorem deskNew_ev {t:Int} (h0:0≤t) (h1:t<8):∃r b,r.length=24∧Ev (fun k=>spec_DeskNew.f k t) (r,[],b):=by
 have h:=List.all_eq_true.1 deskNew_all t.toNat (List.mem_range.2 om_)
 rw[Int.toNat_of_nonneg h0]at h
 split at h
 ·rename_i r p b hr
  simp only[Bool.and_eq_true,beq_iff_eq,List.isEmpty_iff]at h
  obtain⟨h2,rfl⟩:=h
  exact⟨r,b,h2,Ev.of (spec_DeskNew.mono t) hr⟩
 ·cases h
theorem sp_deskL {bs:List Int} (hb:Bytes bs) (hl:bs.length≤2000) {n:Int} (hn:1≤n):∀m:Nat,m≤100→∀(p:Int) (now:List Int) (past:List (List Int)),0≤p→p+10*m≤100000→Sz now past→now.length=24→∃r1 r2 q,r1.length≤24∧r2.length≤10∧(∀x∈r2,x.length≤24)∧p≤q∧q≤p+10*m+10∧Ev (fun k=>spec_l20Desk.l0 k n (m:Int) bs p now past) (r1,r2,q):=by
 intro m
 induction m with
 |zero=>
  intro _ p now past h0 h1 hs hn24
  obtain⟨s1,s2,s3⟩:=hs
  obtain⟨o,ho⟩:=odd_ev hb hl h0 (by omega:p≤1000000) hn
  cases o with
  |false=>
   refine⟨now,past,p+1,s1,by omega,s3,by omega,by omega,Ev.up ?_⟩
   simp only[spec_l20Desk.l0]
   exact En om_ (Eb ho (En (by simp) (Ev.now _)))
  |true=>
   obtain⟨r,a1,b1,c1⟩:=pick_ev hb hl (by omega:0≤p+1) om_ (by omega:(1:Int)≤3)
   by_cases r0:r=0
   ·refine⟨now.drop 1,past,p+1+1,by simp;omega,by omega,s3,by omega,by omega,Ev.up ?_⟩
    simp only[spec_l20Desk.l0]
    exact En om_ (Eb ho (Ep rfl (Eb c1 (Ep r0 (Ep om_ (Ev.now _))))))
   ·by_cases r1:r=1
    ·refine⟨now,past++[[]],p+1+1,s1,by simp;omega,fun x hx=>?_,by omega,by omega,Ev.up ?_⟩
     ·rcases List.mem_append.1 hx with h|h
      ·exact s3 x h
      ·rw[List.mem_singleton.1 h];simp
     ·simp only[spec_l20Desk.l0]
      exact En om_ (Eb ho (Ep rfl (Eb c1 (En r0 (Ep r1 (Ep om_ (Ev.now _)))))))
    ·refine⟨[],[],p+1+1,by simp,by simp,nofun,by omega,by omega,Ev.up ?_⟩
     simp only[spec_l20Desk.l0]
     exact En om_ (Eb ho (Ep rfl (Eb c1 (En r0 (En r1 (Ev.now _))))))
 |succ m ih=>
  intro hm p now past h0 h1 hs hn24
  obtain⟨a,b,c,q,q1,q2,ed⟩:=deed_ev hb hl h0 (by omega:p≤700000)
  obtain⟨x1,x2,x3,xs,xl,ex⟩:=sp_do now past a b c hs
  have e1:wrap64 (((m+1:Nat):Int)-1)=(m:Int):=by rw[w64 om_ om_];omega
  cases x3 with
  |true=>
   obtain⟨r1,r2,q',g1,g2,g3,g4,g5,e⟩:=ih om_ q x1 x2 om_ om_ xs (xl rfl)
   refine⟨r1,r2,q',g1,g2,g3,by omega,by omega,Ev.up ?_⟩
   simp only[spec_l20Desk.l0,e1]
   clear e1
   exact Ep om_ (Eb ed (Eb ex (Ep rfl e)))
  |false=>
   obtain⟨r1,r2,q',g1,g2,g3,g4,g5,e⟩:=ih om_ q now past om_ om_ hs hn24
   refine⟨r1,r2,q',g1,g2,g3,by omega,by omega,Ev.up ?_⟩
   simp only[spec_l20Desk.l0,e1]
   clear e1
   exact Ep om_ (Eb ed (Eb ex (En (by simp) e)))
theorem sp_l20desk {bs:List Int} (hb:Bytes bs) (hl:bs.length≤2000) {p n:Int} (h0:0≤p) (h1:p≤50000) (hn:1≤n):∃r1 r2 q,r1.length≤24∧r2.length≤10∧(∀x∈r2,x.length≤24)∧p≤q∧q≤p+100∧Ev (fun k=>spec_l20Desk.f k bs p n) (r1,r2,q):=by
 obtain⟨a,a1,a2,ea⟩:=pick_ev hb hl h0 om_ (by omega:(1:Int)≤8)
 obtain⟨r,b,hr,er⟩:=deskNew_ev a1 a2
 obtain⟨m,m1,m2,em⟩:=pick_ev hb hl (by omega:0≤p+1) om_ (by omega:(1:Int)≤5)
 obtain⟨r1,r2,q,g1,g2,g3,g4,g5,e⟩:=sp_deskL hb hl hn m.toNat om_ (p+1+1) r [] om_ om_ ⟨by omega,by simp,nofun⟩ hr
 rw[Int.toNat_of_nonneg m1]at e
 refine⟨r1,r2,q,g1,g2,g3,by omega,by omega,?_⟩
 unfold spec_l20Desk.f
 exact Eb ea (Eb er (Eb em e))
theorem alive_eq:laws_alive.f=some true:=by
 unfold laws_alive.f impl_DividesOk.f
 simp only[numberOk_eq]
 decide+kernel
theorem mid_ev {bs:List Int} (hb:Bytes bs) (hl:bs.length≤2000) {p:Int} (h0:0≤p) (h1:p≤900000):∃v q,okZ v∧Ev (fun k=>spec_l20Mid.f k bs p) (v,q):=by
 obtain⟨a,_,_,ea⟩:=pick_ev hb hl h0 om_ (by omega:(1:Int)≤20)
 obtain⟨b,_,_,eb⟩:=pick_ev hb hl (by omega:0≤p+1) om_ (by omega:(1:Int)≤100)
 obtain⟨c,_,_,ec⟩:=pick_ev hb hl (by omega:0≤p+1+1) om_ (by omega:(1:Int)≤41)
 obtain⟨d,d1,d2,ed⟩:=pick_ev hb hl (by omega:0≤p+1+1+1) om_ (by omega:(1:Int)≤7)
 obtain⟨e,_,_,ee⟩:=pick_ev hb hl (by omega:0≤p+1+1+1+1) om_ (by omega:(1:Int)≤30)
 obtain⟨f,_,_,ef⟩:=pick_ev hb hl (by omega:0≤p+1+1+1+1+1) om_ (by omega:(1:Int)≤40)
 have hd:wrap64 (Int.tdiv d 2)=d / 2:=by rw[tdiv_pos d1,w64 om_ om_]
 have hx:∃x,Ev (fun k=>spec_l20Mid.f k bs p) (wrap64 x,p+1+1+1+1+1+1):=by
  unfold spec_l20Mid.f
  exact⟨_,Eb ea (Eb eb (Eb ec (Ec rfl (Eb ed (Ep (by rw[hd];omega) (Ep (by rw[hd];simp;omega) (Eb ee (Eb ef (Ev.now _)))))))))⟩
 obtain⟨x,hx⟩:=hx
 exact⟨_,_,okW x,hx⟩
def l8:List ByteArray:=[(⟨#[97,116,32]⟩:ByteArray),(⟨#[112,114,105,109,101,115,32]⟩:ByteArray),(⟨#[100,105,118,105,115,111,114,115,32]⟩:ByteArray),(⟨#[115,117,109,32]⟩:ByteArray),(⟨#[107,105,110,100,32]⟩:ByteArray),(⟨#[119,97,121,32]⟩:ByteArray),(⟨#[97,112,97,114,116,32]⟩:ByteArray),(⟨#[115,113,117,97,114,101,115,32]⟩:ByteArray)]
def l3:List ByteArray:=[(⟨#[102,105,114,115,116]⟩:ByteArray),(⟨#[109,117,108,116,105,112,108,105,99,97,116,105,118,101]⟩:ByteArray),(⟨#[102,117,108,108]⟩:ByteArray)]
def l13:List ByteArray:=[(⟨#[]⟩:ByteArray),(⟨#[116,105,109,101,115]⟩:ByteArray),(⟨#[116,105,109,101,115,32,56]⟩:ByteArray),(⟨#[116,105,109,101,115,32,120]⟩:ByteArray),(⟨#[115,101,116,32,49]⟩:ByteArray),(⟨#[97,116]⟩:ByteArray),(⟨#[97,116,32,48]⟩:ByteArray),(⟨#[97,116,32,50,53]⟩:ByteArray),(⟨#[115,117,109,32,48]⟩:ByteArray),(⟨#[119,97,121,32,48,49,48]⟩:ByteArray),(⟨#[107,105,110,100,32,49,48,48,48,49]⟩:ByteArray),(⟨#[32,102,105,114,115,116]⟩:ByteArray),(⟨#[105,110,118,101,114,115,101,32,49]⟩:ByteArray)]
theorem rdOf_le {l:List ByteArray} {b:Nat} (h:∀x∈l,x.size≤b) (i:Int):(rdOf ByteArray.empty l i).size ≤b:=by
 unfold rdOf
 by_cases hi:i.toNat<l.length
 ·rw[List.getD_eq_getElem?_getD,List.getElem?_eq_getElem hi]
  exact h _ (List.getElem_mem _)
 ·rw[List.getD_eq_getElem?_getD,List.getElem?_eq_none om_]
  exact Nat.zero_le _
theorem mx_ok {v:Int} (h:okZ v):okZ (mx v 0):=by
 unfold mx
 split
 ·exact⟨by omega,by omega⟩
 ·exact h
theorem line_j0 {bs:List Int} (hb:Bytes bs) (hl:bs.length≤2000) {p:Int} (h0:0≤p) (h1:p≤600000) (b:Bool):∃s q,s.size≤400000∧Ev (fun k=>spec_l20Line.j0 k b bs p) (s,q):=by
 cases b with
 |true=>
  obtain⟨a,a1,a2,ea⟩:=pick_ev hb hl h0 om_ (by omega:(1:Int)≤8)
  obtain⟨v,q,v1,ev⟩:=mid_ev hb hl (by omega:0≤p+1) om_
  have hz:=digB_szZ (mx_ok v1)
  have hr:(rdOf ByteArray.empty l8 a).size ≤20:=rdOf_le dc_ a
  refine⟨rdOf ByteArray.empty l8 a++digB (mx v 0),q,by rw[ByteArray.size_append];omega,Ev.up ?_⟩
  simp only[spec_l20Line.j0,if_true]
  exact Ec (a:=l8) rfl (Eb ea (Ep a1 (Ep (by simpa [l8] using a2) (Eb ev (Eb (spec_numZ _ (mx_ok v1)) (Ep (by show(rdOf ByteArray.empty l8 a).size +(digB (mx v 0)).size ≤_;omega) (Ev.now _)))))))
 |false=>
  obtain⟨a,b,c,q,_,_,ed⟩:=deed_ev hb hl h0 om_
  refine⟨dText a b c,q,by have:=dText_size a b c;omega,Ev.up ?_⟩
  simp only[spec_l20Line.j0]
  exact En (by simp) (Eb ed (Eb (spec_deedText a b c) (Ev.now _)))
theorem line_ev {bs:List Int} (hb:Bytes bs) (hl:bs.length≤2000) {p:Int} (h0:0≤p) (h1:p≤500000):∃s q,s.size≤400000∧Ev (fun k=>spec_l20Line.f k bs p) (s,q):=by
 obtain⟨a,a1,a2,ea⟩:=pick_ev hb hl h0 om_ (by omega:(1:Int)≤6)
 by_cases c0:a=0
 ·obtain⟨t,t1,t2,et⟩:=pick_ev hb hl (by omega:0≤p+1) om_ (by omega:(1:Int)≤3)
  have hr:(rdOf ByteArray.empty l3 t).size ≤20:=rdOf_le dc_ t
  refine⟨rdOf ByteArray.empty l3 t,p+1+1,Nat.le_trans hr om_,?_⟩
  unfold spec_l20Line.f
  exact Eb ea (Ep c0 (Ec (a:=l3) rfl (Eb et (Ep t1 (Ep (by simpa [l3] using t2) (Ev.now _))))))
 by_cases c1:a=1
 ·obtain⟨t,t1,t2,et⟩:=pick_ev hb hl (by omega:0≤p+1) om_ (by omega:(1:Int)≤13)
  have hr:(rdOf ByteArray.empty l13 t).size ≤20:=rdOf_le dc_ t
  refine⟨rdOf ByteArray.empty l13 t,p+1+1,Nat.le_trans hr om_,?_⟩
  unfold spec_l20Line.f
  exact Eb ea (En c0 (Ep c1 (Ec (a:=l13) rfl (Eb et (Ep t1 (Ep (by simpa [l13] using t2) (Ev.now _)))))))
 by_cases c2:a=2
 ·obtain⟨s,q,hs,e⟩:=line_j0 hb hl (by omega:0≤p+1) om_ (a==2)
  refine⟨s,q,hs,?_⟩
  unfold spec_l20Line.f
  exact Eb ea (En c0 (En c1 (Ep c2 e)))
 ·obtain⟨s,q,hs,e⟩:=line_j0 hb hl (by omega:0≤p+1) om_ (a==3)
  refine⟨s,q,hs,?_⟩
  unfold spec_l20Line.f
  exact Eb ea (En c0 (En c1 (En c2 e)))
theorem szD_small {a:List Int} {l:List (List Int)} (h1:a.length≤24) (h2:l.length≤10) (h3:∀x∈l,x.length≤24):szD a l≤1048576:=by
 have h4:=totL_le 24 l h3
 have h5:l.length*24≤10*24:=Nat.mul_le_mul_right _ h2
 unfold szD
 omega
theorem sameD_ev {a:List Int} {l:List (List Int)} (h:szD a l≤1048576) (hb:deskB a l=true∨(a=[]∧l=[])):Ev (fun k=>laws_sameDesk.f k a l a l) true:=by
 have hz:szD a l≤1000:=by
  rcases hb with hb|⟨rfl,rfl⟩
  ·exact deskB_sz hb
  ·simp[szD,totL]
 obtain⟨h1,h2,_,h3⟩:=szD_row hz
 have e:=desk_ev a l a l om_ om_ (fun x hx=>by have:=h3 x hx;omega)
 rwa [decide_eq_true ⟨rfl,rfl⟩]at e
theorem FnDeskLine:laws_FnDeskLine.Pure:=by
 intro l0 _ _ hw
 refine Ev.rounds ?_
 unfold laws_FnDeskLine.f
 by_cases hl:(l0.length:Int)>1048576
 ·exact Ep hl (Ev.now _)
 refine En hl ?_
 obtain⟨bs,h1,h2,h3⟩:=open_ev (Bytes.of hw)
 obtain⟨now,past,q,g1,g2,g3,q1,q2,e⟩:=sp_l20desk h1 h2 (p:=0) (n:=12) om_ om_ om_
 obtain⟨s,q',hs,es⟩:=line_ev h1 h2 (p:=q) om_ om_
 have hd:Ev (fun k=>spec_DrawDeskLine.f k l0) (now,past,s):=by
  unfold spec_DrawDeskLine.f
  exact Ec h3 (Eb e (Eb es (Ev.now _)))
 have hz:=szD_small g1 g2 g3
 obtain⟨r1,r2,R,z,e1,e2,e3,e4⟩:=line_both now past s hz om_
 have eo:=spec_desk now past om_ om_ (fun x hx=>by have:=g3 x hx;omega)
 cases hb:deskB now past with
 |false=>
  rw[hb]at eo
  obtain⟨rfl,rfl,rfl⟩:=e3 hb
  have s0:=sameD_ev (a:=[]) (l:=[]) (by simp[szD,totL]) (.inr ⟨rfl,rfl⟩)
  refine Eb hd (Eb e2 (Eb e1 (Eb s0 (Ep rfl ?_))))
  refine Ev.up ?_
  simp only[laws_FnDeskLine.j0]
  refine En (by simp) (Eb eo (En (by simp) (Ep (toList_nil.2 rfl) (Eb (g:=fun k=>laws_noDesk.f k [] []) (a:=true) ?_ (Ep rfl (Ec alive_eq (Ev.now _)))))))
  unfold laws_noDesk.f
  exact Eb s0 (Ev.now _)
 |true=>
  rw[hb]at eo
  obtain⟨k1,k2,k3⟩:=e4 hb
  have sr:=sameD_ev z (.inl k1)
  have sn:=sameD_ev hz (.inl hb)
  obtain⟨t1,t2,T,_,_,f2,_,f4⟩:=line_both now past ⟨#[]⟩ hz dc_
  obtain⟨_,_,f5⟩:=f4 hb
  obtain⟨rfl,rfl,rfl⟩:=f5 rfl
  obtain⟨d1,d2,d3⟩:=deskB_len k1
  have ei:=impl_desk r1 r2 om_ om_ (fun x hx=>by have:=d3 x hx;omega)
  rw[k1]at ei
  refine Eb hd (Eb e2 (Eb e1 (Eb sr (Ep rfl ?_))))
  rw[show(R.toList != R.toList)=false from bne_self_eq_false ..]
  refine Ev.up ?_
  simp only[laws_FnDeskLine.j0]
  have fin:Ev (fun _=>some (tWhat.toList==([119,104,97,116]:List UInt8))) true:=by
   rw[show tWhat.toList=[119,104,97,116]from bw_toList [119,104,97,116]]
   exact Ev.now _
  refine En (by simp) (Eb eo (Ep rfl (Eb f2 (Eb ei (Ep rfl ?_)))))
  by_cases hR:R.toList=[111,107]
  ·exact Ep hR (Eb sn (Ep rfl fin))
  ·have hsame:r1=t1∧r2=t2:=k2.resolve_left (fun z=>hR (by rw[z];exact bw_toList [111,107]))
   obtain⟨rfl,rfl⟩:=hsame
   exact En hR (Eb sn (Ep rfl (Eb sn (Ep rfl fin))))
end Go.Proofs.YtdmlkjjlgkdnlaaGreatDoor.Pure
