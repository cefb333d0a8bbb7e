/-
  A desk that comes in: its row and its rows of before, as the walk wants them.
-/
import Derived.Test.YtdmlkjjlgkdnlaaGreatDoorRows
import Derived.Test.YtdmlkjjlgkdnlaaGreatDoorWWords
import Derived.WalkKit
import Derived.ProofKit
import Derived.OpenShut
import Derived.ShutString
import Derived.ChangeOld
import Derived.ChangeSame
import Derived.Below
import Derived.SizedLaws
import Derived.Deep.Matrix
import Derived.Deep.Strs
namespace Go.Proofs.YtdmlkjjlgkdnlaaGreatDoor
open Go.ChangeShapes Go.WideShapes Go.ChangeAt Go.RowKit Go.Deep Go.Proofs.YtdmlkjjlgkdnlaaGreatDoorW.PrintWords
set_option linter.unusedVariables false
theorem row_open {W:World} {a:Option Addr} {len cap:Nat} {zs:List Int} (h:(a=none∧len=0∧cap=0∧zs=[])∨∃x,a=some x∧len≤cap∧cap≤maxLen∧zs.length=cap∧(∀i,i<zs.length→W.cell? (x.add i)=some (.int .i64 (zs.getD i 0)))∧∀n∈zs,(Lit.int .i64 n).wf =true):
    ∃l:List Int,len=l.length∧Kd.C (Kd.int .i64) W a l.length l∧l.length≤cap∧l.length≤9223372036854775807:=by
  obtain⟨l,rfl,hr,hm,hw,hc⟩:=ReadsInt.ofRowC h
  exact⟨l,rfl,Kd.C_of_reads (d:=(0:Int)) (h1:=fun _=>rfl) hr,hc,by have:maxLen=9223372036854775807:=rfl;omega⟩
set_option maxRecDepth 100000 in
theorem desk_open {H:Type} {enc:TypeId×Value→H} {W:World} {cs:Array Value} {d:DataW H} {p:List MemPlace} (hsz:cs.size=2) (h:DataW.Trod enc Tryz.prog W 0 (fun _=>true) true 25 (.agg cs) d p):
    ∃(A0:Option Addr) (c0:Nat) (l0:List Int) (A1:Option Addr) (c1:Nat) (l1:List (List Int)),cs=#[.slice A0 l0.length c0,.slice A1 l1.length c1]∧Kd.C (Kd.int .i64) W A0 l0.length l0∧l0.length≤c0∧Kd.C (Kd.slice 3 (Kd.int .i64)) W A1 l1.length l1∧l1.length≤c1∧
      l0.length≤9223372036854775807∧l1.length≤9223372036854775807∧∀x∈l1,x.length≤9223372036854775807:=by
  obtain⟨fuel,hf⟩:=h
  obtain⟨u0,u1,rfl⟩:∃u0 u1,cs=#[u0,u1]:=by
    match cs,hsz with
    |⟨[u0,u1]⟩,_=>exact⟨u0,u1,rfl⟩
  obtain⟨y0,y1,n,hx,hl,h0,h1⟩:=trod_struct2 Tryz.underlying25 hf
  have k22:Tryz.prog.cellsOf 22=1:=by kernel_rfl
  have k23:Tryz.prog.cellsOf 23=1:=by kernel_rfl
  have k3:Tryz.prog.cellsOf 3=1:=by kernel_rfl
  have e0:DataW.trod enc Tryz.prog W 0 (fun _=>true) true n 22 [u0]=some y0:=by
    rw[k22]at h0
    exact h0
  have e1:DataW.trod enc Tryz.prog W 0 (fun _=>true) true n 23 [u1]=some y1:=by
    rw[k23]at h1
    exact h1
  have hM:maxLen=9223372036854775807:=rfl
  have a0:∃(A0:Option Addr) (c0:Nat) (l0:List Int),u0= .slice A0 l0.length c0∧Kd.C (Kd.int .i64) W A0 l0.length l0∧l0.length≤c0∧l0.length≤9223372036854775807:=by
    rcases open_ints Tryz.underlying22 Tryz.underlying3 k3 e0 with⟨hcs,_⟩|⟨x,l,c,zs,hcs,_,hl,hm,hz,_,hcell,hwz⟩
    · obtain⟨l,e,q1,q2,q3⟩:=row_open (W:=W) (a:=none) (len:=0) (cap:=0) (zs:=[]) (.inl ⟨rfl,rfl,rfl,rfl⟩)
      refine⟨none,0,l,?_,q1,q2,q3⟩
      rw[←e]
      exact(List.cons.inj hcs).1
    · obtain⟨l',e,q1,q2,q3⟩:=row_open (W:=W) (a:=some x) (len:=l) (cap:=c) (zs:=zs) (.inr ⟨x,rfl,hl,hm,by simpa using hz,hcell,hwz⟩)
      refine⟨some x,c,l',?_,q1,q2,q3⟩
      rw[←e]
      exact(List.cons.inj hcs).1
  have a1:∃(A1:Option Addr) (c1:Nat) (l1:List (List Int)),u1= .slice A1 l1.length c1∧Kd.C (Kd.slice 3 (Kd.int .i64)) W A1 l1.length l1∧l1.length≤c1∧l1.length≤9223372036854775807∧∀x∈l1,x.length≤9223372036854775807:=by
    rcases open_int_rows Tryz.underlying23 Tryz.underlying22 Tryz.underlying3 k22 k3 e1 with⟨hcs,_⟩|⟨a,len,cap,A,L,C,Z,hcs,_,hl,hm,_,hr⟩
    · refine⟨none,0,[],(List.cons.inj hcs).1,⟨rfl,by simp,fun hn=>by simp at hn⟩,by simp,by simp,by simp⟩
    · have each:∀r,r<len→∃l:List Int,L r=l.length∧Kd.C (Kd.int .i64) W (A r) l.length l∧l.length≤C r∧l.length≤9223372036854775807:=by
        intro r hr1
        obtain⟨b1,b2,b3,b4,b5,b6,b7⟩:=hr r (by omega)
        cases hA:A r with
        |none=>
          have hC:=b6 hA
          refine row_open (W:=W) (cap:=C r) (zs:=Z r) (.inl ⟨rfl,by omega,hC,?_⟩)
          exact List.eq_nil_of_length_eq_zero (by omega)
        |some x=>
          obtain⟨_,c7⟩:=b7 x hA
          exact row_open (W:=W) (cap:=C r) (zs:=Z r) (.inr ⟨x,rfl,b2,b3,b4,fun i hi=>c7 i (by omega),b5⟩)
      obtain⟨y,hy⟩:=choose_lt each
      have hlen:((List.range len).map y).length =len:=by simp
      refine⟨some a,cap,(List.range len).map y,?_,?_,by omega,by omega,?_⟩
      · rw[hlen]
        exact(List.cons.inj hcs).1
      · refine⟨rfl,by omega,fun _=>⟨a,rfl,fun j q hq=>?_⟩⟩
        have hj:j<len:=by
          have:=(List.getElem?_eq_some_iff.1 hq).1
          omega
        have hq2:q=y j:=by
          rw[List.getElem?_map,List.getElem?_range hj]at hq
          exact(Option.some.inj hq).symm
        subst hq2
        obtain⟨z1,z2,z3,z4⟩:=hy j hj
        refine⟨[.slice (A j) (L j) (C j)],rfl,⟨A j,C j,by rw[z1],z3,z2⟩,fun i u hu=>?_⟩
        match i,hu with
        |0,hu=>
          obtain rfl:=Option.some.inj hu
          have:=(hr j (by omega)).1
          show W.cell? (a.add (j*1+0))=_
          rw[Nat.mul_one,Nat.add_zero]
          exact this
      · intro x hx
        obtain⟨j,hj,rfl⟩:=List.mem_map.1 hx
        exact(hy j (List.mem_range.1 hj)).2.2.2
  obtain⟨A0,c0,l0,rfl,q1,q2,q3⟩:=a0
  obtain⟨A1,c1,l1,rfl,r1,r2,r3,r4⟩:=a1
  exact⟨A0,c0,l0,A1,c1,l1,rfl,q1,q2,r1,r2,q3,r3,r4⟩
end Go.Proofs.YtdmlkjjlgkdnlaaGreatDoor
