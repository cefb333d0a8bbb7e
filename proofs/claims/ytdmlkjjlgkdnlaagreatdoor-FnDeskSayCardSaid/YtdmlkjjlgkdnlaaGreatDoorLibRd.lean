/- What a text is read as: the one deed whose text it is. No program in sight.
-/
import Derived.RowKit
import Derived.Test.YtdmlkjjlgkdnlaaGreatDoorWWords
import Derived.Test.YtdmlkjjlgkdnlaaGreatDoorLib
import Derived.Test.YtdmlkjjlgkdnlaaGreatDoorLibTxt
import Derived.Test.YtdmlkjjlgkdnlaaGreatDoorLibSplit
namespace Go.Proofs.YtdmlkjjlgkdnlaaGreatDoor.Lib
open Go.RowKit Go.Proofs.YtdmlkjjlgkdnlaaGreatDoorW.PrintWords
set_option linter.unusedVariables false
set_option linter.unusedSimpArgs false
def n5:List ByteArray:=[bw [116,105,109,101,115],bw [117,110,105,116,97,114,121],bw [105,110,118,101,114,115,101],bw [115,101,116],bw [98,97,99,107]]
def kidx (w:ByteArray):Int:=
 if w.toList=(bw [116,105,109,101,115]).toList then 0 else if w.toList=(bw [117,110,105,116,97,114,121]).toList then 1
 else if w.toList=(bw [105,110,118,101,114,115,101]).toList then 2 else if w.toList=(bw [115,101,116]).toList then 3 else if w.toList=(bw [98,97,99,107]).toList then 4 else-1
theorem kidx_range (w:ByteArray): -1<=kidx w/\kidx w<=4:=by unfold kidx;repeat' split;all_goals omega
def no4:Int×Int×Int×Bool:=(0,0,0,false)
def rdT (s:ByteArray) (a b c:Int):Int×Int×Int×Bool:=if(Fk a b c).toList =s.toList then(a,b,c,true)else no4
def rdB (ws:List ByteArray):Int:=if(ws.length:Int)>1 then aval (rdOf ByteArray.empty ws 1)else 0
def rdC (ws:List ByteArray):Int:=if(ws.length:Int)>2 then aval (rdOf ByteArray.empty ws 2)else 0
def rdW (s:ByteArray) (ws:List ByteArray):Int×Int×Int×Bool:=
 if kidx (rdOf ByteArray.empty ws 0)<0 then no4 else if(ws.length:Int)>3 then no4 else rdT s (kidx (rdOf ByteArray.empty ws 0)) (rdB ws) (rdC ws)
theorem rdT_sound {s:ByteArray} {x y z a b c:Int} (h:rdT s x y z=(a,b,c,true)):Fk a b c=s:=by
 unfold rdT at h
 by_cases hq:(Fk x y z).toList =s.toList
 .rw[if_pos hq]at h
  simp only[Prod.mk.injEq,and_true]at h
  obtain⟨rfl,rfl,rfl⟩:=h
  exact toList_inj.1 hq
 .rw[if_neg hq]at h;cases h
theorem rdT_false {s:ByteArray} {x y z:Int} (h:(rdT s x y z).2.2.2≠true):rdT s x y z=no4:=by
 unfold rdT at h ⊢
 by_cases hq:(Fk x y z).toList =s.toList
 .rw[if_pos hq]at h;exact absurd rfl h
 .rw[if_neg hq]
def Dg (s:ByteArray):List ByteArray:=(Gu 32 s.data.toList).map bw
def Ib (s:ByteArray):Int×Int×Int×Bool:=rdW s (Dg s)
theorem rd_sound {s:ByteArray} {a b c:Int} (h:Ib s=(a,b,c,true)):Fk a b c=s/\s.size≠0:=by
 have hs:s.size≠0:=by
  intro h0
  have e:s.data.toList=[]:=List.eq_nil_of_length_eq_zero (by rw[<-Iu];exact h0)
  have:Ib s=no4:=by
   unfold Ib rdW Dg
   rw[e]
   have hk:kidx (rdOf ByteArray.empty ((Gu 32 ([]:List UInt8)).map bw) 0)= -1:=by decide+kernel
   rw[hk,if_pos om_]
  rw[this]at h
  cases h
 refine⟨?_,hs⟩
 unfold Ib rdW at h
 by_cases h1:kidx (rdOf ByteArray.empty (Dg s) 0)<0
 .rw[if_pos h1]at h;cases h
 .rw[if_neg h1]at h
  by_cases h2:((Dg s).length :Int)>3
  .rw[if_pos h2]at h;cases h
  .rw[if_neg h2]at h;exact rdT_sound h
theorem rd_false {s:ByteArray} (h:(Ib s).2.2.2≠true):Ib s=no4:=by
 revert h
 unfold Ib rdW
 by_cases h1:kidx (rdOf ByteArray.empty (Dg s) 0)<0
 .rw[if_pos h1];exact fun _=>rfl
 .rw[if_neg h1]
  by_cases h2:((Dg s).length :Int)>3
  .rw[if_pos h2];exact fun _=>rfl
  .rw[if_neg h2];exact rdT_false
theorem words3 (n m:Nat):Gu 32 ([115,101,116]++32::(Go.Lib.decDigits n++32::Go.Lib.decDigits m))=[[115,101,116],Go.Lib.decDigits n,Go.Lib.decDigits m]:=by
 rw[Jf _ dc_,Jf _ (dec_no dc_),Ik (dec_no dc_)]
theorem words2 {w:List UInt8} (hw:(32:UInt8)∉w) (n:Nat):Gu 32 (w++32::Go.Lib.decDigits n)=[w,Go.Lib.decDigits n]:=by
 rw[Jf _ hw,Ik (dec_no dc_)]
theorem rd_complete {s:ByteArray} {a b c:Int} (h:Fk a b c=s) (hs:s.size≠0):Ib s=(a,b,c,true):=by
 subst h
 rcases dText_cases a b c hs with⟨rfl,n,m,rfl,rfl,hn,hm,e⟩|⟨rfl,rfl,n,rfl,hn,e⟩|⟨rfl,rfl,n,rfl,hn,e⟩|⟨rfl,rfl,rfl,e⟩|⟨rfl,rfl,rfl,e⟩
 .have hw:Dg (Fk 3 (n:Int) (m:Int))=[bw [115,101,116],bw (Go.Lib.decDigits n),bw (Go.Lib.decDigits m)]:=by unfold Dg;rw[e,words3];rfl
  unfold Ib rdW rdT rdB rdC
  rw[hw]
  have k0:kidx (rdOf ByteArray.empty [bw [115,101,116],bw (Go.Lib.decDigits n),bw (Go.Lib.decDigits m)] 0)=3:=by
   show kidx (bw [115,101,116])=3
   decide+kernel
  have k1:rdOf ByteArray.empty [bw [115,101,116],bw (Go.Lib.decDigits n),bw (Go.Lib.decDigits m)] 1=bw (Go.Lib.decDigits n):=rfl
  have k2:rdOf ByteArray.empty [bw [115,101,116],bw (Go.Lib.decDigits n),bw (Go.Lib.decDigits m)] 2=bw (Go.Lib.decDigits m):=rfl
  rw[k0,k1,k2,aval_dig n om_,aval_dig m om_]
  simp
 .have hw:Dg (Fk 0 (n:Int) 0)=[bw [116,105,109,101,115],bw (Go.Lib.decDigits n)]:=by unfold Dg;rw[e,words2 dc_];rfl
  unfold Ib rdW rdT rdB rdC
  rw[hw]
  have k0:kidx (rdOf ByteArray.empty [bw [116,105,109,101,115],bw (Go.Lib.decDigits n)] 0)=0:=by
   show kidx (bw [116,105,109,101,115])=0
   decide+kernel
  have k1:rdOf ByteArray.empty [bw [116,105,109,101,115],bw (Go.Lib.decDigits n)] 1=bw (Go.Lib.decDigits n):=rfl
  rw[k0,k1,aval_dig n om_]
  simp
 .have hw:Dg (Fk 1 (n:Int) 0)=[bw [117,110,105,116,97,114,121],bw (Go.Lib.decDigits n)]:=by unfold Dg;rw[e,words2 dc_];rfl
  unfold Ib rdW rdT rdB rdC
  rw[hw]
  have k0:kidx (rdOf ByteArray.empty [bw [117,110,105,116,97,114,121],bw (Go.Lib.decDigits n)] 0)=1:=by
   show kidx (bw [117,110,105,116,97,114,121])=1
   decide+kernel
  have k1:rdOf ByteArray.empty [bw [117,110,105,116,97,114,121],bw (Go.Lib.decDigits n)] 1=bw (Go.Lib.decDigits n):=rfl
  rw[k0,k1,aval_dig n om_]
  simp
 .have hw:Dg (Fk 2 0 0)=[bw [105,110,118,101,114,115,101]]:=by unfold Dg;rw[e,Ik dc_];rfl
  unfold Ib rdW rdT rdB rdC
  rw[hw]
  have k0:kidx (rdOf ByteArray.empty [bw [105,110,118,101,114,115,101]] 0)=2:=by
   show kidx (bw [105,110,118,101,114,115,101])=2
   decide+kernel
  rw[k0]
  simp
 .have hw:Dg (Fk 4 0 0)=[bw [98,97,99,107]]:=by unfold Dg;rw[e,Ik dc_];rfl
  unfold Ib rdW rdT rdB rdC
  rw[hw]
  have k0:kidx (rdOf ByteArray.empty [bw [98,97,99,107]] 0)=4:=by
   show kidx (bw [98,97,99,107])=4
   decide+kernel
  rw[k0]
  simp
end Go.Proofs.YtdmlkjjlgkdnlaaGreatDoor.Lib
