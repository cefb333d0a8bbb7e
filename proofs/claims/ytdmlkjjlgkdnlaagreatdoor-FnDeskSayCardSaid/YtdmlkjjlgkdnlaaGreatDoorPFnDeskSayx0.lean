import Derived.Test.YtdmlkjjlgkdnlaaGreatDoorProg
import Derived.Below
import Derived.Deep.Draws
import Derived.Deep.AppendLies
import Derived.Maps.AppendAt
import Derived.OwnWalk
import Derived.Laws.BytesArg
import Derived.Laws.MakeOwn
import Derived.Laws.OwnMore
import Derived.Deep.OwnRows
import Derived.Tactics
import Derived.Lib.ConvBytes
import Derived.Laws.Slices
import Derived.WalkKit
import Derived.KernelRfl
import Derived.RowKit3
import Derived.Deep.LoopGhost
import Derived.Deep.QuietTactic
import Derived.BigQuiet
import Derived.WideLaws
import Derived.Deep.DeepCutAuto
import Derived.Deep.CutBlock
import Derived.Deep.RegionHeld3
import Derived.Laws.Rows
import Derived.Lib.AppendStr
import Derived.ArgAppend
import Derived.Laws.IdiomCopy
import Derived.OrdersHeld
import Derived.Laws.BitsLemmas
import Derived.RowKit
import Derived.Test.YtdmlkjjlgkdnlaaGreatDoorWFour
import Derived.Test.YtdmlkjjlgkdnlaaGreatDoorWAt
import Derived.Test.YtdmlkjjlgkdnlaaGreatDoorWEqStruct
import Derived.Test.YtdmlkjjlgkdnlaaGreatDoorWInvWords
import Derived.Test.YtdmlkjjlgkdnlaaGreatDoorWGuard
import Derived.Test.YtdmlkjjlgkdnlaaGreatDoorWPress
namespace Go.Proofs.YtdmlkjjlgkdnlaaGreatDoor.PFnDeskSay
open Go.RowKit Go.Proofs.YtdmlkjjlgkdnlaaGreatDoorW.PrintWords Go.Proofs.YtdmlkjjlgkdnlaaGreatDoorW.PrintLast Go.Proofs.YtdmlkjjlgkdnlaaGreatDoorW.PrintMore
attribute [local go_sem] Iz Ix Jy Jx Hy Hx Iy Iw
set_option linter.unusedVariables false
set_option linter.unusedSimpArgs false
set_option maxHeartbeats 8000000
set_option maxRecDepth 100000
def errW:Option Int->Value
 |none=> .nilIface
 |some c=> .iface 0 (.int .i64 c)
theorem Ca:errW none= .nilIface :=rfl
theorem Bz (c:Int):errW (some c)= .iface 0 (.int .i64 c):=rfl

theorem Je:(Tryz.prog.info? 3).map (fun i=>(i.zero,i.size,i.bytes))=some (some (.int .i64 0),1,8):=by kernel_rfl
theorem info5:(Tryz.prog.info? 5).map (fun i=>(i.zero,i.size,i.bytes))=some (some (.int .u8 0),1,1):=by kernel_rfl
theorem info9:(Tryz.prog.info? 9).map (fun i=>(i.zero,i.size,i.bytes))=some (some (.string ⟨#[]⟩),1,16):=by kernel_rfl
theorem info22:(Tryz.prog.info? 22).map (fun i=>(i.zero,i.size,i.bytes))=some (some (.slice none 0 0),1,24):=by kernel_rfl
theorem info55:(Tryz.prog.info? 55).map (fun i=>(i.zero,i.size,i.bytes))=some (some (.agg #[(.int .i64 0),(.int .i64 0),(.int .i64 0)]),3,24):=by kernel_rfl
-- the values' own types
def Bl (xs:LL) (i:Int):(LI):=xs.getD i.toNat ([]:LI)
theorem at_L1 {w:World} {A:OA} {n:Nat} {xs:LL} (h:Kd.C (Kd.slice 3 ki) w A n xs) (i:Int) (h0:0<=i) (h1:i<n):∃ad a0 b0,A=some ad/\w.cell? (ad.add i.toNat)=some (.slice a0 (Bl xs i).length b0)/\(Bl xs i).length <=b0/\ki.C w a0 (Bl xs i).length (Bl xs i):=by
 obtain⟨ad,c,e,_,hK,c0⟩:=Kd.C_get h ([]:LI) i h0 h1;have hc:∀j u,c[j]? =some u->w.cell? (ad.add (i.toNat*1+j))=some u:=c0;obtain⟨a0,b0,rfl,d0,e0⟩:=hK;exact⟨ad,a0,b0,e,by have hq:=hc 0 _ rfl;rwa [Nat.mul_one,Nat.add_zero]at hq,d0,e0⟩

theorem sg_L1 {e base:Nat} {w:World} {ok:Nat->Prop} {A:OA} {n c:Nat} {xs:LL} (h:Kd.S (Kd.slice 3 ki) e w base ok (.slice A n c) xs) (i:Int) (p:0<=i:=by first|exact qo|omega) (q:i<(xs.length:Int):=by first|exact qo|omega):∃ad a0 b0,A=some ad/\w.cell? (ad.add i.toNat)=some (.slice a0 (Bl xs i).length b0)/\Aside0 (Kd.R ki 3 w base (fun k=>ok k/\some k≠(Value.slice A n c).ownBlock) (.slice a0 (Bl xs i).length b0) (Bl xs i))/\Aside0 (ki.C w a0 (Bl xs i).length (Bl xs i))/\Aside0 ((Bl xs i).length <=b0)/\(0<=i)=True/\(i<(xs.length:Int))=True:=by
 have e_:=Kd.S_reads' h;obtain⟨ad,a0,b0,e,hx,hl,hi⟩:=at_L1 e_.2.2 i p q;cases e;obtain⟨ce,_,⟨ve,rfl,ge⟩,hcc⟩:=Kd.S_get h [] i p (by have:=e_.1;omega);have hv:=hcc 0 _ rfl;rw[Nat.add_zero,show((Kd.slice 3 ki)).sz =1 from rfl,Nat.mul_one]at hv;replace hv:=Option.some.inj (hv.symm.trans hx);rw[hv]at ge;exact⟨ad,a0,b0,rfl,hx,⟨ge⟩,⟨hi⟩,⟨hl⟩,eq_true p,eq_true q⟩
theorem sh_L1 {e base:Nat} {w:World} {ok:Nat->Prop} {ad:Addr} {n c:Nat} {xs:LL} (h:Kd.S (Kd.slice 3 ki) e w base ok (.slice (some ad) n c) xs) (i:Int) (p:0<=i:=by first|exact qo|omega) (q:i<(xs.length:Int):=by first|exact qo|omega):∃a0 b0,w.cell? (ad.add i.toNat)=some (.slice a0 (Bl xs i).length b0)/\Aside0 (Kd.R ki 3 w base (fun k=>ok k/\some k≠(Value.slice (some ad) n c).ownBlock) (.slice a0 (Bl xs i).length b0) (Bl xs i))/\Aside0 (ki.C w a0 (Bl xs i).length (Bl xs i))/\Aside0 ((Bl xs i).length <=b0)/\(0<=i)=True/\(i<(xs.length:Int))=True:=by
 obtain⟨_,a0,b0,e,r⟩:=sg_L1 h i p q;cases e;exact⟨a0,b0,r⟩
theorem cg_L1 {w:World} {A:OA} {n:Nat} {xs:LL} (h:Kd.C (Kd.slice 3 ki) w A n xs) (i:Int) (p:0<=i:=by first|exact qo|omega) (q:i<(n:Int):=by first|exact qo|omega):∃ad a0 b0,A=some ad/\w.cell? (ad.add i.toNat)=some (.slice a0 (Bl xs i).length b0)/\Aside0 (ki.C w a0 (Bl xs i).length (Bl xs i))/\Aside0 ((Bl xs i).length <=b0)/\(0<=i)=True/\(i<(n:Int))=True:=by
 obtain⟨ad,a0,b0,e,hx,hl,hi⟩:=at_L1 h i p q;exact⟨ad,a0,b0,e,hx,⟨hi⟩,⟨hl⟩,eq_true p,eq_true q⟩
theorem ch_L1 {w:World} {ad:Addr} {n:Nat} {xs:LL} (h:Kd.C (Kd.slice 3 ki) w (some ad) n xs) (i:Int) (p:0<=i:=by first|exact qo|omega) (q:i<(n:Int):=by first|exact qo|omega):∃a0 b0,w.cell? (ad.add i.toNat)=some (.slice a0 (Bl xs i).length b0)/\Aside0 (ki.C w a0 (Bl xs i).length (Bl xs i))/\Aside0 ((Bl xs i).length <=b0)/\(0<=i)=True/\(i<(n:Int))=True:=by
 obtain⟨_,a0,b0,e,r⟩:=cg_L1 h i p q;cases e;exact⟨a0,b0,r⟩

/-! #### struct type 55 -/
structure S55 where
 f0:Int
 f1:Int
 f2:Int
def z55:S55:=⟨(0:Int),(0:Int),(0:Int)⟩
def k55:Kd S55:=Kd.iso (Kd.pair ki (Kd.pair ki ki)) (fun x:S55=>(x.f0,x.f1,x.f2))
theorem k55_open {w:World} {x:S55} {cs:List Value} (h:k55.K w x cs):cs=[.int .i64 x.f0,.int .i64 x.f1,.int .i64 x.f2]:=by
 obtain⟨_,_,rfl,rfl,⟨_,_,rfl,rfl,rfl⟩⟩:=h;exact rfl
theorem k55_openM {w:World} {base:Nat} {ok:Nat->Prop} {x:S55} {cs:List Value} (h:k55.M w base ok x cs):cs=[.int .i64 x.f0,.int .i64 x.f1,.int .i64 x.f2]:=by
 obtain⟨_,_,rfl,rfl,⟨_,_,rfl,rfl,rfl⟩⟩:=h;exact rfl
theorem k55_mk (w:World) (x:S55)  :k55.K w x [.int .i64 x.f0,.int .i64 x.f1,.int .i64 x.f2]:=⟨[.int .i64 x.f0],[.int .i64 x.f1,.int .i64 x.f2],rfl,rfl,⟨[.int .i64 x.f1],[.int .i64 x.f2],rfl,rfl,rfl⟩⟩
theorem k55_mkM (w:World) (base:Nat) (ok:Nat->Prop) (x:S55)  :k55.M w base ok x [.int .i64 x.f0,.int .i64 x.f1,.int .i64 x.f2]:=⟨[.int .i64 x.f0],[.int .i64 x.f1,.int .i64 x.f2],rfl,rfl,⟨[.int .i64 x.f1],[.int .i64 x.f2],rfl,rfl,rfl⟩⟩
def Iv (xs:List S55) (i:Int):S55:=xs.getD i.toNat z55
theorem at_T55 {w:World} {A:OA} {n:Nat} {xs:List S55} (h:Kd.C k55 w A n xs) (i:Int) (h0:0<=i) (h1:i<n):∃ad,A=some ad/\w.cell? (ad.add (i.toNat*3))=some (.int .i64 (Iv xs i).f0)/\w.cell? ⟨(ad.add (i.toNat*3)).block,(ad.add (i.toNat*3)).off +1,none⟩=some (.int .i64 (Iv xs i).f1)/\w.cell? ⟨(ad.add (i.toNat*3)).block,(ad.add (i.toNat*3)).off +2,none⟩=some (.int .i64 (Iv xs i).f2):=by
 obtain⟨ad,c,e,_,hK,a0⟩:=Kd.C_get h z55 i h0 h1;have hc:∀j u,c[j]? =some u->w.cell? (ad.add (i.toNat*3+j))=some u:=a0;obtain rfl:=k55_open hK;exact⟨ad,e,hc 0 _ rfl,by rw[<-add_field _ _ 1 ko_];exact hc 1 _ rfl,by rw[<-add_field _ _ 2 ko_];exact hc 2 _ rfl⟩
end Go.Proofs.YtdmlkjjlgkdnlaaGreatDoor.PFnDeskSay
