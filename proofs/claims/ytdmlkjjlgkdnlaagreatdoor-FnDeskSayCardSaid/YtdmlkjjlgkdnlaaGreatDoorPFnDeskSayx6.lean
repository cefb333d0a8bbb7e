import Derived.Test.YtdmlkjjlgkdnlaaGreatDoorPFnDeskSayx0
import Derived.Lib.SmallJoins
import Derived.Lib.ItoaNum
import Derived.Test.YtdmlkjjlgkdnlaaGreatDoorShelf
namespace Go.Proofs.YtdmlkjjlgkdnlaaGreatDoor.PFnDeskSay
open Go.RowKit Go.Proofs.YtdmlkjjlgkdnlaaGreatDoorW.PrintWords Go.Proofs.YtdmlkjjlgkdnlaaGreatDoorW.PrintLast Go.Proofs.YtdmlkjjlgkdnlaaGreatDoorW.PrintMore
attribute [local go_sem] Iz Ix Jy Jx Hy Hx Iy Iw
set_option linter.unusedVariables false
set_option linter.unusedSimpArgs false
set_option maxHeartbeats 8000000
set_option maxRecDepth 100000
theorem eqA55 (d:Nat) (w:World) (a0 b0:Int) (c0 d0:Int) (e0 g0:Int):
  (Op.equalIn (d+2) 55 (.agg #[.int .i64 a0,.int .i64 c0,.int .i64 e0]) (.agg #[.int .i64 b0,.int .i64 d0,.int .i64 g0])).run Tryz.prog w= .ok (a0==b0&&(c0==d0&&(e0==g0))) w:=by
 refine eqA_of Tryz.underlying55 kr_ ?_;refine eqf_cons (by rfl) (by go_simp;rfl) (by go_simp;rfl) (by go_simp) ?_;refine eqf_cons (by rfl) (by go_simp;rfl) (by go_simp;rfl) (by go_simp) ?_;exact eqf_last (by rfl) (by go_simp;rfl) (by go_simp;rfl) (by go_simp)
def Ex.l0:Nat->LI->Int->LI->Int->Int->Option (Bool)
 |0,_,_,_,_,_=>none
 |k+1,a0,b0,c0,d0,e0=>if e0<d0 then(if 0<=e0 then(if e0<(c0.length:Int)then(if(rd c0 e0)<(wrap64 (-b0))then(some false)else(if(rd c0 e0)>b0 then(some false)else(Ex.l0 k a0 b0 c0 d0 (wrap64 (e0+1)))))else(none))else(none))else(some ((a0.length:Int)==24))
def Ex.f (k:Nat) (a0:LI) (b0:Int):Option (Bool):=Ex.l0 k a0 b0 a0 (a0.length:Int) 0
theorem Ex.c (k:Nat) (a0:OA) (b0:Nat) (c0:LI) (d0:Int) (r:Bool) (w:World) (e0:Kd.C ki w a0 c0.length c0) (g0:c0.length<=b0) (h:Ex.f k c0 d0=some r):
  Calls Tryz.prog 120 #[.slice a0 c0.length b0,.int .i64 d0] w fun e w'=>e= .returned (.bool r)/\Drawn0 w w':=by
 have j0:=qa e0;have n0:=qa g0;clear e0 g0;have H:=h;unfold Ex.f at H;clear h;have H':=qa H;clear H
 go_enter Tryz.func120,Tryz.ntmps120
 go_wp2
 go_loopg [9] k (fun kq p0 w'=>∃(q0:Int),p0= .int .i64 q0/\Aside0 (Ex.l0 kq c0 d0 c0 (c0.length:Int) q0=some r)/\Aside0 (kq<=k)/\Drawn0 w w')
 case atStart=>exact⟨(0),(sd),H',⟨Nat.le_refl _⟩,dr⟩
 case round=>
  clear H';obtain⟨q0,rfl,HA,HK1,⟨m1,rfl⟩⟩:=hrel;obtain⟨k1,rfl,H⟩:=kz gk HA;clear HA;simp only[Ex.l0]at H;replace H:=qe H;obtain⟨r0,H⟩|⟨r0,H⟩:=H
  .replace H:=qd H;obtain⟨s0,H⟩:=H;replace H:=qd H;obtain⟨t0,H⟩:=H;replace H:=qe H;obtain⟨v0,H⟩|⟨v0,H⟩:=H
   .obtain rfl:=sj H;obtain⟨w0,⟨⟩,x0,y0,A0⟩:=ai j0.out q0;go_wp2;go_ret;exact⟨sd,dr⟩
   .replace H:=qg H;obtain⟨B0,H⟩|⟨B0,H⟩:=H
    .obtain rfl:=sj H;obtain⟨w0,⟨⟩,x0,y0,A0⟩:=ai j0.out q0;go_wp2;go_ret;exact⟨sd,dr⟩
    .have H':=qa H;clear H;obtain⟨w0,⟨⟩,x0,y0,A0⟩:=ai j0.out q0;go_wp2
     go_roundg k1
     case measure=>have:=HK1.out;omega
     case rel=>exact⟨(wrap64 (q0+1)),(sd),H',⟨by have:=HK1.out;omega⟩,dr⟩
  .obtain rfl:=sj H;go_wp2;go_ret;exact⟨sd,dr⟩

def Ff.f (k:Nat) (a0:LI):Option (Bool):=(Ex.f k a0 1000000000).bind fun b0=>(some b0)
theorem Ff.c (k:Nat) (a0:OA) (b0:Nat) (c0:LI) (r:Bool) (w:World) (d0:Kd.C ki w a0 c0.length c0) (e0:c0.length<=b0) (h:Ff.f k c0=some r):
  Calls Tryz.prog 78 #[.slice a0 c0.length b0] w fun e w'=>e= .returned (.bool r)/\Drawn0 w w':=by
 have g0:=qa d0;have j0:=qa e0;clear d0 e0;have H:=h;unfold Ff.f at H;clear h;replace H:=qb H;obtain⟨l0,n0,H⟩:=H;obtain rfl:=sj H
 go_enter Tryz.func78,Tryz.ntmps78
 go_wp2_with(first|(refine gd 4 Tryz.func120 (Ex.c k _ _ c0 1000000000 l0 _ (cx g0.out) j0.out n0.out) fun nd=>?_))
 go_ret;exact⟨sd,dr⟩

def Ej.l0:Nat->LL->Int->Int->LI->LL->Option (Bool)
 |0,_,_,_,_,_=>none
 |k+1,a0,b0,c0,d0,e0=>if c0<b0 then(if 0<=c0 then(if c0<(a0.length:Int)then((Ff.f k (Bl a0 c0)).bind fun g0=>(if g0=true then(Ej.l0 k a0 b0 (wrap64 (c0+1)) d0 e0)else(some false)))else(none))else(none))else((Ff.f k d0).bind fun j0=>(if j0=true then(some (decide ((e0.length:Int)<=8)))else(some false)))
def Ej.f (k:Nat) (a0:LI) (b0:LL):Option (Bool):=Ej.l0 k b0 (b0.length:Int) 0 a0 b0
theorem Ej.c (k:Nat) (a0:OA) (b0:Nat) (c0:LI) (d0:OA) (e0:Nat) (g0:LL) (r:Bool) (w:World) (j0:Kd.C ki w a0 c0.length c0) (n0:c0.length<=b0) (p0:Kd.C (Kd.slice 3 ki) w d0 g0.length g0) (q0:g0.length<=e0) (h:Ej.f k c0 g0=some r):
  Calls Tryz.prog 37 #[.agg #[.slice a0 c0.length b0,.slice d0 g0.length e0]] w fun e w'=>e= .returned (.bool r)/\Below w.heap.size w w':=by
 have r0:=Tryz.underlying27;have s0:=qa j0;have t0:=qa n0;clear j0 n0;have v0:=qa p0;have w0:=qa q0;clear p0 q0;have HB:=qa (Below.refl w.heap.size w);have H:=h;unfold Ej.f at H;clear h;have H':=qa H;clear H
 go_enter Tryz.func37,Tryz.ntmps37
 go_wp2_with(first|((with_reducible refine El (N:=1) rfl ?_);(try(refine Ds (by rfl) ?_;dsimp only));refine bx 1 #[.slice a0 c0.length b0,.slice d0 g0.length e0] 27 ?_;intro x0 hg y0 hbox hb;have A0:=qa (hbox);have B0:=gw hg;replace HB:=bs hb;clear hb hbox hg;obtain⟨C0,D0,E0,G0⟩:=qk2 A0))
 go_loopg [8] k (fun kq J0 w'=>∃(K0:Int),J0= .int .i64 K0/\Aside0 (Ej.l0 kq g0 (g0.length:Int) K0 c0 g0=some r)/\Aside0 (kq<=k)/\Aside0 (w'.heap[x0]? =some (.cells #[(.slice a0 c0.length b0),(.slice d0 g0.length e0)] 27 (0,0)))/\Aside0 (Below w.heap.size w w'))
 case atStart=>exact⟨(0),(sd),H',⟨Nat.le_refl _⟩,⟨bk⟩,⟨bl⟩⟩
 case round=>
  clear H';obtain⟨K0,rfl,HA,HK1,A0,HB⟩:=hrel;obtain⟨k1,rfl,H⟩:=kz gk HA;clear HA;simp only[Ej.l0]at H;replace H:=qe H;obtain⟨L0,H⟩|⟨L0,H⟩:=H
  .replace H:=qd H;obtain⟨M0,H⟩:=H;replace H:=qd H;obtain⟨N0,H⟩:=H;replace H:=qb H;obtain⟨P0,Q0,H⟩:=H;replace H:=qc H;obtain⟨rfl,H⟩|⟨rfl,H⟩:=H
   .have H':=qa H;clear H;obtain⟨R0,U0,V0,⟨⟩,W0,X0,Y0,a1,b1⟩:=cg_L1 v0.out K0;(try replace W0:=(HB.out.cell (World.block_lt_of_cell? w _ W0)).trans W0)
    go_wp2_with(first|(refine gd 13 Tryz.func78 (Ff.c k1 _ _ (Bl g0 K0) true _ (cx (Kd.Ai X0.out HB.out)) Y0.out Q0.out) fun nd=>?_))
    go_roundg k1
    case measure=>have:=HK1.out;omega
    case rel=>exact⟨(wrap64 (K0+1)),(sd),H',⟨by have:=HK1.out;omega⟩,⟨bk⟩,⟨bl⟩⟩
   .obtain rfl:=sj H;obtain⟨R0,U0,V0,⟨⟩,W0,X0,Y0,a1,b1⟩:=cg_L1 v0.out K0;(try replace W0:=(HB.out.cell (World.block_lt_of_cell? w _ W0)).trans W0)
    go_wp2_with(first|(refine gd 13 Tryz.func78 (Ff.c k1 _ _ (Bl g0 K0) false _ (cx (Kd.Ai X0.out HB.out)) Y0.out Q0.out) fun nd=>?_))
    go_ret;exact⟨er,bl⟩
  .replace H:=qb H;obtain⟨c1,d1,H⟩:=H;replace H:=qc H;obtain⟨rfl,H⟩|⟨rfl,H⟩:=H
   .obtain rfl:=sj H;obtain⟨e1,g1,j1,l1⟩:=qk2 A0
    go_wp2_with(first|(refine gd 18 Tryz.func78 (Ff.c k1 _ _ c0 true _ (cx (Kd.Ai s0.out HB.out)) t0.out d1.out) fun nd=>?_))
    go_ret;exact⟨er,bl⟩
   .obtain rfl:=sj H;obtain⟨n1,p1,q1,r1⟩:=qk2 A0
    go_wp2_with(first|(refine gd 18 Tryz.func78 (Ff.c k1 _ _ c0 false _ (cx (Kd.Ai s0.out HB.out)) t0.out d1.out) fun nd=>?_))
    go_ret;exact⟨er,bl⟩

-- IMPORT Derived.Lib.SmallJoins
-- IMPORT Derived.Lib.ItoaNum
structure GL (w:World):Prop where
 tab:Lib.TabIs Tryz.prog w "internal/strconv.uint64pow10" .u64 Lib.pow10Tab
 maxlen:∃m,w.cell? ⟨0,0,none⟩=some (.int .i64 m)
 esyn:∃ev,w.cell? ⟨1,0,none⟩=some ev/\(ev= .nilIface \/∃te pe,ev= .iface te pe)
 eran:∃ev,w.cell? ⟨2,0,none⟩=some ev/\(ev= .nilIface \/∃te pe,ev= .iface te pe)
theorem gl_pow:Tryz.prog.globalNamed "internal/strconv.uint64pow10" =some 3:=by kernel_rfl
theorem gl_cell {w w':World} {a:Addr} {v:Value} (h:w.cell? a=some v) (hb:Below w.heap.size w w'):w'.cell? a=some v:=(hb.cell (World.block_lt_of_cell? w _ h)).trans h
theorem Ed {w w':World} (h:GL w) (hb:Below w.heap.size w w'):GL w':=by
 obtain⟨m,hm⟩:=h.maxlen;obtain⟨a0,h1,b0⟩:=h.esyn;obtain⟨c0,h2,d0⟩:=h.eran;exact⟨Joins.tab_stays gl_pow h.tab hb (Nat.le_refl _),⟨m,gl_cell hm hb⟩,⟨a0,gl_cell h1 hb,b0⟩,⟨c0,gl_cell h2 hb,d0⟩⟩

-- GLOBAL
-- IMPORT Derived.Test.YtdmlkjjlgkdnlaaGreatDoorShelf
def Ce.f (a0:Int):Option (BA):=if-9223372036854775808<=a0 then(if a0<=9223372036854775807 then some ⟨(Lib.itoa a0).toArray⟩else none)else none
theorem below_grow_ (w:World) (k:Nat) (os:Array Obj):Below w.heap.size w (Go.Sort.grow (w.drewN k) os):=
 ⟨rfl,rfl,rfl,by show w.heap.size<=(w.heap++os).size;rw[Array.size_append];omega,fun j hj=>by show(w.heap++os)[j]? =w.heap[j]?;rw[Array.getElem?_append_left hj]⟩
theorem Ce.c (a0:Int) (r:BA) (w:World) (h:Ce.f a0=some r) (hG_:GL w):
  Calls Tryz.prog 77 #[.int .i64 a0] w fun e w'=>e= .returned (.string r)/\Below w.heap.size w w':=by
 unfold Ce.f at h
 by_cases h0: -9223372036854775808<=a0
 .rw[if_pos h0]at h
  by_cases h1:a0<=9223372036854775807
  .rw[if_pos h1]at h;obtain rfl:=Option.some.inj h;refine(Tryz.strconv_Itoa a0 h0 h1 w hG_.tab).mono ?_;rintro e w' ⟨rfl,k,os,rfl⟩;exact⟨rfl,below_grow_ w k os⟩
  .rw[if_neg h1]at h;cases h
 .rw[if_neg h0]at h;cases h
mutual
def Bh.j0:Nat->Bool->Int->Int->Int->Option (BA)
 |0,_,_,_,_=>none
 |k+1,a0,b0,c0,d0=>if a0=true then((Ce.f c0).bind fun e0=>(if 4+e0.size<=9223372036854775807 then(if((⟨#[115,101,116,32]⟩:BA)++e0).size +1<=9223372036854775807 then((Ce.f d0).bind fun g0=>(if(((⟨#[115,101,116,32]⟩:BA)++e0)++(⟨#[32]⟩:BA)).size +g0.size<=9223372036854775807 then(some ((((⟨#[115,101,116,32]⟩:BA)++e0)++(⟨#[32]⟩:BA))++g0))else(none)))else(none))else(none)))else(if d0=0 then(if c0<0 then(Bh.j1 k true b0 c0 d0)else(Bh.j1 k (decide (c0>9)) b0 c0 d0))else(Bh.j1 k true b0 c0 d0))
def Bh.j1:Nat->Bool->Int->Int->Int->Option (BA)
 |0,_,_,_,_=>none
 |k+1,l0,b0,c0,d0=>if l0=true then(some (⟨#[]⟩:BA))else(if b0=0 then((Ce.f c0).bind fun n0=>(if 6+n0.size<=9223372036854775807 then(some ((⟨#[116,105,109,101,115,32]⟩:BA)++n0))else(none)))else(if b0=1 then((Ce.f c0).bind fun p0=>(if 8+p0.size<=9223372036854775807 then(some ((⟨#[117,110,105,116,97,114,121,32]⟩:BA)++p0))else(none)))else(if c0=0 then(if b0=2 then(some (⟨#[105,110,118,101,114,115,101]⟩:BA))else(if b0=4 then(some (⟨#[98,97,99,107]⟩:BA))else(some (⟨#[]⟩:BA))))else(some (⟨#[]⟩:BA)))))
end

def Bh.f (k:Nat) (a0:Int) (b0:Int) (c0:Int):Option (BA):=if a0=3 then(if b0>=0 then(if b0<=99 then(if c0>=0 then(Bh.j0 k (decide (c0<=9999)) a0 b0 c0)else(Bh.j0 k false a0 b0 c0))else(Bh.j0 k false a0 b0 c0))else(Bh.j0 k false a0 b0 c0))else(Bh.j0 k false a0 b0 c0)
def Bh.T2:Bool×List (List Nat×List Nat):=(true,[([],[]),([0],[0]),([1],[1]),([2],[2]),([3],[3]),([],[]),([5],[5]),([6,2],[6]),([4,7],[4,7]),([8,7,0,1,2,3,4,5,6,7,8],[8])])
def Bh.B2:List Nat:=[0,1,3,7,15,0,32,103,255,511]
theorem Bh.tab2:rtab .any (opsOf Tryz.f33 2)=Bh.T2:=by kernel_rfl
theorem Bh.bits2:Gg Bh.T2.2 Bh.B2=true:=by kernel_rfl
theorem Bh.c (k:Nat) (a0:Int) (b0:Int) (c0:Int) (r:BA) (w:World) (h:Bh.f k a0 b0 c0=some r) (hG_:GL w):
  Calls Tryz.prog 33 #[.agg #[.int .i64 a0,.int .i64 b0,.int .i64 c0]] w fun e w'=>e= .returned (.string r)/\Below w.heap.size w w':=by
 have d0:=Tryz.underlying55;have HB:=qa (Below.refl w.heap.size w);have H:=h;unfold Bh.f at H;clear h;have e0:=qa H;clear H
 go_enter Tryz.func33,Tryz.ntmps33
 go_upto_region 1 with(go_big_may;first|(refine bx 1 #[.int .i64 a0,.int .i64 b0,.int .i64 c0] 55 ?_;intro g0 hg l0 hbox hb;have n0:=qa (hbox);have p0:=gw hg;replace HB:=bs hb;clear hb hbox hg))
 (try simp only[Act.put,sA,sZ,sS])
 go_cut [3] (fun q0 wc=>∃(kq:Nat) (r0:Bool),q0= .bool r0/\Aside0 (Bh.j0 kq r0 a0 b0 c0=some r)/\Aside0 (kq<=k)/\Aside0 (wc.heap[g0]? =some (.cells #[.int .i64 a0,.int .i64 b0,.int .i64 c0] 55 (0,0)))/\Aside0 (Below w.heap.size w wc))
 case first=>
  have H:=e0.out;clear e0;replace H:=qq H;obtain⟨s0,t0,H⟩|⟨v0,s0,t0,H⟩:=H
  ·(first|rw[s0]|(simp only[Bv,Fc];rw[s0])|skip);replace H:=qu H;obtain⟨w0,H⟩|⟨w0,H⟩:=H
   .replace H:=qe H;obtain⟨x0,H⟩|⟨x0,H⟩:=H
    .replace H:=qu H;obtain⟨y0,H⟩|⟨y0,H⟩:=H
     .have H':=qa H;clear H;obtain⟨A0,B0,C0,D0,E0,G0⟩:=qk3 n0;go_wp2;go_meet
      case rel=>exact⟨_,(decide (c0<=9999)),(sd),H',⟨by first|omega|exact Nat.le_refl _⟩,⟨bk⟩,⟨bl⟩⟩
     .have H':=qa H;clear H;obtain⟨J0,K0,L0,M0,N0,P0⟩:=qk3 n0;go_wp2;go_meet
      case rel=>exact⟨_,(false),(sd),H',⟨by first|omega|exact Nat.le_refl _⟩,⟨bk⟩,⟨bl⟩⟩
    .have H':=qa H;clear H;obtain⟨Q0,R0,U0,V0,W0,X0⟩:=qk3 n0;go_wp2;go_meet
     case rel=>exact⟨_,(false),(sd),H',⟨by first|omega|exact Nat.le_refl _⟩,⟨bk⟩,⟨bl⟩⟩
   .have H':=qa H;clear H;obtain⟨Y0,a1,b1,c1,d1,e1⟩:=qk3 n0;go_wp2;go_meet
    case rel=>exact⟨_,(false),(sd),H',⟨by first|omega|exact Nat.le_refl _⟩,⟨bk⟩,⟨bl⟩⟩
  ·(first|rw[s0]|(simp only[Bv,Fc];rw[s0])|skip);have H':=qa H;clear H;obtain⟨g1,l1,n1,p1,q1,r1⟩:=qk3 n0;go_wp2;go_meet
   case rel=>exact⟨_,(false),(sd),H',⟨by first|omega|exact Nat.le_refl _⟩,⟨bk⟩,⟨bl⟩⟩
 case rest=>
  clear e0;obtain⟨kq,r0,rfl,HA,s1,n0,HB⟩:=hcut;obtain⟨t1,rfl,H⟩:=kz kq HA;clear HA;simp only[Bh.j0]at H;replace H:=qc H;obtain⟨rfl,H⟩|⟨rfl,H⟩:=H
  .replace H:=qb H;obtain⟨v1,w1,H⟩:=H;replace H:=qN H;obtain⟨x1,y1,A1,B1,H⟩:=H;replace H:=qN H;obtain⟨C1,D1,E1,G1,H⟩:=H
   try(have c16bq:=G1;simp only[ByteArray.size_append,show(⟨#[115,101,116,32]⟩:BA).size =4 from rfl]at c16bq)
   replace H:=qb H;obtain⟨J1,K1,H⟩:=H;replace H:=qN H;obtain⟨L1,M1,N1,P1,H⟩:=H
   try(have c18bq:=P1;simp only[ByteArray.size_append,show(⟨#[115,101,116,32]⟩:BA).size =4 from rfl,show(⟨#[32]⟩:BA).size =1 from rfl]at c18bq)
   obtain rfl:=sj H
   try go_wp2
   replace n0:=qa (Ak n0.out);replace HB:=qa (Dd HB.out);refine Hq (n:=10) (S:=fun w'=>w'.cell? ⟨g0,0,none⟩=some (.int .i64 a0)/\w'.cell? ⟨g0,1,none⟩=some (.int .i64 b0)/\w'.cell? ⟨g0,2,none⟩=some (.int .i64 c0)) (ds:=[]) _ kr_ rfl rfl ⟨bc n0 0,bc n0 1,bc n0 2⟩ (fun hHeld=>?_);refine Gd Bh.tab2 Bh.bits2 (fun HT_ HW_=>?_);generalize wc.drew=Q1 at n0 HB hHeld ⊢;refine pur 0 27 (bz 10 1) HT_ ?_;refine pur 5 32 (bz 10 33) HT_ ?_;refine tk 1 28 (bz 10 35) hHeld (Ez HT_.out HW_.out kr_) ?_;refine tk 6 33 (bz 10 99) hHeld (Ez HT_.out HW_.out kr_) ?_;(refine o1 2 (some 29) (bz 10 103) (Dr HT_.out kr_) fun K hK=>?_);(refine gsb Tryz.func77 (Ce.c b0 v1 _ w1.out (Ed hG_ (bl))) fun R1 hb=>?_);replace n0:=qbb n0 hb;replace HB:=bs hb;(try clear hb);(try clear U1);(try clear hk);(try clear hi);refine hK.out _ _ ⟨bc n0 0,bc n0 1,bc n0 2⟩ (fun hHeld=>?_);clear hK K;refine nm 29 ?_;refine pur 3 30 (bz 10 111) HT_ ?_;refine pur 4 31 (bz 10 127) HT_ ?_;(refine o1 7 (some 34) (bz 10 255) (Dr HT_.out kr_) fun K hK=>?_);(refine gsb Tryz.func77 (Ce.c c0 J1 _ K1.out (Ed hG_ (bl))) fun V1 hb=>?_);replace n0:=qbb n0 hb;replace HB:=bs hb;(try clear hb);(try clear U1);(try clear hk);(try clear hi);refine hK.out _ _ ⟨bc n0 0,bc n0 1,bc n0 2⟩ (fun hHeld=>?_);clear hK K;refine nm 34 ?_;refine pur 8 35 (bz 10 511) HT_ ?_;refine pur 9 2 (bz 10 1023) HT_ ?_;refine Ka (Hs HT_.out kr_) ?_
   try go_wp2
   go_ret;exact⟨er,bl⟩
  .have W1:=qa H;clear H
   go_upto_region 3 with(fail)
   go_cut [36] (fun X1 wc=>∃(kq:Nat) (Y1:Bool),X1= .bool Y1/\Aside0 (Bh.j1 kq Y1 a0 b0 c0=some r)/\Aside0 (kq<=t1)/\Aside0 (wc.heap[g0]? =some (.cells #[.int .i64 a0,.int .i64 b0,.int .i64 c0] 55 (0,0)))/\Aside0 (Below w.heap.size w wc))
   case first=>
    have H:=W1.out;clear W1;replace H:=qq H;obtain⟨a2,b2,H⟩|⟨c2,a2,b2,H⟩:=H
    ·(first|rw[a2]|(simp only[Bv,Fc];rw[a2])|skip);replace H:=qe H;obtain⟨d2,H⟩|⟨d2,H⟩:=H
     .have H':=qa H;clear H;obtain⟨e2,g2,j2,l2,n2,p2⟩:=qk3 n0;go_wp2;go_meet
      case rel=>exact⟨_,(true),(sd),H',⟨by have:=s1.out;first|omega|exact Nat.le_refl _⟩,⟨bk⟩,⟨bl⟩⟩
     .have H':=qa H;clear H;obtain⟨q2,r2,s2,t2,v2,w2⟩:=qk3 n0;go_wp2;go_meet
      case rel=>exact⟨_,(decide (b0>9)),(sd),H',⟨by have:=s1.out;first|omega|exact Nat.le_refl _⟩,⟨bk⟩,⟨bl⟩⟩
    ·(first|rw[a2]|(simp only[Bv,Fc];rw[a2])|skip);have H':=qa H;clear H;obtain⟨x2,y2,A2,B2,C2,D2⟩:=qk3 n0;go_wp2;go_meet
     case rel=>exact⟨_,(true),(sd),H',⟨by have:=s1.out;first|omega|exact Nat.le_refl _⟩,⟨bk⟩,⟨bl⟩⟩
   case rest=>
    clear W1;obtain⟨kq,Y1,rfl,HA,E2,n0,HB⟩:=hcut;obtain⟨G2,rfl,H⟩:=kz kq HA;clear HA;simp only[Bh.j1]at H;replace H:=qc H;obtain⟨rfl,H⟩|⟨rfl,H⟩:=H
    .obtain rfl:=sj H;go_wp2;go_ret;exact⟨er,bl⟩
    .replace H:=qq H;obtain⟨J2,K2,H⟩|⟨L2,J2,K2,H⟩:=H
     .replace H:=qb H;obtain⟨M2,N2,H⟩:=H;replace H:=qN H;obtain⟨P2,Q2,R2,U2,H⟩:=H;obtain rfl:=sj H;obtain⟨V2,W2,X2,Y2,a3,b3⟩:=qk3 n0
      go_wp2_with(first|(refine gb 56 Tryz.func77 (Ce.c b0 M2 _ N2.out (Ed hG_ (bl))) fun c3 hb=>?_;replace n0:=qbb n0 hb;replace HB:=bs hb))
      go_ret;exact⟨er,bl⟩
     .replace H:=qq H;obtain⟨d3,e3,H⟩|⟨g3,d3,e3,H⟩:=H
      .replace H:=qb H;obtain⟨j3,l3,H⟩:=H;replace H:=qN H;obtain⟨n3,p3,q3,r3,H⟩:=H;obtain rfl:=sj H;obtain⟨s3,t3,v3,w3,x3,y3⟩:=qk3 n0
       go_wp2_with(first|(refine gb 64 Tryz.func77 (Ce.c b0 j3 _ l3.out (Ed hG_ (bl))) fun A3 hb=>?_;replace n0:=qbb n0 hb;replace HB:=bs hb))
       go_ret;exact⟨er,bl⟩
      .replace H:=qq H;obtain⟨B3,C3,H⟩|⟨D3,B3,C3,H⟩:=H
       .replace H:=qq H;obtain⟨E3,G3,H⟩|⟨J3,E3,G3,H⟩:=H
        .obtain rfl:=sj H;obtain⟨K3,L3,M3,N3,P3,Q3⟩:=qk3 n0;go_wp2;go_ret;exact⟨er,bl⟩
        .replace H:=qq H;obtain⟨R3,U3,H⟩|⟨V3,R3,U3,H⟩:=H
         .obtain rfl:=sj H;obtain⟨W3,X3,Y3,a4,b4,c4⟩:=qk3 n0;go_wp2;go_ret;exact⟨er,bl⟩
         .obtain rfl:=sj H;obtain⟨d4,e4,g4,j4,l4,n4⟩:=qk3 n0;go_wp2;go_ret;exact⟨er,bl⟩
       .obtain rfl:=sj H;obtain⟨p4,q4,r4,s4,t4,v4⟩:=qk3 n0;go_wp2;go_ret;exact⟨er,bl⟩

-- GLOBAL
-- IMPORT Derived.Test.YtdmlkjjlgkdnlaaGreatDoorShelf
def Iq.f (a0 b0:BA):Option LB:=if a0.size<4294967281 then(if 1<=b0.size then some (Lib.splitB b0 0 (Lib.countB a0 b0) a0)else none)else none
theorem Iq.c (a0:BA) (b0:BA) (r:LB) (w:World) (h:Iq.f a0 b0=some r) (hG_:GL w):
  Calls Tryz.prog 92 #[.string a0,.string b0] w fun e w'=>∃v0_:Value,e= .returned (v0_)/\Kd.R Kd.string 9 w' w.heap.size (fun _=>True) v0_ r/\Below w.heap.size w w':=by
 unfold Iq.f at h
 by_cases h0:a0.size<4294967281
 .rw[if_pos h0]at h
  by_cases h1:1<=b0.size
  .rw[if_pos h1]at h;obtain rfl:=Option.some.inj h;obtain⟨m,hm⟩:=hG_.maxlen;refine(Tryz.strings_Split a0 b0 m w h0 hm h1).mono ?_;rintro e w' ⟨rfl,rfl⟩;have hl:=Lib.splitB_all b0 h1 0 _ a0 rfl;have hc:=Lib.countB_le b0 h1 a0.size a0 (Nat.le_refl _);refine⟨_,rfl,?_,Fg (Below.refl _ _) _⟩;refine Kd.R_of_own (enc:=Value.string) (h1:=fun _=>rfl) ⟨by rw[encs_length,Nat.mul_one],.inr ⟨w.heap.size,Lib.countB a0 b0+1,((Lib.splitB b0 0 (Lib.countB a0 b0) a0).map Value.string).toArray,by rw[hl],Nat.le_refl _,?_,by rw[hl];exact Nat.le_refl _,?_,?_,?_⟩⟩ (fun _ _=>trivial)
   .show(w.heap.push _)[w.heap.size]? =_
    simp
   .have:maxLen=9223372036854775807:=rfl
    omega
   .simp[hl]
   .rw[Nat.mul_one];unfold encs;exact List.take_of_length_le (by simp)
  .rw[if_neg h1]at h;cases h
 .rw[if_neg h0]at h;cases h

def Ax.l0:Nat->LB->BA->Int->Int->Option (Int)
 |0,_,_,_,_=>none
 |k+1,a0,b0,c0,d0=>if d0<c0 then(if 0<=d0 then(if d0<(a0.length:Int)then(if b0.toList=(rdOf ByteArray.empty a0 d0).toList then(some d0)else(Ax.l0 k a0 b0 c0 (wrap64 (d0+1))))else(none))else(none))else(some (-1))
def Ax.f (k:Nat) (a0:LB) (b0:BA):Option (Int):=Ax.l0 k a0 b0 (a0.length:Int) 0
theorem Ax.c (k:Nat) (a0:OA) (b0:Nat) (c0:LB) (d0:BA) (r:Int) (w:World) (e0:Kd.C Kd.string w a0 c0.length c0) (g0:c0.length<=b0) (h:Ax.f k c0 d0=some r):
  Calls Tryz.prog 93 #[.slice a0 c0.length b0,.string d0] w fun e w'=>e= .returned (.int .i64 r)/\Drawn0 w w':=by
 have j0:=qa e0;have n0:=qa g0;clear e0 g0;have H:=h;unfold Ax.f at H;clear h;have H':=qa H;clear H
 go_enter Tryz.func93,Tryz.ntmps93
 go_wp2
 go_loopg [8] k (fun kq p0 w'=>∃(q0:Int),p0= .int .i64 q0/\Aside0 (Ax.l0 kq c0 d0 (c0.length:Int) q0=some r)/\Aside0 (kq<=k)/\Drawn0 w w')
 case atStart=>exact⟨(0),(sd),H',⟨Nat.le_refl _⟩,dr⟩
 case round=>
  clear H';obtain⟨q0,rfl,HA,HK1,⟨m1,rfl⟩⟩:=hrel;obtain⟨k1,rfl,H⟩:=kz gk HA;clear HA;simp only[Ax.l0]at H;replace H:=qe H;obtain⟨r0,H⟩|⟨r0,H⟩:=H
  .replace H:=qd H;obtain⟨s0,H⟩:=H;replace H:=qd H;obtain⟨t0,H⟩:=H;replace H:=qq H;obtain⟨v0,w0,H⟩|⟨x0,v0,w0,H⟩:=H
   .obtain rfl:=sj H;obtain⟨y0,⟨⟩,A0,B0,C0⟩:=as_ j0.out q0;go_wp2;go_ret;exact⟨sd,dr⟩
   .have H':=qa H;clear H;obtain⟨y0,⟨⟩,A0,B0,C0⟩:=as_ j0.out q0;go_wp2
    go_roundg k1
    case measure=>have:=HK1.out;omega
    case rel=>exact⟨(wrap64 (q0+1)),(sd),H',⟨by have:=HK1.out;omega⟩,dr⟩
  .obtain rfl:=sj H;go_wp2;go_ret;exact⟨sd,dr⟩

-- GLOBAL
-- IMPORT Derived.Test.YtdmlkjjlgkdnlaaGreatDoorShelf
def Cf.val (s:BA):Int:=match Lib.atoiAll s.data.toList with
 | .ok v=>v
 | .range =>Lib.atoiSat s.data.toList
 |_=>0
def Cf.err (s:BA):Option Int:=match Lib.atoiAll s.data.toList with
 | .ok _=>none
 |_=>some 0
def Cf.f (a0:BA):Option (Int×Option Int):=if a0.size<=281474976710656 then some (Cf.val a0,Cf.err a0)else none
theorem Cf.c (a0:BA) (b0:Int) (c0:Option Int) (w:World) (h:Cf.f a0=some (b0,c0)) (hG_:GL w):
  Calls Tryz.prog 94 #[.string a0] w fun e w'=>∃ev:Value,((c0=none/\ev= .nilIface)\/(c0≠none/\∃te pe,ev= .iface te pe))/\e= .returned (.tuple #[.int .i64 b0,ev])/\Below w.heap.size w w':=by
 unfold Cf.f at h
 by_cases h0:a0.size<=281474976710656
 .rw[if_pos h0]at h;have d0:Cf.val a0=b0:=congrArg (·.1) (Option.some.inj h);have e0:Cf.err a0=c0:=congrArg (·.2) (Option.some.inj h);unfold Cf.val at d0;unfold Cf.err at e0
  rcases ha:Lib.atoiAll a0.data.toList with v|_|_
  .rw[ha]at d0 e0;refine(Tryz.strconv_Atoi_ok a0 ko_ v ha w).mono ?_;rintro e w' ⟨rfl,hw⟩;refine⟨_,.inl ⟨e0.symm,rfl⟩,by rw[<-d0],?_⟩
   rcases hw with rfl|⟨t,rfl⟩
   .exact Below.refl _ _
   .exact Lib.bytesWorld_below _ _ _
  .rw[ha]at d0 e0;obtain⟨ev,h1,h2⟩:=hG_.esyn;refine(Tryz.strconv_Atoi_syntax a0 h0 ha ev w h1 h2).mono ?_;rintro e w' ⟨N,rfl,_,_,hb⟩;exact⟨_,.inr ⟨by rw[<-e0];simp,_,_,rfl⟩,by rw[<-d0],hb⟩
  .rw[ha]at d0 e0;obtain⟨ev,h1,h2⟩:=hG_.eran;refine(Tryz.strconv_Atoi_range a0 h0 ha ev w h1 h2).mono ?_;rintro e w' ⟨N,rfl,_,_,hb⟩;exact⟨_,.inr ⟨by rw[<-e0];simp,_,_,rfl⟩,by rw[<-d0],hb⟩
 .rw[if_neg h0]at h;cases h
theorem ev0_ {ev:Value} (h:((none:Option Int)=none/\ev= .nilIface)\/((none:Option Int)≠none/\∃te pe,ev= .iface te pe)):ev= .nilIface :=h.elim (·.2) fun z=>absurd rfl z.1
theorem ev1_ {c:Int} {ev:Value} (h:(some c=none/\ev= .nilIface)\/(some c≠none/\∃te pe,ev= .iface te pe)):∃te pe,ev= .iface te pe:=h.elim (fun z=>by cases z.1) (·.2)
mutual
def Dc.j0:Nat->BA->LB->Int->Bool->Option (Int×Int×Int×Bool)
 |0,_,_,_,_=>none
 |k+1,a0,b0,c0,d0=>if d0=true then(some (0,0,0,false))else((some (([0,1,2,3,4]:LI):LI)).bind fun e0=>(if 0<=c0 then(if c0<(e0.length:Int)then(if(b0.length:Int)>1 then(if 1<(b0.length:Int)then((Cf.f (rdOf ByteArray.empty b0 1)).bind fun g0=>(Dc.j1 k a0 b0 (rd e0 c0) g0.1 0))else(none))else(Dc.j1 k a0 b0 (rd e0 c0) 0 0))else(none))else(none)))
def Dc.j1:Nat->BA->LB->Int->Int->Int->Option (Int×Int×Int×Bool)
 |0,_,_,_,_,_=>none
 |k+1,a0,b0,l0,n0,p0=>if(b0.length:Int)>2 then(if 2<(b0.length:Int)then((Cf.f (rdOf ByteArray.empty b0 2)).bind fun q0=>((Bh.f k l0 n0 q0.1).bind fun r0=>(if r0.toList=a0.toList then(some (l0,n0,q0.1,true))else(some (0,0,0,false)))))else(none))else((Bh.f k l0 n0 p0).bind fun s0=>(if s0.toList=a0.toList then(some (l0,n0,p0,true))else(some (0,0,0,false))))
end

def Dc.f (k:Nat) (a0:BA):Option (Int×Int×Int×Bool):=(Iq.f a0 (⟨#[32]⟩:BA)).bind fun b0=>(if 0<(b0.length:Int)then((Ax.f k (([(⟨#[116,105,109,101,115]⟩:BA),(⟨#[117,110,105,116,97,114,121]⟩:BA),(⟨#[105,110,118,101,114,115,101]⟩:BA),(⟨#[115,101,116]⟩:BA),(⟨#[98,97,99,107]⟩:BA)]:LB)) (rdOf ByteArray.empty b0 0)).bind fun c0=>(if c0<0 then(Dc.j0 k a0 b0 c0 true)else(Dc.j0 k a0 b0 c0 (decide ((b0.length:Int)>3)))))else(none))
theorem Dc.c (k:Nat) (a0:BA) (b0:Int) (c0:Int) (d0:Int) (e0:Bool) (w:World) (h:Dc.f k a0=some (b0,c0,d0,e0)) (hG_:GL w):
  Calls Tryz.prog 52 #[.string a0] w fun e w'=>e= .returned (.tuple #[.agg #[.int .i64 b0,.int .i64 c0,.int .i64 d0],.bool e0])/\Below w.heap.size w w':=by
 have g0:=Tryz.underlying55;have HB:=qa (Below.refl w.heap.size w);have H:=h;unfold Dc.f at H;clear h;replace H:=qb H;obtain⟨l0,n0,H⟩:=H;obtain⟨p0,hy_⟩:∃y_:LB,y_=(([(⟨#[116,105,109,101,115]⟩:BA),(⟨#[117,110,105,116,97,114,121]⟩:BA),(⟨#[105,110,118,101,114,115,101]⟩:BA),(⟨#[115,101,116]⟩:BA),(⟨#[98,97,99,107]⟩:BA)]:LB)):=⟨_,rfl⟩;replace H:(if 0<(l0.length:Int)then((Ax.f k p0 (rdOf ByteArray.empty l0 0)).bind fun q0=>(if q0<0 then(Dc.j0 k a0 l0 q0 true)else(Dc.j0 k a0 l0 q0 (decide ((l0.length:Int)>3)))))else(none))=some (b0,c0,d0,e0):=yh;have r0:=qa hy_;clear hy_
 by_cases s0:0<(l0.length:Int)
 .rw[if_pos s0]at H;have t0:decide (0<(l0.length:Int))=true:=decide_eq_true s0;have v0:decide (0<l0.length)=true:=decide_eq_true ko_;clear s0;replace H:=qb H;obtain⟨q0,w0,H⟩:=H;have x0:=qa H;clear H
  go_enter Tryz.func52,Tryz.ntmps52
  go_upto_region 3 with(go_big_may;first|((with_reducible refine El (N:=2) rfl ?_);(try(refine Ds (by rfl) ?_;dsimp only));refine bx 2 #[.int .i64 0,.int .i64 0,.int .i64 0] 55 ?_;intro y0 hg A0 hbox hb;have B0:=qa (hbox);have C0:=gw hg;replace HB:=bs hb;clear hb hbox hg)|(refine ge_ 8 Tryz.func92 (Iq.c a0 (⟨#[32]⟩:BA) l0 _ n0.out (Ed hG_ (bl))) fun D0 E0 G0 hb=>?_;have J0:=lR G0;replace B0:=qbb B0 hb;replace HB:=bs hb)|(refine rls 9 9 r0.out fun K0 L0 M0 hb=>?_;have N0:=lR (Kd.Cl M0 (Kd.R_lt (kR J0)));replace J0:=eR J0 (Kd.Av M0) hb;replace B0:=qbb B0 hb;replace HB:=bs hb;clear hb M0;obtain⟨P0,Q0,rfl⟩:=Kd.An J0.out;obtain⟨R0,⟨⟩,U0,qi120,V0,W0⟩:=asn 0 (Kd.Ab J0.out).2.2 0;(try rw[Addr.add_zero']at U0);obtain⟨X0,Y0,rfl⟩:=Kd.An N0.out)|(refine gd 13 Tryz.func93 (Ax.c k _ _ p0 (rdOf ByteArray.empty l0 0) q0 _ (cx (Kd.Ab N0.out).2.2) ((Kd.Ab N0.out).2.1) w0.out) fun nd=>?_))
  (try simp only[Act.put,sA,sZ,sS])
  go_cut [20] (fun a1 wc=>∃(kq:Nat) (b1:Bool),a1= .bool b1/\Aside0 (Dc.j0 kq a0 l0 q0 b1=some (b0,c0,d0,e0))/\Aside0 (kq<=k)/\Aside0 (Kd.R Kd.string 9 wc w.heap.size (fun _=>True) (.slice (some R0) l0.length Q0) l0)/\Aside0 (wc.heap[y0]? =some (.cells #[.int .i64 0,.int .i64 0,.int .i64 0] 55 (0,0)))/\Aside0 (Below w.heap.size w wc))
  case first=>
   have H:=x0.out;clear x0;replace H:=qe H;obtain⟨c1,H⟩|⟨c1,H⟩:=H
   ·(first|rw[c1]|(simp only[Bv,Fc];rw[c1])|skip);have H':=qa H;clear H;go_wp2;go_meet
    case rel=>exact⟨_,(true),(sd),H',⟨by first|omega|exact Nat.le_refl _⟩,⟨mR J0 (fun _ hk=>trivial)⟩,⟨bk⟩,⟨bl⟩⟩
   ·(first|rw[c1]|(simp only[Bv,Fc];rw[c1])|skip);have H':=qa H;clear H;go_wp2;go_meet
    case rel=>exact⟨_,(decide ((l0.length:Int)>3)),(sd),H',⟨by first|omega|exact Nat.le_refl _⟩,⟨mR J0 (fun _ hk=>trivial)⟩,⟨bk⟩,⟨bl⟩⟩
  case rest=>
   clear x0;obtain⟨kq,b1,rfl,HA,d1,e1,B0,HB⟩:=hcut;obtain⟨g1,rfl,H⟩:=kz kq HA;clear HA;simp only[Dc.j0]at H;replace H:=qc H;obtain⟨rfl,H⟩|⟨rfl,H⟩:=H
   .simp only[Option.some.injEq,Prod.mk.injEq]at H;obtain⟨rfl,rfl,rfl,rfl⟩:=H;obtain⟨l1,n1,p1,q1,r1,s1⟩:=qk3 B0;go_wp2;refine bodyPost_ret (Da rfl _ _ y0 55 #[.int .i64 0,.int .i64 0,.int .i64 0] (0,0) _ rfl (kP B0) Tryz.underlying55 rfl kr_) rfl ?_;exact⟨er,bl⟩
   .replace H:=qs H;obtain⟨t1,v1,H⟩:=H;replace H:=qd H;obtain⟨w1,H⟩:=H;replace H:=qd H;obtain⟨x1,H⟩:=H;have y1:=qa H;clear H
    go_upto_if 29 with(go_big_may;first|(refine rli .i64 3 22 v1.out fun A1 B1 C1 hb=>?_;replace e1:=bR e1 hb;have D1:=lR C1;replace B0:=qbb B0 hb;replace HB:=bs hb;clear hb C1;obtain⟨E1,G1,rfl⟩:=Kd.An D1.out;obtain⟨J1,⟨⟩,K1,L1,M1⟩:=ai (Kd.Ab D1.out).2.2 q0)|((with_reducible refine El (N:=6) rfl ?_);(try(refine Ds (by rfl) ?_;dsimp only));refine bx 6 #[.int .i64 0,.int .i64 0,.int .i64 0] 55 ?_;intro N1 hg P1 hbox hb;replace e1:=bR e1 hb;replace D1:=bR D1 hb;have Q1:=qa (hbox);have R1:=gw hg;replace HB:=bs hb;obtain⟨U1,V1⟩:=qnn hg B0;replace B0:=qbb B0 hb;clear hb hbox hg;obtain⟨_,_⟩:=o2 V1 U1;obtain⟨W1,X1,Y1,a2,b2,c2⟩:=qk3 Q1))
    (try simp only[Act.put,sA,sZ,sS])
    go_cut [] (fun wc=>∃(kq:Nat) (d2:Int),Aside0 (Dc.j1 kq a0 l0 (rd t1 q0) d2 0=some (b0,c0,d0,e0))/\Aside0 (kq<=g1)/\Aside0 (Kd.R Kd.string 9 wc w.heap.size (fun _=>True) (.slice (some R0) l0.length Q0) l0)/\Aside0 (wc.heap[y0]? =some (.cells #[.int .i64 0,.int .i64 0,.int .i64 0] 55 (0,0)))/\Aside0 (wc.heap[N1]? =some (.cells #[.int .i64 (rd t1 q0),.int .i64 d2,.int .i64 0] 55 (0,0)))/\Aside0 (Below w.heap.size w wc))
    case first=>
     have H:=y1.out;clear y1
     by_cases e2:(l0.length:Int)>1
     .rw[if_pos e2]at H;have g2:decide (1<(l0.length:Int))=true:=decide_eq_true e2;have j2:decide (1<l0.length)=true:=decide_eq_true ko_;clear e2;(first|rw[g2]|(simp only[Bv,Fc];rw[g2])|skip);replace H:=qL 1 H;obtain⟨l2,n2,H⟩:=H;replace H:=qb H;obtain⟨⟨p2,q2⟩,r2,H⟩:=H;(try dsimp only at H);have H':=qa H;clear H;have s2:0<=(1:Int):=ko_;have t2:1<(l0.length:Int):=qo;obtain⟨v2,w2,x2⟩:=Kd.Hz (Kd.Ab e1.out).2.2 1 s2 t2;obtain rfl:R0=v2:=(by injection w2);(try simp only[show(1:Int).toNat =1 from rfl,Nat.reduceMul,Nat.reduceEqDiff,Go.Addr.add,↓reduceIte]at x2);have qi127:(1<l0.length)=True:=eq_true ko_;(try rw[show((1:Int)).toNat =1 from rfl]at x2);have y2:R0.block≠N1:=Kd.own_blk (Kd.R_ne e1.out Q1.out kd_);have A2:R0.block≠N1:=Kd.own_blk (Kd.R_ne e1.out Q1.out kd_);have B2:R0.block≠N1:=Kd.own_blk (Kd.R_ne e1.out Q1.out kd_);replace x2:=(cell_far (p:=⟨N1,0,none⟩) (by first|(rw[add_block];exact y2)|(show(Addr.add _ _).block ≠_;rw[add_block];exact y2)|exact y2) (.int .i64 (rd t1 q0))).trans x2;replace x2:=(cell_far (p:=⟨N1,1,none⟩) (by first|(rw[add_block];exact A2)|(show(Addr.add _ _).block ≠_;rw[add_block];exact A2)|exact A2) (.int .i64 0)).trans x2;replace x2:=(cell_far (p:=⟨N1,2,none⟩) (by first|(rw[add_block];exact B2)|(show(Addr.add _ _).block ≠_;rw[add_block];exact B2)|exact B2) (.int .i64 0)).trans x2;clear y2;clear A2;clear B2;replace s2:=eq_true s2;replace t2:=eq_true t2
      go_wp2_with(first|(refine gol (some 34) Tryz.func94 #[.string (rdOf ByteArray.empty l0 1)] ?_;(with_reducible refine(Cf.c (rdOf ByteArray.empty l0 1) p2 q2 _ r2.out ?C2).mono ?_);(case C2=>exact Ed hG_ (bl));rintro e D2 ⟨ev_,hev_,rfl,hb⟩;refine⟨_,rfl,?_⟩;replace e1:=qa (Kd.Ey (kFR e1 Q1 (fun _ h_=>h_.1)) hb);replace D1:=qa (Kd.Ey (kFR D1 Q1 (fun _ h_=>h_.1)) hb);replace B0:=qbb B0 hb;replace Q1:=qa (Fb (g:=N1) (o:= .cells #[.int .i64 (rd t1 q0),.int .i64 0,.int .i64 0] 55 (0,0)) (kP Q1) hb);replace HB:=bs hb;(try simp only[Ca,Bz]);obtain⟨_,_⟩:=o2 V1 U1;obtain⟨E2,G2,J2,K2,L2,M2⟩:=qk3 Q1))
      go_meet
      case rel=>exact⟨_,(p2),H',⟨by have:=d1.out;first|omega|exact Nat.le_refl _⟩,⟨kFR e1 Q1 (fun _ hk=>trivial)⟩,⟨kb B0⟩,⟨kP Q1⟩,⟨bl⟩⟩
     .rw[if_neg e2]at H;have g2:decide (1<(l0.length:Int))=false:=decide_eq_false e2;have j2:decide (1<l0.length)=false:=decide_eq_false ko_;clear e2;(first|rw[g2]|(simp only[Bv,Fc];rw[g2])|skip);have H':=qa H;clear H;go_wp2;go_meet
      case rel=>exact⟨_,(0),H',⟨by have:=d1.out;first|omega|exact Nat.le_refl _⟩,⟨kFR e1 Q1 (fun _ hk=>trivial)⟩,⟨kb B0⟩,⟨kP Q1⟩,⟨bl⟩⟩
    case rest=>
     clear y1;obtain⟨kq,d2,HA,N2,e1,B0,Q1,HB⟩:=hcut;obtain⟨P2,rfl,H⟩:=kz kq HA;clear HA;simp only[Dc.j1]at H
     by_cases Q2:(l0.length:Int)>2
     .rw[if_pos Q2]at H;have R2:decide (2<(l0.length:Int))=true:=decide_eq_true Q2;have U2:decide (2<l0.length)=true:=decide_eq_true ko_;clear Q2;replace H:=qL 2 H;obtain⟨V2,W2,H⟩:=H;replace H:=qb H;obtain⟨⟨X2,Y2⟩,a3,H⟩:=H;(try dsimp only at H);replace H:=qb H;obtain⟨b3,c3,H⟩:=H;replace H:=qq H;obtain⟨d3,e3,H⟩|⟨g3,d3,e3,H⟩:=H
      .simp only[Option.some.injEq,Prod.mk.injEq]at H;obtain⟨rfl,rfl,rfl,rfl⟩:=H;have j3:0<=(2:Int):=ko_;have l3:2<(l0.length:Int):=qo;obtain⟨n3,p3,q3⟩:=Kd.Hz (Kd.Ab e1.out).2.2 2 j3 l3;obtain rfl:R0=n3:=(by injection p3);(try simp only[show(2:Int).toNat =2 from rfl,Nat.reduceMul,Nat.reduceEqDiff,Go.Addr.add,↓reduceIte]at q3);have qi130:(2<l0.length)=True:=eq_true ko_;(try rw[show((2:Int)).toNat =2 from rfl]at q3);replace j3:=eq_true j3;replace l3:=eq_true l3
       go_wp2_with(first|(refine gol (some 45) Tryz.func94 #[.string (rdOf ByteArray.empty l0 2)] ?_;(with_reducible refine(Cf.c (rdOf ByteArray.empty l0 2) X2 Y2 _ a3.out ?C2).mono ?_);(case C2=>exact Ed hG_ (bl));rintro e r3 ⟨ev_,hev_,rfl,hb⟩;refine⟨_,rfl,?_⟩;replace e1:=bR e1 hb;replace B0:=qbb B0 hb;replace Q1:=qbb Q1 hb;replace HB:=bs hb;(try simp only[Ca,Bz]);obtain⟨_,_⟩:=o2 V1 U1;obtain⟨s3,t3,v3,w3,x3,y3⟩:=qk3 Q1)|(refine gb 50 Tryz.func33 (Bh.c P2 (rd t1 q0) d2 X2 b3 _ c3.out (Ed hG_ (bl))) fun A3 hb=>?_;replace e1:=qa (Kd.Ey (kFR e1 Q1 (fun _ h_=>h_.1)) hb);replace B0:=qbb B0 hb;replace Q1:=qa (Fb (g:=N1) (o:= .cells #[.int .i64 (rd t1 q0),.int .i64 d2,.int .i64 X2] 55 (0,0)) (kP Q1) hb);replace HB:=bs hb;obtain⟨B3,C3,D3,E3,G3,J3⟩:=qk3 Q1;obtain⟨K3,L3,M3,N3,P3,Q3⟩:=qk3 B0))
       refine bodyPost_ret (Da rfl _ _ y0 55 #[.int .i64 (rd t1 q0),.int .i64 d2,.int .i64 X2] (0,0) _ rfl (kP B0) Tryz.underlying55 rfl kr_) rfl ?_;exact⟨er,bl⟩
      .simp only[Option.some.injEq,Prod.mk.injEq]at H;obtain⟨rfl,rfl,rfl,rfl⟩:=H;have j3:0<=(2:Int):=ko_;have l3:2<(l0.length:Int):=qo;obtain⟨n3,p3,q3⟩:=Kd.Hz (Kd.Ab e1.out).2.2 2 j3 l3;obtain rfl:R0=n3:=(by injection p3);(try simp only[show(2:Int).toNat =2 from rfl,Nat.reduceMul,Nat.reduceEqDiff,Go.Addr.add,↓reduceIte]at q3);have qi130:(2<l0.length)=True:=eq_true ko_;(try rw[show((2:Int)).toNat =2 from rfl]at q3);replace j3:=eq_true j3;replace l3:=eq_true l3
       go_wp2_with(first|(refine gol (some 45) Tryz.func94 #[.string (rdOf ByteArray.empty l0 2)] ?_;(with_reducible refine(Cf.c (rdOf ByteArray.empty l0 2) X2 Y2 _ a3.out ?C2).mono ?_);(case C2=>exact Ed hG_ (bl));rintro e R3 ⟨ev_,hev_,rfl,hb⟩;refine⟨_,rfl,?_⟩;replace e1:=bR e1 hb;replace B0:=qbb B0 hb;replace Q1:=qbb Q1 hb;replace HB:=bs hb;(try simp only[Ca,Bz]);obtain⟨_,_⟩:=o2 V1 U1;obtain⟨U3,V3,W3,X3,Y3,a4⟩:=qk3 Q1)|(refine gb 50 Tryz.func33 (Bh.c P2 (rd t1 q0) d2 X2 b3 _ c3.out (Ed hG_ (bl))) fun b4 hb=>?_;replace e1:=qa (Kd.Ey (kFR e1 Q1 (fun _ h_=>h_.1)) hb);replace B0:=qbb B0 hb;replace Q1:=qa (Fb (g:=N1) (o:= .cells #[.int .i64 (rd t1 q0),.int .i64 d2,.int .i64 X2] 55 (0,0)) (kP Q1) hb);replace HB:=bs hb;obtain⟨c4,d4,e4,g4,j4,l4⟩:=qk3 B0))
       refine bodyPost_ret (Da rfl _ _ y0 55 #[.int .i64 0,.int .i64 0,.int .i64 0] (0,0) _ rfl (kP B0) Tryz.underlying55 rfl kr_) rfl ?_;exact⟨er,bl⟩
     .rw[if_neg Q2]at H;have R2:decide (2<(l0.length:Int))=false:=decide_eq_false Q2;have U2:decide (2<l0.length)=false:=decide_eq_false ko_;clear Q2;replace H:=qb H;obtain⟨n4,p4,H⟩:=H;replace H:=qq H;obtain⟨q4,r4,H⟩|⟨s4,q4,r4,H⟩:=H
      .simp only[Option.some.injEq,Prod.mk.injEq]at H;obtain⟨rfl,rfl,rfl,rfl⟩:=H;obtain⟨_,_⟩:=o2 V1 U1;obtain⟨t4,v4,w4,x4,y4,A4⟩:=qk3 Q1
       go_wp2_with(first|(refine gb 50 Tryz.func33 (Bh.c P2 (rd t1 q0) d2 0 n4 _ p4.out (Ed hG_ (bl))) fun B4 hb=>?_;replace e1:=bR e1 hb;replace B0:=qbb B0 hb;replace Q1:=qbb Q1 hb;replace HB:=bs hb;obtain⟨C4,D4,E4,G4,J4,K4⟩:=qk3 Q1;obtain⟨L4,M4,N4,P4,Q4,R4⟩:=qk3 B0))
       refine bodyPost_ret (Da rfl _ _ y0 55 #[.int .i64 (rd t1 q0),.int .i64 d2,.int .i64 0] (0,0) _ rfl (kP B0) Tryz.underlying55 rfl kr_) rfl ?_;exact⟨er,bl⟩
      .simp only[Option.some.injEq,Prod.mk.injEq]at H;obtain⟨rfl,rfl,rfl,rfl⟩:=H;obtain⟨_,_⟩:=o2 V1 U1;obtain⟨U4,V4,W4,X4,Y4,a5⟩:=qk3 Q1
       go_wp2_with(first|(refine gb 50 Tryz.func33 (Bh.c P2 (rd t1 q0) d2 0 n4 _ p4.out (Ed hG_ (bl))) fun b5 hb=>?_;replace e1:=bR e1 hb;replace B0:=qbb B0 hb;replace Q1:=qbb Q1 hb;replace HB:=bs hb;obtain⟨c5,d5,e5,g5,j5,l5⟩:=qk3 B0))
       refine bodyPost_ret (Da rfl _ _ y0 55 #[.int .i64 0,.int .i64 0,.int .i64 0] (0,0) _ rfl (kP B0) Tryz.underlying55 rfl kr_) rfl ?_;exact⟨er,bl⟩
 .rw[if_neg s0]at H;exact absurd H (by simp)

def Cs.f (k:Nat) (a0:LI):Option LI:=if 0<a0.length then(if a0.length<17592186044416 then some a0 else none)else none
theorem Cs.nil_in (w:World) (d:Nat) (a:OA) (l c:Nat):(Op.equalIn (d+1) 22 (.slice a l c) (.slice none 0 0)).run Tryz.prog w= .ok a.isNone w:=by
 cases a <;> simp[Op.equalIn,run_underlying Tryz.underlying22]
theorem Cs.nil_eq (w:World) (a:OA) (l c:Nat):(binOp .eql 22 (.slice a l c) (.slice none 0 0)).run Tryz.prog w= .ok (.bool a.isNone) w:=by
 have h:(Op.equal 22 (.slice a l c) (.slice none 0 0)).run Tryz.prog w= .ok a.isNone w:=Cs.nil_in w 9999 a l c
 simp[binOp,h]
theorem Cs.c (k:Nat) (a0:OA) (b0:Nat) (c0:LI) (r:LI) (w:World) (d0:Kd.C ki w a0 c0.length c0) (e0:c0.length<=b0) (h:Cs.f k c0=some r):
  Calls Tryz.prog 99 #[.slice a0 c0.length b0] w fun e w'=>∃v0_:Value,e= .returned (v0_)/\Kd.R ki 3 w' w.heap.size (fun _=>True) v0_ r/\Below w.heap.size w w':=by
 unfold Cs.f at h
 by_cases g0:0<c0.length
 .rw[if_pos g0]at h
  by_cases j0:c0.length<17592186044416
  .rw[if_pos j0]at h;obtain rfl:=Option.some.inj h;clear h;obtain⟨l0,hA,_⟩:=d0.2.2 g0;subst hA;have n0:=qa d0;have p0:=qa j0;clear d0 e0 g0 j0;have HB:=qa (Below.refl w.heap.size w);have hnilq:=Cs.nil_eq
   go_enter Tryz.func99,Tryz.ntmps99
   go_wp2_with(first|((with_reducible refine El (N:=5) rfl ?_);refine Kd.R_lit ki _ 3 ?hg (N:=5) ?hd (xs:=([]:LI)) (inner:=[]) (ok:=fun _=>True) (okp:=fun _=>True) ?hr ?hp (fun _ hk=>hk) trivial (Below.refl _ _) (Nat.le_refl _) (by simp) ?_;(case hd=>rfl);(case hg=>rfl);(case hr=>exact gr);(case hp=>exact(Reps.none _ _));intro q0 r0 s0 hb hg_ hnew_;clear hg_ hnew_;have n0_:=lR s0;have n3_:=qa (Ir (bl) hb);clear HB;have t0:=n0_;have HB:=n3_;clear n0_ n3_;clear hb s0)|((with_reducible refine Cw (b:= .append) (xs:=#[.tmp 5,.tmp 6]) rfl ?_);at_builtin;refine Kd.Jp ki (w0:=w) w.heap.size rfl (.tmp 5) (.tmp 6) 22 3 (.int .i64 0) 8 rfl Tryz.underlying22 Je rfl kd_ ko_ q0 ([]:LI) c0 _ _ _ (fun _=>True) (fun _=>False) rfl rfl ?aO ?aR (fun _ _ h=>h) (fun _ h=>h.elim) ?aF ?aB ?aS ?aL ?_;(case aR=>exact cx (Kd.Ai n0.out HB.out));(case aB=>exact(bl));(case aF=>exact(fun _ _=>trivial));(case aO=>exact(kR t0));(case aS=>exact(Cj (bl)));(case aL=>have:=p0.out;simp;omega);intro v0 w0 ho hb hg hat;rw[List.nil_append]at ho;have n2_:=qa (hb);have n3_:=qa (ho);clear HB;clear t0;have HB:=n2_;have x0:=n3_;clear n2_ n3_;clear ho hb hg hat))
   go_ret;exact⟨_,sd,kR x0,bl⟩
  .rw[if_neg j0]at h;cases h
 .rw[if_neg g0]at h;cases h

def Bx.l0:Nat->LL->Int->Int->LI->LL->Option (LI×LL)
 |0,_,_,_,_,_=>none
 |k+1,a0,b0,c0,d0,e0=>if c0<b0 then(if 0<=c0 then(if c0<(a0.length:Int)then((Cs.f k (Bl a0 c0)).bind fun g0=>(if e0.length<5864062014805 then(Bx.l0 k a0 b0 (wrap64 (c0+1)) d0 (e0++[g0]))else(none)))else(none))else(none))else(some (d0,e0))
def Bx.f (k:Nat) (a0:LI) (b0:LL):Option (LI×LL):=(Cs.f k a0).bind fun c0=>(Bx.l0 k b0 (b0.length:Int) 0 c0 ([]:LL))
def Bx.T5:Bool×List (List Nat×List Nat):=(true,[([],[]),([0],[0]),([],[]),([2],[2]),([3],[3]),([1,4,3],[1,4]),([0,1,2,3,4,5],[]),([6,5,5,0,1,2,3,4,5],[5,6])])
def Bx.B5:List Nat:=[0,1,0,4,12,31,63,127]
theorem Bx.tab5:rtab .any (opsOf Tryz.f54 5)=Bx.T5:=by kernel_rfl
theorem Bx.bits5:Gg Bx.T5.2 Bx.B5=true:=by kernel_rfl
theorem Bx.c (k:Nat) (a0:OA) (b0:Nat) (c0:LI) (d0:OA) (e0:Nat) (g0:LL) (j0:LI) (n0:LL) (w:World) (p0:Kd.C ki w a0 c0.length c0) (q0:c0.length<=b0) (r0:Kd.C (Kd.slice 3 ki) w d0 g0.length g0) (s0:g0.length<=e0) (h:Bx.f k c0 g0=some (j0,n0)):
  Calls Tryz.prog 54 #[.agg #[.slice a0 c0.length b0,.slice d0 g0.length e0]] w fun e w'=>∃v0_ v1_:Value,e= .returned (.agg #[v0_,v1_])/\Kd.R ki 3 w' w.heap.size (fun _=>True) v0_ j0/\Kd.S (Kd.slice 3 ki) 22 w' w.heap.size (N1 v0_) v1_ n0/\Below w.heap.size w w':=by
 have t0:=Tryz.underlying27;have v0:=qa p0;have w0:=qa q0;clear p0 q0;have x0:=qa r0;have y0:=qa s0;clear r0 s0;have HB:=qa (Below.refl w.heap.size w);have H:=h;unfold Bx.f at H;clear h;replace H:=qb H;obtain⟨A0,B0,H⟩:=H;have H':=qa H;clear H
 go_enter Tryz.func54,Tryz.ntmps54
 go_wp2_with(first|(refine bx 1 #[.slice a0 c0.length b0,.slice d0 g0.length e0] 27 ?_;intro C0 hg D0 hbox hb;have E0:=qa (hbox);have G0:=gw hg;replace HB:=bs hb;clear hb hbox hg)|(refine bx 2 #[.slice none 0 0,.slice none 0 0] 27 ?_;intro J0 hg K0 hbox hb;have L0:=qa (hbox);have M0:=gw hg;replace HB:=bs hb;obtain⟨N0,P0⟩:=qnn hg E0;replace E0:=qbb E0 hb;clear hb hbox hg;obtain⟨_,_⟩:=o2 N0 P0;obtain⟨Q0,R0,U0,V0⟩:=qk2 E0)|(refine ge_ 8 Tryz.func99 (Cs.c k _ _ c0 A0 _ (cx (Kd.Ai v0.out HB.out)) w0.out B0.out) fun W0 X0 Y0 hb=>?_;have a1:=lR Y0;replace E0:=qbb E0 hb;replace L0:=qbb L0 hb;replace HB:=bs hb;obtain⟨b1,c1,rfl⟩:=Kd.An a1.out)|(refine bx 3 #[.slice none 0 0,.slice none 0 0] 27 ?_;intro d1 hg e1 hbox hb;replace a1:=bR a1 hb;have g1:=qa (hbox);have j1:=gw hg;replace HB:=bs hb;obtain⟨l1,n1⟩:=qnn hg E0;replace E0:=qbb E0 hb;obtain⟨p1,q1⟩:=qnn hg L0;replace L0:=qbb L0 hb;clear hb hbox hg;obtain⟨_,_,_,_⟩:=o4 n1 l1 q1 p1;obtain⟨r1,s1,t1,v1⟩:=qk2 g1;obtain⟨w1,x1,y1,A1⟩:=qk2 E0))
 go_loopg [13] k (fun kq B1 w'=>∃(C1:Int) (D1:LL) (E1:Value),B1= .int .i64 C1/\Aside0 (Bx.l0 kq g0 (g0.length:Int) C1 A0 D1=some (j0,n0))/\Aside0 (kq<=k)/\Aside0 (Kd.R ki 3 w' w.heap.size (fun _=>True) (.slice b1 A0.length c1) A0)/\Aside0 (Kd.S (Kd.slice 3 ki) 22 w' w.heap.size (N1 (sv b1 A0 c1)) E1 D1)/\Aside0 (w'.heap[C0]? =some (.cells #[(.slice a0 c0.length b0),(.slice d0 g0.length e0)] 27 (0,0)))/\Aside0 (w'.heap[J0]? =some (.cells #[(.slice none 0 0),(.slice none 0 0)] 27 (0,0)))/\Aside0 (w'.heap[d1]? =some (.cells #[(.slice b1 A0.length c1),E1] 27 (0,0)))/\Aside0 (Below w.heap.size w w'))
 case atStart=>exact⟨(0),(([]:LL)),(.slice none 0 0),(sd),H',⟨Nat.le_refl _⟩,⟨kFR a1 g1 (fun _ hk=>trivial)⟩,⟨z5_⟩,⟨kb E0⟩,⟨kb L0⟩,⟨kP g1⟩,⟨bl⟩⟩
 case round=>
  clear H';obtain⟨C1,D1,E1,rfl,HA,HK1,G1,J1,E0,L0,g1,HB⟩:=hrel;obtain⟨k1,rfl,H⟩:=kz gk HA;clear HA;simp only[Bx.l0]at H;replace H:=qe H;obtain⟨K1,H⟩|⟨K1,H⟩:=H
  .replace H:=qd H;obtain⟨L1,H⟩:=H;replace H:=qd H;obtain⟨M1,H⟩:=H;replace H:=qb H;obtain⟨P1,Q1,H⟩:=H;replace H:=qn H;obtain⟨R1,H⟩:=H;have U1:=qa R1;clear R1;obtain⟨V1,hy_⟩:∃y_:LL,y_=(D1++[P1]):=⟨_,rfl⟩;replace H:(Bx.l0 k1 g0 (g0.length:Int) (wrap64 (C1+1)) A0 V1)=some (j0,n0):=yh;have W1:=qa hy_;clear hy_;have H':=qa H;clear H;obtain⟨X1,Y1,a2,⟨⟩,b2,c2,d2,e2,g2⟩:=cg_L1 x0.out C1;(try replace b2:=(HB.out.cell (World.block_lt_of_cell? w _ b2)).trans b2)
   try go_wp2
   replace G1:=qa (Kd.Fp G1.out);replace J1:=qa (Kd.S_drew J1.out);replace E0:=qa (Ak E0.out);replace L0:=qa (Ak L0.out);replace g1:=qa (Ak g1.out);replace HB:=qa (Dd HB.out);refine Hq (n:=8) (S:=fun w'=>w'.cell? ⟨d1,0,none⟩=some (.slice b1 A0.length c1)/\w'.cell? ⟨d1,1,none⟩=some (E1)) (ds:=[7]) _ kr_ rfl rfl ⟨bc g1 0,bc g1 1⟩ (fun hHeld=>?_);refine Gd Bx.tab5 Bx.bits5 (fun HT_ HW_=>?_);generalize wr.drew=j2 at G1 J1 E0 L0 g1 HB hHeld ⊢;refine pur 0 17 (bz 8 1) HT_ ?_;refine pur 2 19 (bz 8 5) HT_ ?_;refine tk 1 18 (bz 8 7) hHeld (Ez HT_.out HW_.out kr_) ?_;(refine o1 3 (some 20) (bz 8 15) (Dr HT_.out kr_) fun K hK=>?_);(refine gse Tryz.func99 (Cs.c k1 _ _ (Bl g0 C1) P1 _ (cx (Kd.Ai c2.out HB.out)) d2.out Q1.out) fun l2 n2 Y0 hb=>?_);replace J1:=qa (Kd.Jl (kS J1) (Kd.Av Y0) hb);have p2:=lR (Kd.Cl Y0 (Kd.R_lt (kR G1)));replace G1:=eR G1 (Kd.Av Y0) hb;replace E0:=qbb E0 hb;replace L0:=qbb L0 hb;replace g1:=qbb g1 hb;replace HB:=bs hb;(try clear hb);(try clear q2);(try clear hk);(try clear hi);(try clear Y0);obtain⟨r2,s2,t2⟩:=Kd.An p2.out;(first|subst t2|(injection t2 with f1_ f2_ f3_;have f4_:=f1_.symm;have f5_:=f3_.symm;clear f1_ f2_ f3_;subst f4_;subst f5_));refine hK.out _ _ ⟨bc g1 0,bc g1 1⟩ (fun hHeld=>?_);clear hK K;refine nm 20 ?_;(refine o1 4 (some 21) (bz 8 31) (Dr HT_.out kr_) fun K hK=>?_);refine Gz (w1:=?_) (v:=?_) (by rfl) rfl ?_ ?_;rotate_left 2
   .go_simp
    constructor
    .rfl
    .rfl
   refine hK.out _ _ ⟨(Ip (Aw g1.out _) 0).trans rfl,(Ip (Aw g1.out _) 1).trans rfl⟩ (fun hHeld=>?_);clear hK K;refine nm 21 ?_;(refine o1 5 (some 22) (bz 8 63) (Dr HT_.out kr_) fun K hK=>?_);refine Kd.S_append_step (Kd.slice 3 ki) (w0:=w) w.heap.size (by rfl) (.tmp 18) (.tmp 21) 23 22 (.slice none 0 0) 24 rfl Tryz.underlying23 info22 rfl kd_ ko_ E1 D1 P1 [.slice r2 P1.length s2] (N1 (sv b1 A0 c1)) (fun k_=>some k_=(.slice r2 P1.length s2:Value).ownBlock) rfl rfl ?aP (fun k_ hk_=>((Kd.Cq (ok':=fun k_=>((N1 (sv b1 A0 c1))) k_/\some k_≠(E1:Value).ownBlock) (Kd.Jb (p2.out) (Kd.S_typed J1.out) kd_) (fun k_ hk=>⟨hk.1.2,hk.2⟩))).1 k_ hk_.symm) ?aF ?aO ?aB ?aS ?aL ?_;(case aP=>exact Kd.M_row (Kd.Cq (Kd.R_tight rfl (Kd.Cq (ok':=fun k_=>((N1 (sv b1 A0 c1))) k_/\some k_≠(E1:Value).ownBlock) (Kd.Jb (p2.out) (Kd.S_typed J1.out) kd_) (fun k_ hk=>⟨hk.1.2,hk.2⟩))) (fun _ h_=>h_)));(case aB=>exact(bl));(case aF=>exact(fun k_ hk=>Kd.Ii (Kd.R_lt (kR G1)) k_ hk));(case aO=>exact(mS J1 (fun k_ hk=>⟨hk.1,fun e_=>hk.2 e_⟩)));(case aS=>exact(Cj (bl)));(case aL=>have:=U1.out;omega);intro v2 w2 ho hb hg hat;rw[<-W1.out]at ho;replace G1:=qa (Kd.Hu (kR G1) (Kd.S_typed (kS J1)) kd_ hg);replace E0:=qa (Bn (g:=C0) (o:= .cells #[.slice a0 c0.length b0,.slice (some X1) g0.length e0] 27 (0,0)) (bk) hg (Kd.S_ne J1.out E0.out kd_));replace L0:=qa (Bn (g:=J0) (o:= .cells #[.slice none 0 0,.slice none 0 0] 27 (0,0)) (bk) hg (Kd.S_ne J1.out L0.out kd_));replace g1:=qa (Bn (g:=d1) (o:= .cells #[.slice b1 A0.length c1,E1] 27 (0,0)) (bk) hg (Kd.S_ne J1.out g1.out kd_));replace HB:=qa (hb);have x2:=qa (ho);clear J1 p2;clear ho hb hg hat;obtain⟨y2,A2,B2⟩:=Kd.Ft x2.out;(first|subst B2|(injection B2 with f1_ f2_ f3_;have f4_:=f1_.symm;have f5_:=f3_.symm;clear f1_ f2_ f3_;subst f4_;subst f5_));refine hK.out _ _ ⟨bc g1 0,bc g1 1⟩ (fun hHeld=>?_);clear hK K;refine nm 22 ?_;refine pur 6 23 (bz 8 127) HT_ ?_;refine last_ (i:=7) (N:=none) (bz 8 255) rfl rfl (Dr HT_.out kr_) kd_ (fun K hK=>?_);have C2:w2.cell? ⟨d1,1,none⟩=some (E1):=bc g1 1;have D2:=Cn g1.out 1;obtain⟨_,_,_,_⟩:=o4 l1 p1 n1 q1;refine skip_ (w1:=?_) (by rfl) rfl ?_ ?_;rotate_left
   .go_simp
    rfl
   refine hK.out _ _ ?_;clear hK K;refine Ka (Hs HT_.out kr_) ?_
   try go_wp2
   go_roundg k1
   case measure=>have:=HK1.out;omega
   case rel=>exact⟨(wrap64 (C1+1)),(V1),(.slice y2 V1.length A2),(sd),H',⟨by have:=HK1.out;omega⟩,⟨kFR G1 g1 (fun _ hk=>trivial)⟩,⟨kFS x2 g1 (fun _ hk=>hk.1)⟩,⟨kb E0⟩,⟨kb L0⟩,⟨kP g1⟩,⟨bl⟩⟩
  .simp only[Option.some.injEq,Prod.mk.injEq]at H;obtain⟨rfl,rfl⟩:=H;obtain⟨_,_,_,_⟩:=o4 n1 l1 q1 p1;obtain⟨E2,G2,J2,K2⟩:=qk2 g1;obtain⟨_,_⟩:=o2 P0 N0;obtain⟨L2,M2,N2,P2⟩:=qk2 L0;obtain⟨Q2,R2,rfl⟩:=Kd.Ft J1.out;go_wp2;refine bodyPost_ret (results_cell_row rfl _ _ J0 27 #[.slice b1 A0.length c1,.slice Q2 D1.length R2] (0,0) _ rfl (kP L0) Tryz.underlying27 rfl kr_) rfl ?_;exact⟨_,_,er,kFR G1 L0 (fun _ hk=>trivial),kFS J1 L0 (fun _ hk=>hk.1),bl⟩
def Ag.l0:Nat->LI->Int->Int->Option LI
 |0,_,_,_=>none
 |k+1,a0,b0,c0=>if b0<c0 then(if 0<=c0 then(if c0<(a0.length:Int)then(if 0<=b0 then(if b0<(a0.length:Int)then(Ag.l0 k ((a0.set (b0:Int).toNat (rd a0 c0)).set (c0:Int).toNat (rd a0 b0)) (wrap64 (b0+1)) (wrap64 (c0-1)))else(none))else(none))else(none))else(none))else(some a0)
def Ag.f (k:Nat) (a0:LI):Option LI:=Ag.l0 k a0 0 (wrap64 ((a0.length:Int)-1))
theorem Ag.mono_l:∀k,(∀a0 b0 c0,LeO (Ag.l0 k a0 b0 c0) (Ag.l0 (k+1) a0 b0 c0))
 |0=>fun _ _ _ r h=>by simp[Ag.l0]at h
 |k+1=>by
  have ih0:=Ag.mono_l k
  .intro a0 b0 c0;unfold Ag.l0;exact mz
theorem Ag.mono:∀a0 k,LeO (Ag.f k a0) (Ag.f (k+1) a0):=by
 intro a0 k;have ih0:=Ag.mono_l k;unfold Ag.f;exact mz
def Ag.T3:Bool×List (List Nat×List Nat):=(true,[([],[]),([],[]),([],[]),([],[]),([],[]),([],[]),([4,5],[4,5]),([6],[6]),([],[]),([],[]),([8,9],[8,9]),([10],[10]),([0,1,0,1,4,5,6,7,11],[0,1]),([12,7,0,1,4,5,6,7,11],[7,12]),([2,3,0,1,2,3,4,5,6,7,8,9,10,11,12,13],[2,3]),([14,11,13,0,1,2,3,4,5,6,7,8,9,10,11,12,13],[11,14])])
def Ag.B3:List Nat:=[0,0,0,0,0,0,48,112,0,0,768,1792,4083,8179,16383,32767]
theorem Ag.tab3:rtab .any (opsOf Tryz.f144 3)=Ag.T3:=by kernel_rfl
theorem Ag.bits3:Gg Ag.T3.2 Ag.B3=true:=by kernel_rfl
theorem Ag.c (k:Nat) (P0_:Nat->Prop) (a0:Value) (b0:LI) (r:LI) (c0 w:World) (hB:Below c0.heap.size c0 w) (d0:Kd.R ki 3 w c0.heap.size P0_ a0 b0) (h:Ag.f k b0=some r):
  Calls Tryz.prog 144 #[a0] w fun e w'=>e= .returned (.tuple #[])/\Kd.R ki 3 w' c0.heap.size (fun k_=>(P0_ k_\/w.heap.size<=k_)) a0 r/\Below c0.heap.size c0 w'/\Kept w w' (fun k_=>P0_ k_):=by
 have e0:=qa (show Kd.R ki 3 w c0.heap.size (fun k_=>(P0_ k_\/w.heap.size<=k_)) a0 b0 from Kd.Cq d0 (fun k_ hk=>(.inl hk)));have HK:=qa (Kept.refl w (fun k_=>P0_ k_));have HW0:=qa hB.size;have HB:=qa hB;clear hB;have H:=h;unfold Ag.f at H;clear h;have H':=qa H;clear H;obtain⟨g0,j0,rfl⟩:=Kd.An e0.out
 go_enter Tryz.func144,Tryz.ntmps144
 go_wp2
 go_loopg [2,3] k (fun kq n0 p0 w'=>∃(q0:LI) (r0:Int) (s0:Int),n0= .int .i64 r0/\p0= .int .i64 s0/\Aside0 (Ag.l0 kq q0 r0 s0=some r)/\Aside0 (kq<=k)/\Aside0 (Kd.R ki 3 w' c0.heap.size (fun k_=>(P0_ k_\/w.heap.size<=k_)) (.slice g0 b0.length j0) q0)/\Aside0 (Kept w w' (fun k_=>P0_ k_))/\Aside0 (Below c0.heap.size c0 w'))
 case atStart=>exact⟨(b0),(0),(wrap64 ((b0.length:Int)-1)),(sd),(sd),H',⟨Nat.le_refl _⟩,⟨kR e0⟩,⟨by repeat(first|(with_reducible first|exact HK.out|apply Kept.alloc|apply Kept.drewN|apply Kept.drew)|exact HK.out)⟩,⟨bl⟩⟩
 case round=>
  clear H';obtain⟨q0,r0,s0,rfl,rfl,HA,HK1,t0,HK,HB⟩:=hrel;have v0:=(Kd.Ab t0.out).1;rw[v0]at t0;(try simp only[v0]);obtain⟨k1,rfl,H⟩:=kz gk HA;clear HA;simp only[Ag.l0]at H;replace H:=qe H;obtain⟨w0,H⟩|⟨w0,H⟩:=H
  .replace H:=qd H;obtain⟨x0,H⟩:=H;replace H:=qd H;obtain⟨y0,H⟩:=H;replace H:=qd H;obtain⟨A0,H⟩:=H;replace H:=qd H;obtain⟨B0,H⟩:=H;obtain⟨C0,hy_⟩:∃y_:LI,y_=(q0.set (r0:Int).toNat (rd q0 s0)):=⟨_,rfl⟩;replace H:(Ag.l0 k1 (C0.set (s0:Int).toNat (rd q0 r0)) (wrap64 (r0+1)) (wrap64 (s0-1)))=some r:=yh;have D0:=qa hy_;clear hy_;obtain⟨E0,hy_⟩:∃y_:LI,y_=(C0.set (s0:Int).toNat (rd q0 r0)):=⟨_,rfl⟩;replace H:(Ag.l0 k1 E0 (wrap64 (r0+1)) (wrap64 (s0-1)))=some r:=yh;have G0:=qa hy_;clear hy_;have H':=qa H;clear H
   try go_wp2
   replace t0:=qa (Kd.Fp t0.out);replace HK:=qa (Kept.drew HK.out);replace HB:=qa (Dd HB.out);obtain⟨J0,⟨⟩,K0,L0,M0⟩:=ai (Kd.Ab t0.out).2.2 s0;obtain⟨N0,P0,Q0⟩:=aj (Kd.Ab t0.out).2.2 r0;have R0:0<=(r0:Int):=qo;have U0:(r0:Int)<((q0.length:Int):Int):=qo;obtain⟨V0,W0,X0,Y0,gl8,cl8,HG8⟩:=Kd.R_form t0.out ko_;(first|cases X0|(injection X0 with ea_ en_ ec_;(first|subst ea_|(injection ea_ with ea_;subst ea_));subst ec_;clear en_));have GB8:=qa Y0;have GG8:=qa HG8;clear Y0 gl8 HG8;have HMgo8:=qa (show(P0_ V0\/w.heap.size<=V0)from(t0.out.1 _ rfl));(first|simp only[add_plain]at K0|skip);(first|simp only[add_plain]at N0|skip);obtain⟨a1,b1⟩:=Kd.Jj 0 t0.out (r0:Int) R0 U0;replace R0:=eq_true R0;replace U0:=eq_true U0;have HP11:=Kd.R_putn t0.out (r0:Int) (rd q0 s0);rw[<-D0.out]at HP11;have HQ11:=qa HP11;clear HP11;have c1:0<=(s0:Int):=qo;have d1:(s0:Int)<((q0.length:Int):Int):=qo;obtain⟨e1,g1⟩:=Kd.Jj 0 HQ11.out (s0:Int) c1 d1;replace c1:=eq_true c1;replace d1:=eq_true d1;have HP12:=Kd.R_putn HQ11.out (s0:Int) (rd q0 r0);rw[<-G0.out]at HP12;have HQ12:=qa HP12;clear HP12;refine Hq (n:=16) (S:=fun w'=>w'.cell? ⟨V0,(s0).toNat,none⟩=some (.int .i64 (rd q0 s0))/\w'.cell? ⟨V0,(r0).toNat,none⟩=some (.int .i64 (rd q0 r0))) (ds:=[13,15]) _ kr_ rfl rfl ⟨K0,N0⟩ (fun hHeld=>?_);refine Gd Ag.tab3 Ag.bits3 (fun HT_ HW_=>?_);generalize wr.drew=j1 at t0 HK HB GG8 HQ11 HQ12 b1 g1 K0 N0 a1 e1 hHeld ⊢;refine pur 0 14 (bz 16 1) HT_ ?_;refine pur 1 15 (bz 16 3) HT_ ?_;refine pur 2 16 (bz 16 7) HT_ ?_;refine pur 3 17 (bz 16 15) HT_ ?_;refine pur 4 18 (bz 16 31) HT_ ?_;refine pur 5 19 (bz 16 63) HT_ ?_;refine pur 6 20 (bz 16 127) HT_ ?_;refine pur 8 22 (bz 16 383) HT_ ?_;refine pur 9 23 (bz 16 895) HT_ ?_;refine pur 10 24 (bz 16 1919) HT_ ?_;refine tk 7 21 (bz 16 2047) hHeld (Ez HT_.out HW_.out kr_) ?_;refine tk 11 25 (bz 16 4095) hHeld (Ez HT_.out HW_.out kr_) ?_;refine pur 12 26 (bz 16 8191) HT_ ?_;refine last_ (i:=13) (N:=none) (bz 16 16383) rfl rfl (Dr HT_.out kr_) kd_ (fun K hK=>?_);refine skip_ (w1:=?_) (by rfl) rfl ?_ ?_;rotate_left
   .go_simp
    rfl
   refine hK.out _ _ ?_;clear hK K;refine pur 14 27 (bz 16 32767) HT_ ?_;refine last_ (i:=15) (N:=none) (bz 16 65535) rfl rfl (Dr HT_.out kr_) kd_ (fun K hK=>?_);refine skip_ (w1:=?_) (by rfl) rfl ?_ ?_;rotate_left
   .go_simp
    rfl
   refine hK.out _ _ ?_;clear hK K;refine Ka (Hs HT_.out kr_) ?_
   try go_wp2
   (try simp only[<-v0])
   go_roundg k1
   case measure=>have:=HK1.out;omega
   case rel=>exact⟨(E0),(wrap64 (r0+1)),(wrap64 (s0-1)),(sd),(sd),H',⟨by have:=HK1.out;omega⟩,⟨by(try simp only[v0]);(with_reducible repeat(first|apply Kd.Ih|apply Kd.Hv|apply Kd.Fp));exact HQ12.out⟩,⟨by repeat(first|(with_reducible first|exact HK.out|apply Kept.alloc|apply Kept.drewN|apply Kept.drew|refine Kept.setCell ?_ HMgo8.out _|refine Kept.setCell ?_ HMgo8.out _)|exact HK.out)⟩,⟨by repeat(first|(with_reducible first|exact HB.out|apply Fg|apply Fe|apply Dd|refine Fw ?_ GB8.out|refine Fw ?_ GB8.out)|exact HB.out)⟩⟩
  .obtain rfl:=sj H;go_wp2
   first|go_end0|((try simp only[Exit.inBlock,Exit.then]);refine bodyPost_ret (results_none rfl _ _ _) rfl ?_)
   exact⟨er,(by first|exact(kR t0)|(simp only[v0];exact(kR t0))),bl,by repeat(first|(with_reducible first|exact HK.out|apply Kept.alloc|apply Kept.drewN|apply Kept.drew)|exact HK.out)⟩

def As.l0:Nat->Int->LI->LI->Int->Option LI
 |0,_,_,_,_=>none
 |k+1,a0,b0,c0,d0=>if(wrap64 (d0*d0))<=a0 then(if d0=0 then(none)else(if(Int.tmod a0 d0)=0 then(if b0.length<17592186044416 then((some (b0++[d0]:LI)).bind fun e0=>(if(wrap64 (d0*d0))<a0 then(if c0.length<17592186044416 then(As.l0 k a0 e0 (c0++[wrap64 (Int.tdiv a0 d0)]) (wrap64 (d0+1)))else(none))else(As.l0 k a0 e0 c0 (wrap64 (d0+1)))))else(none))else(As.l0 k a0 b0 c0 (wrap64 (d0+1)))))else((Ag.f k c0).bind fun g0=>(if b0.length+g0.length<17592186044416 then(some (b0++g0))else(none)))
def As.f (k:Nat) (a0:Int):Option LI:=As.l0 k a0 (([]:LI)) (([]:LI)) 1
theorem As.mono_l:∀k,(∀a0 b0 c0 d0,LeO (As.l0 k a0 b0 c0 d0) (As.l0 (k+1) a0 b0 c0 d0))
 |0=>fun _ _ _ _ r h=>by simp[As.l0]at h
 |k+1=>by
  have ih0:=As.mono_l k
  .intro a0 b0 c0 d0;unfold As.l0;have m0:= @Ag.mono;exact mz
theorem As.mono:∀a0 k,LeO (As.f k a0) (As.f (k+1) a0):=by
 intro a0 k;have ih0:=As.mono_l k;unfold As.f;have m0:= @Ag.mono;exact mz
theorem As.c (k:Nat) (a0:Int) (r:LI) (w:World) (h:As.f k a0=some r):
  Calls Tryz.prog 109 #[.int .i64 a0] w fun e w'=>∃v0_:Value,e= .returned (v0_)/\Kd.R ki 3 w' w.heap.size (fun _=>True) v0_ r/\Below w.heap.size w w':=by
 have HB:=qa (Below.refl w.heap.size w);have H:=h;unfold As.f at H;clear h;obtain⟨b0,hy_⟩:∃y_:LI,y_=(([]:LI)):=⟨_,rfl⟩;replace H:(As.l0 k a0 b0 (([]:LI)) 1)=some r:=yh;have c0:=qa hy_;clear hy_;obtain⟨d0,hy_⟩:∃y_:LI,y_=(([]:LI)):=⟨_,rfl⟩;replace H:(As.l0 k a0 b0 d0 1)=some r:=yh;have e0:=qa hy_;clear hy_;have H':=qa H;clear H
 go_enter Tryz.func109,Tryz.ntmps109
 go_wp2_with(first|(refine rli .i64 3 6 c0.out fun g0 j0 n0 hb=>?_;have p0:=lR n0;replace HB:=bs hb;clear hb n0)|(refine rli .i64 3 7 e0.out fun q0 r0 s0 hb=>?_;have t0:=lR (Kd.Cl s0 (Kd.R_lt (kR p0)));replace p0:=eR p0 (Kd.Av s0) hb;replace HB:=bs hb;clear hb s0))
 go_loopg [3,4,5] k (fun kq v0 w0 x0 w'=>∃(y0:LI) (A0:LI) (B0:Int),x0= .int .i64 B0/\Aside0 (As.l0 kq a0 y0 A0 B0=some r)/\Aside0 (kq<=k)/\Aside0 (Kd.R ki 3 w' w.heap.size (N1 w0) v0 y0)/\Aside0 (Kd.R ki 3 w' w.heap.size (N1 v0) w0 A0)/\Aside0 (Below w.heap.size w w'))
 case atStart=>exact⟨(b0),(d0),(1),(sd),H',⟨Nat.le_refl _⟩,⟨mR p0 (fun _ hk=>hk.2)⟩,⟨mR t0 (fun _ hk=>hk.2)⟩,⟨bl⟩⟩
 case round=>
  clear H';obtain⟨y0,A0,B0,rfl,HA,HK1,C0,D0,HB⟩:=hrel;obtain⟨k1,rfl,H⟩:=kz gk HA;clear HA;simp only[As.l0]at H;replace H:=qe H;obtain⟨E0,H⟩|⟨E0,H⟩:=H
  .by_cases G0:B0=0
   .rw[if_pos G0]at H;exact absurd H (by simp)
   .rw[if_neg G0]at H;have J0:(B0==0)=false:=beq_eq_false_iff_ne.mpr G0;have K0:(B0 != 0)=true:=bne_iff_ne.mpr G0;replace H:=qq H;obtain⟨L0,M0,H⟩|⟨N0,L0,M0,H⟩:=H
    .replace H:=qn H;obtain⟨P0,H⟩:=H;have Q0:=qa P0;clear P0;replace H:=qs H;obtain⟨R0,U0,H⟩:=H;replace H:=qe H;obtain⟨V0,H⟩|⟨V0,H⟩:=H
     .replace H:=qn H;obtain⟨W0,H⟩:=H;have X0:=qa W0;clear W0;obtain⟨Y0,hy_⟩:∃y_:LI,y_=(A0++[wrap64 (Int.tdiv a0 B0)]):=⟨_,rfl⟩;replace H:(As.l0 k1 a0 R0 Y0 (wrap64 (B0+1)))=some r:=yh;have a1:=qa hy_;clear hy_;have H':=qa H;clear H
      go_wp2_with(first|((with_reducible refine Cw (b:= .append) (xs:=#[.tmp 19,.tmp 21]) rfl ?_);at_builtin;refine Kd.Hc ki (w0:=w) w.heap.size rfl (.tmp 19) (.tmp 21) 22 3 (.int .i64 0) 8 rfl Tryz.underlying22 Je rfl kd_ ko_ u3 y0 B0 [.int .i64 B0] (N1 u4) (fun _=>False) rfl rfl ?aP (fun _ hk=>hk.elim) ?aF ?aO ?aB ?aS ?aL ?_;(case aP=>exact rfl);(case aB=>exact(bl));(case aF=>exact(fun k_ hk=>Kd.Ii (Kd.R_lt (kR D0)) k_ hk));(case aO=>exact(kR C0));(case aS=>exact(Cj (bl)));(case aL=>have:=Q0.out;omega);intro b1 c1 ho hb hg hat;rw[<-U0.out]at ho;replace D0:=qa (Kd.Hd (ok:=(fun _=>True)) (mR D0 (fun _ hk=>⟨trivial,hk⟩)) hg hat);replace HB:=qa (hb);have d1:=qa (ho);clear C0;clear ho hb hg hat)|((with_reducible refine Cw (b:= .append) (xs:=#[.tmp 28,.tmp 32]) rfl ?_);at_builtin;refine Kd.Hc ki (w0:=w) w.heap.size rfl (.tmp 28) (.tmp 32) 22 3 (.int .i64 0) 8 rfl Tryz.underlying22 Je rfl kd_ ko_ u4 A0 (wrap64 (Int.tdiv a0 B0)) [.int .i64 (wrap64 (Int.tdiv a0 B0))] (N1 b1) (fun _=>False) rfl rfl ?aP (fun _ hk=>hk.elim) ?aF ?aO ?aB ?aS ?aL ?_;(case aP=>exact rfl);(case aB=>exact(bl));(case aF=>exact(fun k_ hk=>Kd.Ii (Kd.R_lt (kR d1)) k_ hk));(case aO=>exact(mR D0 (fun _ hk=>hk.2)));(case aS=>exact(Cj (bl)));(case aL=>have:=X0.out;omega);intro e1 g1 ho hb hg hat;rw[<-a1.out]at ho;replace d1:=qa (Kd.Hd (ok:=(fun _=>True)) (mR d1 (fun _ hk=>⟨trivial,hk⟩)) hg hat);replace HB:=qa (hb);have j1:=qa (ho);clear D0;clear ho hb hg hat))
      go_roundg k1
      case measure=>have:=HK1.out;omega
      case rel=>exact⟨(R0),(Y0),(wrap64 (B0+1)),(sd),H',⟨by have:=HK1.out;omega⟩,⟨mR d1 (fun _ hk=>hk.2)⟩,⟨kR j1⟩,⟨bl⟩⟩
     .have H':=qa H;clear H
      go_wp2_with(first|((with_reducible refine Cw (b:= .append) (xs:=#[.tmp 19,.tmp 21]) rfl ?_);at_builtin;refine Kd.Hc ki (w0:=w) w.heap.size rfl (.tmp 19) (.tmp 21) 22 3 (.int .i64 0) 8 rfl Tryz.underlying22 Je rfl kd_ ko_ u3 y0 B0 [.int .i64 B0] (N1 u4) (fun _=>False) rfl rfl ?aP (fun _ hk=>hk.elim) ?aF ?aO ?aB ?aS ?aL ?_;(case aP=>exact rfl);(case aB=>exact(bl));(case aF=>exact(fun k_ hk=>Kd.Ii (Kd.R_lt (kR D0)) k_ hk));(case aO=>exact(kR C0));(case aS=>exact(Cj (bl)));(case aL=>have:=Q0.out;omega);intro b1 l1 ho hb hg hat;rw[<-U0.out]at ho;replace D0:=qa (Kd.Hd (ok:=(fun _=>True)) (mR D0 (fun _ hk=>⟨trivial,hk⟩)) hg hat);replace HB:=qa (hb);have d1:=qa (ho);clear C0;clear ho hb hg hat))
      go_roundg k1
      case measure=>have:=HK1.out;omega
      case rel=>exact⟨(R0),(A0),(wrap64 (B0+1)),(sd),H',⟨by have:=HK1.out;omega⟩,⟨kR d1⟩,⟨mR D0 (fun _ hk=>hk.2)⟩,⟨bl⟩⟩
    .have H':=qa H;clear H;go_wp2
     go_roundg k1
     case measure=>have:=HK1.out;omega
     case rel=>exact⟨(y0),(A0),(wrap64 (B0+1)),(sd),H',⟨by have:=HK1.out;omega⟩,⟨kR C0⟩,⟨kR D0⟩,⟨bl⟩⟩
  .replace H:=qb H;obtain⟨n1,p1,H⟩:=H
   by_cases q1:y0.length+n1.length<17592186044416
   .rw[if_pos q1]at H;have r1:=qa q1;clear q1;obtain⟨s1,hy_⟩:∃y_:LI,y_=(y0++n1):=⟨_,rfl⟩;replace H:(some s1)=some r:=yh;have t1:=qa hy_;clear hy_;obtain rfl:=sj H;obtain⟨v1,w1,rfl⟩:=Kd.An D0.out
    go_wp2_with(first|(refine gol (some 35) Tryz.func144 #[.slice v1 A0.length w1] ?_;(with_reducible refine(Ag.c k1 (fun k_=>some k_=(.slice v1 A0.length w1:Value).ownBlock) (.slice v1 A0.length w1) A0 n1 w _ ?x1 ?y1 p1.out).mono ?_);(case x1=>exact bl);(case y1=>exact Kd.R_tight rfl D0.out);rintro e A1 ⟨rfl,B1,hb,hkp⟩;refine⟨_,rfl,?_⟩;replace C0:=qa (Kd.Cq (ok':=(N1 (sv v1 A0 w1))) (Kd.R_keptB (C0.out) hkp (fun k_ hk_ hs_=>(hk_) hs_)) (fun k_ hk_=>hk_.1));replace D0:=qa (Kd.R_reok rfl B1 (fun k_ e_=>D0.out.1 k_ e_));replace HB:=qa (hb))|((with_reducible refine Cw (b:= .append) (xs:=#[.tmp 36,.tmp 37]) rfl ?_);at_builtin;refine Kd.Jp ki (w0:=w) w.heap.size rfl (.tmp 36) (.tmp 37) 22 3 (.int .i64 0) 8 rfl Tryz.underlying22 Je rfl kd_ ko_ u3 y0 n1 _ _ _ (N1 (sv v1 A0 w1)) (fun _=>False) rfl rfl ?aO ?aR (fun _ _ h=>h) (fun _ h=>h.elim) ?aF ?aB ?aS ?aL ?_;(case aR=>rw[show A0.length=n1.length from(Kd.Ab D0.out).1];exact cx (Kd.Ab D0.out).2.2);(case aB=>exact(bl));(case aF=>exact(fun k_ hk=>Kd.Ii (Kd.R_lt (kR D0)) k_ hk));(case aO=>exact(kR C0));(case aS=>exact(Cj (bl)));(case aL=>have:=r1.out;have hlx_:=(Kd.Ab D0.out).1;omega);intro C1 D1 ho hb hg hat;rw[<-t1.out]at ho;replace D0:=qa (Kd.Hd (ok:=(fun _=>True)) (mR D0 (fun _ hk=>⟨trivial,hk⟩)) hg hat);replace HB:=qa (hb);have E1:=qa (ho);clear C0;clear ho hb hg hat))
    go_ret;exact⟨_,er,mR E1 (fun _ hk=>trivial),bl⟩
   .rw[if_neg q1]at H;exact absurd H (by simp)

def Dn.f (k:Nat) (a0:LI):Option (Bool):=(Ex.f k a0 10000).bind fun b0=>(some b0)
theorem Dn.c (k:Nat) (a0:OA) (b0:Nat) (c0:LI) (r:Bool) (w:World) (d0:Kd.C ki w a0 c0.length c0) (e0:c0.length<=b0) (h:Dn.f k c0=some r):
  Calls Tryz.prog 132 #[.slice a0 c0.length b0] w fun e w'=>e= .returned (.bool r)/\Drawn0 w w':=by
 have g0:=qa d0;have j0:=qa e0;clear d0 e0;have H:=h;unfold Dn.f at H;clear h;replace H:=qb H;obtain⟨l0,n0,H⟩:=H;obtain rfl:=sj H
 go_enter Tryz.func132,Tryz.ntmps132
 go_wp2_with(first|(refine gd 4 Tryz.func120 (Ex.c k _ _ c0 10000 l0 _ (cx g0.out) j0.out n0.out) fun nd=>?_))
 go_ret;exact⟨sd,dr⟩

-- NOT PRINTED: function 133 (impl_rowBy)

-- CALLS: impl.divisors impl.small
def Dk.l0:Nat->Int->LI->LI->LI->Int->Int->Option Int
 |0,_,_,_,_,_,_=>none
 |k+1,n,f,g,ds,a0,b0=>if b0<(ds.length:Int)then(if 0<=b0 then(if(rd ds b0)=0 then(none)else(if 0<=(wrap64 ((rd ds b0)-1))then(if(wrap64 ((rd ds b0)-1))<(f.length:Int)then(if 0<=(wrap64 ((wrap64 (Int.tdiv n (rd ds b0)))-1))then(if(wrap64 ((wrap64 (Int.tdiv n (rd ds b0)))-1))<(g.length:Int)then(Dk.l0 k n f g ds (wrap64 (a0+(wrap64 ((rd f (wrap64 ((rd ds b0)-1)))*(rd g (wrap64 ((wrap64 (Int.tdiv n (rd ds b0)))-1))))))) (wrap64 (b0+1)))else(none))else(none))else(none))else(none)))else(none))else(some a0)
def Dk.f (k:Nat) (n:Int) (f g:LI):Option Int:=(As.f k n).bind fun ds=>Dk.l0 k n f g ds 0 0
theorem Dk.mono_l:∀k,∀a0 b0 c0 d0 e0 g0,LeO (Dk.l0 k a0 b0 c0 d0 e0 g0) (Dk.l0 (k+1) a0 b0 c0 d0 e0 g0)
 |0=>fun _ _ _ _ _ _ r h=>by simp[Dk.l0]at h
 |k+1=>by
  have ih:=Dk.mono_l k;intro a0 b0 c0 d0 e0 g0;unfold Dk.l0;exact LeO.ite (LeO.ite (LeO.ite (LeO.refl _) (LeO.ite (LeO.ite (LeO.ite (LeO.ite (ih _ _ _ _ _ _) (LeO.refl _)) (LeO.refl _)) (LeO.refl _)) (LeO.refl _))) (LeO.refl _)) (LeO.refl _)
theorem Dk.mono:∀n f g k,LeO (Dk.f k n f g) (Dk.f (k+1) n f g):=by
 intro n f g k;unfold Dk.f;exact LeO.bind (As.mono _ _) (fun _=>Dk.mono_l k _ _ _ _ _ _)
theorem Dk.c (k:Nat) (n:Int) (a0 b0:LI) (r:Int) (B1 B2:Nat) (c0 d0:OA) (e0 g0:Nat) (w:World) (j0:w.cell? ⟨B1,0,none⟩=some (.slice c0 a0.length e0)) (n0:w.cell? ⟨B2,0,none⟩=some (.slice d0 b0.length g0)) (p0:Kd.C ki w c0 a0.length a0) (q0:Kd.C ki w d0 b0.length b0) (h:Dk.f k n a0 b0=some r):
  Calls Tryz.prog 134 #[.int .i64 n,.pointer (some ⟨B1,0,none⟩),.pointer (some ⟨B2,0,none⟩)] w fun e w'=>e= .returned (.int .i64 r)/\Below w.heap.size w w':=by
 have HB:=qa (Below.refl w.heap.size w);have H:=h;clear h;unfold Dk.f at H;replace H:=qb H;obtain⟨r0,s0,H⟩:=H;have H':=qa H;clear H;have CAP1:=qa j0;have CAP2:=qa n0;have t0:=qa p0;have v0:=qa q0;clear j0 n0 p0 q0
 go_enter Tryz.func134,Tryz.ntmps134
 go_wp2_with(first|(refine ge_ 9 Tryz.func109 (As.c k n r0 _ s0.out) fun w0 x0 y0 hb=>?_;have A0:=lR y0;replace HB:=bs hb;obtain⟨B0,C0,rfl⟩:=Kd.An A0.out))
 go_loopg [5,11] k (fun kq D0 E0 w'=>∃(G0:Int) (J0:Int),D0= .int .i64 G0/\E0= .int .i64 J0/\Aside0 (Dk.l0 kq n a0 b0 r0 G0 J0=some r)/\Aside0 (kq<=k)/\Aside0 (Kd.R ki 3 w' w.heap.size (fun _=>True) (.slice B0 r0.length C0) r0)/\Aside0 (Below w.heap.size w w'))
 case atStart=>exact⟨(0),(0),(sd),(sd),H',⟨Nat.le_refl _⟩,⟨kR A0⟩,⟨bl⟩⟩
 case round=>
  clear H';obtain⟨G0,J0,rfl,rfl,HA,HK1,K0,HB⟩:=hrel;obtain⟨k1,rfl,H⟩:=kz gk HA;clear HA;simp only[Dk.l0]at H
  by_cases L0:J0<(r0.length:Int)
  .rw[if_pos L0]at H;have M0:decide (J0<(r0.length:Int))=true:=decide_eq_true L0;replace H:=qn H;obtain⟨N0,H⟩:=H
   by_cases P0:(rd r0 J0)=0
   .rw[if_pos P0]at H;exact absurd H (by simp)
   .rw[if_neg P0]at H;have Q0:((rd r0 J0)==0)=false:=beq_eq_false_iff_ne.mpr P0;have R0:((rd r0 J0) != 0)=true:=bne_iff_ne.mpr P0
    split at H
    .rename_i d1
     split at H
     .rename_i d2
      split at H
      .rename_i d3
       split at H
       .rename_i d4
        have H':=qa H;clear H;obtain⟨U0,V0,W0⟩:=Kd.Fx (Kd.Ab K0.out).2.2 J0 N0 L0;cases V0;obtain⟨X0,Y0,a1⟩:=Kd.Fx (Kd.Ai t0.out HB.out) _ d1 d2;obtain⟨b1,c1,e1⟩:=Kd.Fx (Kd.Ai v0.out HB.out) _ d3 d4;(have g1:wr.cell? ⟨B1,0,none⟩=some (.slice (some X0) a0.length e0):=by rw[<-Y0];exact(HB.out.cell (World.block_lt_of_cell? w _ CAP1.out)).trans CAP1.out);(have j1:wr.cell? ⟨B2,0,none⟩=some (.slice (some b1) b0.length g0):=by rw[<-c1];exact(HB.out.cell (World.block_lt_of_cell? w _ CAP2.out)).trans CAP2.out);clear Y0 c1;simp only[<-Bv]at a1 e1 d1 d2 d3 d4;replace L0:=eq_true L0;replace N0:=eq_true N0;replace d1:=eq_true d1;replace d2:=eq_true d2;replace d3:=eq_true d3;replace d4:=eq_true d4
        go_wp2_with fail
        go_quiet(fail)
        go_wp2
        go_roundg k1
        case measure=>have:=HK1.out;omega
        case rel=>exact⟨(wrap64 (G0+(wrap64 ((rd a0 (wrap64 ((rd r0 J0)-1)))*(rd b0 (wrap64 ((wrap64 (Int.tdiv n (rd r0 J0)))-1))))))),(wrap64 (J0+1)),z19_,z19_,H',⟨by have:=HK1.out;omega⟩,⟨kR K0⟩,⟨bl⟩⟩
       .exact absurd H (by simp)
      .exact absurd H (by simp)
     .exact absurd H (by simp)
    .exact absurd H (by simp)
  .rw[if_neg L0]at H;have M0:decide (J0<(r0.length:Int))=false:=decide_eq_false L0;clear L0;obtain rfl:=sj H;go_wp2;go_ret;exact⟨sd,bl⟩
def Br.l0:Nat->LI->LI->LI->Int->Option LI
 |0,_,_,_,_=>none
 |k+1,a0,b0,c0,d0=>if d0<24 then(if 0<=d0 then((Dk.f k (wrap64 (d0+1)) a0 b0).bind fun t=>(if d0<(c0.length:Int)then(Br.l0 k a0 b0 (c0.set (d0:Int).toNat t) (wrap64 (d0+1)))else(none)))else(none))else(some c0)
theorem Br.mono_l:∀k,∀z0 z1 a0 b0,LeO (Br.l0 k z0 z1 a0 b0) (Br.l0 (k+1) z0 z1 a0 b0)
 |0=>fun _ _ _ _ r h=>by simp[Br.l0]at h
 |k+1=>by
  have ih:=Br.mono_l k;intro z0 z1 a0 b0;unfold Br.l0;refine LeO.ite (LeO.ite (LeO.bind (Dk.mono _ _ _ _) (fun _=>LeO.ite (ih _ _ _ _) (LeO.refl _))) (LeO.refl _)) (LeO.refl _)
theorem Br.len:∀k z0 z1 (x:LI) i r,Br.l0 k z0 z1 x i=some r->r.length=x.length
 |0,_,_,_,_,_,h=>by simp[Br.l0]at h
 |k+1,z0,z1,x,i,r,h=>by
  simp only[Br.l0]at h
  split at h
  .split at h
   .obtain⟨t,_,h⟩:=Option.bind_eq_some_iff.mp h;replace h:(if i<(x.length:Int)then(Br.l0 k z0 z1 (x.set (i:Int).toNat t) (wrap64 (i+1)))else(none))=some r:=h
    split at h
    .rw[Br.len k _ _ _ _ _ h,List.length_set]
    .simp at h
   .simp at h
  .obtain rfl:=Option.some.inj h
   rfl
theorem Br.c (k:Nat) (a0:LI) (b0:LI) (r:LI) (B1 B2:Nat) (c0 d0:OA) (e0 g0:Nat) (w:World) (h0:w.cell? ⟨B1,0,none⟩=some (.slice c0 a0.length e0)) (h1:w.cell? ⟨B2,0,none⟩=some (.slice d0 b0.length g0)) (h2:Kd.C ki w c0 a0.length a0) (h3:Kd.C ki w d0 b0.length b0) (H:Br.l0 k a0 b0 (List.replicate (24:Int).toNat 0) 0=some r):
  Calls Tryz.prog 133 #[.func (.func 134) #[] #[.pointer (some ⟨B1,0,none⟩),.pointer (some ⟨B2,0,none⟩)]] w fun e w'=>∃v0_:Value,e= .returned (v0_)/\Kd.R ki 3 w' w.heap.size (fun _=>True) v0_ r/\Below w.heap.size w w':=by
 have HH0:=qa h0;have HH1:=qa h1;have HH2:=qa h2;have HH3:=qa h3;clear h0 h1 h2 h3;have HB:=qa (Below.refl w.heap.size w);have H':=qa H;clear H
 go_enter Tryz.func133,Tryz.ntmps133
 go_wp2_with(first|((with_reducible refine El (N:=5) rfl ?_);refine Kd.R_make ki _ 3 rfl (N:=5) rfl 22 _ _ rfl (24:Int) rfl rfl Tryz.underlying22 (.int .i64 0) 8 Je rfl kd_ ko_ 0 (ok:=fun _=>True) (okp:=fun _=>True) rfl (fun _ hk=>hk) trivial kd_ kd_ (Below.refl _ _) (Nat.le_refl _) ?_;intro j0 n0 p0 hb hg_ hnew_;clear hg_ hnew_;have q0:=lR p0;replace HB:=bs hb;clear hb p0;obtain⟨r0,s0,t0,v0,gl4,cl4,HG4⟩:=Kd.R_form q0.out (by simp);rw[List.length_replicate,show(24:Int).toNat =24 from rfl]at t0;subst t0;clear v0 gl4 HG4))
 go_loopg [8] k (fun kq w0 w'=>∃(x0:LI) (y0:Int),w0= .int .i64 y0/\Aside0 (x0.length=24)/\Aside0 (Br.l0 kq a0 b0 x0 y0=some r)/\Aside0 (kq<=k)/\Aside0 (Kd.R ki 3 w' w.heap.size (fun _=>True) (.slice (some ⟨r0,0,none⟩) 24 s0) x0)/\Aside0 (Below w.heap.size w w'))
 case atStart=>exact⟨_,(0),(sd),⟨List.length_replicate ..⟩,H',⟨Nat.le_refl _⟩,⟨kR q0⟩,⟨bl⟩⟩
 case round=>
  clear H' q0;obtain⟨x0,y0,rfl,HL,HA,HK1,A0,HB⟩:=hrel;obtain⟨k1,rfl,H⟩:=kz gk HA;clear HA;simp only[Br.l0]at H
  by_cases B0:y0<24
  .rw[if_pos B0]at H;have C0:decide (y0<24)=true:=decide_eq_true B0;replace H:=qn H;obtain⟨D0,H⟩:=H;replace H:=qb H;obtain⟨E0,G0,H⟩:=H;(have q9':y0<(x0.length:Int):=by have:=HL.out;omega);rw[if_pos q9']at H;have H':=qa H;clear H;have c7b:decide (0<=y0)=true:=decide_eq_true D0;have C7:=qa D0;have C6:=qa B0;have Q9:=qa q9';clear q9';replace D0:=eq_true D0;replace B0:=eq_true B0
   go_wp2_with(first|(go_at_call 134;(with_reducible refine(Dk.c k1 (wrap64 (y0+1)) a0 b0 E0 B1 B2 c0 d0 e0 g0 _ ((HB.out.cell (World.block_lt_of_cell? w _ HH0.out)).trans HH0.out) ((HB.out.cell (World.block_lt_of_cell? w _ HH1.out)).trans HH1.out) (Kd.Ai HH2.out HB.out) (Kd.Ai HH3.out HB.out) G0.out).mono ?_);rintro e J0 ⟨rfl,hb⟩;replace A0:=qa (Kd.Ey A0.out hb);replace HB:=bs hb;clear hb;obtain⟨K0,L0⟩:=Kd.Jj 0 A0.out (y0:Int) C7.out (by have:=C6.out;omega);have GB9:=qa (Kd.Av A0.out r0 rfl);have HP10:=Kd.Ja A0.out (y0:Int) E0)|((with_reducible refine Gm (t:=3) (p:=17) rfl ?_);refine Ga (t:=3) (p:=17) (v:=?vo_w11) (w1:=(J0.setCell ⟨r0,(y0:Int).toNat,none⟩ (.int .i64 E0))) ?hg ?ho ?hn ?hr ?_;(case ho=>rfl);(case hg=>rfl);(case hn=>rfl);(case hr=>exact gr);intro M0 hw;have hp_:Kd.R ki 3 M0 w.heap.size (fun _=>True) (.slice (some ⟨r0,0,none⟩) 24 s0) (x0.set (y0:Int).toNat E0):=(by rw[hw];exact HP10.1);clear HP10;replace A0:=qa (hp_);replace HB:=qa ((by rw[hw];exact Fw (HB.out) GB9.out:Below w.heap.size w M0));clear hw hp_))
   go_roundg k1
   case measure=>have:=HK1.out;omega
   case rel=>exact⟨_,(wrap64 (y0+1)),(sd),⟨by rw[List.length_set];exact HL.out⟩,H',⟨by have:=HK1.out;omega⟩,⟨kR A0⟩,⟨bl⟩⟩
  .rw[if_neg B0]at H;have C0:decide (y0<24)=false:=decide_eq_false B0;clear B0;obtain rfl:=sj H;go_wp2;go_ret;exact⟨_,sd,kR A0,bl⟩
def Hg.f (k:Nat) (a0 b0:LI):Option (LI×Bool):=(Dn.f k a0).bind fun s=>(if s=true then((Dn.f k b0).bind fun s2=>(if s2=true then((Br.l0 k a0 b0 (List.replicate (24:Int).toNat 0) 0).bind fun t=>some (t,true))else some (([]:LI),false)))else some (([]:LI),false))
theorem Hg.c (k:Nat) (a0:OA) (b0:Nat) (c0:LI) (d0:OA) (e0:Nat) (g0:LI) (j0:LI) (n0:Bool) (w:World) (p0:Kd.C ki w a0 c0.length c0) (q0:c0.length<=b0) (r0:Kd.C ki w d0 g0.length g0) (t0:g0.length<=e0) (h:Hg.f k c0 g0=some (j0,n0)):
  Calls Tryz.prog 95 #[.slice a0 c0.length b0,.slice d0 g0.length e0] w fun e w'=>∃v0_:Value,e= .returned (.tuple #[v0_,.bool n0])/\Kd.R ki 3 w' w.heap.size (fun _=>True) v0_ j0/\Below w.heap.size w w':=by
 (have hmf:∀(fn:Fn) (first cap:Array Value) (w:World),(Instr.makeFunc fn first cap).run Tryz.prog w= .ok (.func fn first cap) w:=fun _ _ _ _=>rfl);have v0:=qa p0;have w0:=qa q0;have x0:=qa r0;have y0:=qa t0;clear p0 q0 r0 t0;have H:=h;clear h;unfold Hg.f at H;replace H:=Option.bind_eq_some_iff.mp H;obtain⟨s,S00,H⟩:=H;have S0:=qa S00;clear S00
 cases s with
 |false=>
  have H2:(([]:LI),false)=(j0,n0):=sj H;obtain⟨rfl,rfl⟩:=Prod.mk.inj H2;clear H H2
  go_enter Tryz.func95,Tryz.ntmps95
  go_wp2_with(first|(go_at_call 132;(with_reducible refine(Dn.c k a0 b0 c0 false _ ?s0 w0.out S0.out).mono ?_);(case s0=>exact cx v0.out);rintro e w' ⟨rfl,⟨nd0,rfl⟩⟩))
  go_ret2;exact⟨_,sd,Kd.R_nil _ _ _ _ _,z11_⟩
 |true=>
  replace H:((Dn.f k g0).bind fun s2=>(if s2=true then((Br.l0 k c0 g0 (List.replicate (24:Int).toNat 0) 0).bind fun t=>some (t,true))else some (([]:LI),false)))=some (j0,n0):=H;replace H:=Option.bind_eq_some_iff.mp H;obtain⟨s2,S10,H⟩:=H;have S1:=qa S10;clear S10
  cases s2 with
  |false=>
   have H2:(([]:LI),false)=(j0,n0):=sj H;obtain⟨rfl,rfl⟩:=Prod.mk.inj H2;clear H H2
   go_enter Tryz.func95,Tryz.ntmps95
   go_wp2_with(first|(go_at_call 132;(with_reducible refine(Dn.c k a0 b0 c0 true _ ?s0 w0.out S0.out).mono ?_);(case s0=>exact cx v0.out);rintro e w' ⟨rfl,⟨nd0,rfl⟩⟩)|(go_at_call 132;(with_reducible refine(Dn.c k d0 e0 g0 false _ ?s1 y0.out S1.out).mono ?_);(case s1=>exact cx x0.out);rintro e w' ⟨rfl,⟨nd1,rfl⟩⟩))
   go_ret2;exact⟨_,sd,Kd.R_nil _ _ _ _ _,z11_⟩
  |true=>
   replace H:((Br.l0 k c0 g0 (List.replicate (24:Int).toNat 0) 0).bind fun t=>some (t,true))=some (j0,n0):=H;replace H:=Option.bind_eq_some_iff.mp H;obtain⟨t,T0,H⟩:=H;obtain⟨rfl,rfl⟩:=Prod.mk.inj (Option.some.inj H);clear H;have H':=qa T0;clear T0
   go_enter Tryz.func95,Tryz.ntmps95
   go_wp2_with(first|(go_at_call 132;(with_reducible refine(Dn.c k a0 b0 c0 true _ ?s0 w0.out S0.out).mono ?_);(case s0=>exact cx v0.out);rintro e w' ⟨rfl,⟨nd0,rfl⟩⟩)|(go_at_call 132;(with_reducible refine(Dn.c k d0 e0 g0 true _ ?s1 y0.out S1.out).mono ?_);(case s1=>exact cx x0.out);rintro e w' ⟨rfl,⟨nd1,rfl⟩⟩)|(go_at_call 133;(with_reducible refine(Br.c k c0 g0 t _ _ a0 d0 b0 e0 _ ?e0 ?A0 ?B0 ?C0 H'.out).mono ?_)))
   case e0=>first|(simp[World.cell?_alloc_at];done)|(simp[World.cell?_alloc_at,World.cell?_alloc_lt];done)|(simp;done)
   case A0=>first|(simp[World.cell?_alloc_at];done)|(simp;done)
   case B0=>exact cx v0.out
   case C0=>exact cx x0.out
   rintro e D0 ⟨E0,rfl,ho,hb⟩;have HO:=qa (Kd.Gr ho (Cj z8_));have HB:=qa (Ir z8_ hb);clear ho hb H';go_wp2;go_ret2;exact⟨_,sd,z17_,bl⟩
mutual
def Al.l0:Nat->Int->LL->Int->Option (LL)
 |0,_,_,_=>none
 |k+1,a0,b0,c0=>if a0>1 then(if(wrap64 (c0*c0))>a0 then(Al.j1 k a0 b0 a0)else(Al.j1 k a0 b0 c0))else(some b0)
def Al.j1:Nat->Int->LL->Int->Option (LL)
 |0,_,_,_=>none
 |k+1,a0,b0,c0=>Al.l1 k a0 b0 c0 0
def Al.l1:Nat->Int->LL->Int->Int->Option (LL)
 |0,_,_,_,_=>none
 |k+1,a0,b0,c0,d0=>if c0=0 then(none)else(if(Int.tmod a0 c0)=0 then(Al.l1 k (wrap64 (Int.tdiv a0 c0)) b0 c0 (wrap64 (d0+1)))else(if d0>0 then(if b0.length<5864062014805 then(Al.l0 k a0 (b0++[(([c0,d0]:LI))]) (wrap64 (c0+1)))else(none))else(Al.l0 k a0 b0 (wrap64 (c0+1)))))
end

def Al.f (k:Nat) (a0:Int):Option (LL):=Al.l0 k a0 (([]:LL)) 2
theorem Al.mono_l:∀k,(∀a0 b0 c0,LeO (Al.l0 k a0 b0 c0) (Al.l0 (k+1) a0 b0 c0))/\(∀a0 b0 c0,LeO (Al.j1 k a0 b0 c0) (Al.j1 (k+1) a0 b0 c0))/\(∀a0 b0 c0 d0,LeO (Al.l1 k a0 b0 c0 d0) (Al.l1 (k+1) a0 b0 c0 d0))
 |0=>⟨fun _ _ _ r h=>by simp[Al.l0]at h,fun _ _ _ r h=>by simp[Al.j1]at h,fun _ _ _ _ r h=>by simp[Al.l1]at h⟩
 |k+1=>by
  obtain⟨ih0,ih1,ih2⟩:=Al.mono_l k;refine⟨?_,?_,?_⟩
  .intro a0 b0 c0;unfold Al.l0;exact mz
  .intro a0 b0 c0;unfold Al.j1;exact mz
  .intro a0 b0 c0 d0;unfold Al.l1;exact mz
theorem Al.mono:∀a0 k,LeO (Al.f k a0) (Al.f (k+1) a0):=by
 intro a0 k;obtain⟨ih0,ih1,ih2⟩:=Al.mono_l k;unfold Al.f;exact mz
theorem Al.c (k:Nat) (a0:Int) (r:LL) (w:World) (h:Al.f k a0=some r):
  Calls Tryz.prog 138 #[.int .i64 a0] w fun e w'=>∃v0_:Value,e= .returned (v0_)/\Kd.S (Kd.slice 3 ki) 22 w' w.heap.size (fun _=>True) v0_ r/\Below w.heap.size w w':=by
 have HB:=qa (Below.refl w.heap.size w);have H:=h;unfold Al.f at H;clear h;obtain⟨b0,hy_⟩:∃y_:LL,y_=(([]:LL)):=⟨_,rfl⟩;replace H:(Al.l0 k a0 b0 2)=some r:=yh;have c0:=qa hy_;clear hy_;have H':=qa H;clear H
 go_enter Tryz.func138,Tryz.ntmps138
 go_wp2_with(first|((with_reducible refine El (N:=6) rfl ?_);refine Kd.S_lit (Kd.slice 3 ki) _ 22 ?hg (N:=6) ?hd (xs:=([]:LL)) (inner:=[]) (ok:=fun _=>True) (okp:=fun _=>True) ?hr ?hp (fun _ hk=>hk) trivial (Below.refl _ _) (Nat.le_refl _) (by simp) ?_;(case hd=>rfl);(case hg=>rfl);(case hr=>exact gr);(case hp=>exact(Reps.none _ _));intro d0 e0 g0 hb hg_ hnew_;clear hg_ hnew_;(first|rw[<-c0.out]at g0|(simp only[Int.reduceToNat]at g0;rw[<-c0.out]at g0));have j0:=lS g0;replace HB:=bs hb;clear hb g0))
 go_loopg [0,3,4] k (fun kq n0 p0 q0 w'=>∃(r0:Int) (s0:LL) (t0:Int),n0= .int .i64 r0/\q0= .int .i64 t0/\Aside0 (Al.l0 kq r0 s0 t0=some r)/\Aside0 (kq<=k)/\Aside0 (Kd.S (Kd.slice 3 ki) 22 w' w.heap.size (fun _=>True) p0 s0)/\Aside0 (Below w.heap.size w w'))
 case atStart=>exact⟨(a0),(b0),(2),(sd),(sd),H',⟨Nat.le_refl _⟩,⟨kS j0⟩,⟨bl⟩⟩
 case round=>
  clear H';obtain⟨r0,s0,t0,rfl,rfl,HA,HK1,v0,HB⟩:=hrel;obtain⟨k1,rfl,H⟩:=kz gk HA;clear HA;simp only[Al.l0]at H;replace H:=qg H;obtain⟨w0,H⟩|⟨w0,H⟩:=H
  .have x0:=qa H;clear H
   go_upto_if 15 with(fail)
   go_cut [4] (fun q0 wc=>∃(kq:Nat) (y0:Int),q0= .int .i64 y0/\Aside0 (Al.j1 kq r0 s0 y0=some r)/\Aside0 (kq<=k1)/\Aside0 (Kd.S (Kd.slice 3 ki) 22 wc w.heap.size (fun _=>True) u3 s0)/\Aside0 (Below w.heap.size w wc))
   case first=>
    have H:=x0.out;clear x0;replace H:=qg H;obtain⟨A0,H⟩|⟨A0,H⟩:=H
    ·(first|rw[A0]|(simp only[Bv,Fc];rw[A0])|skip);have H':=qa H;clear H;go_wp2;go_meet
     case rel=>exact⟨_,(r0),(sd),H',⟨z6_⟩,⟨kS v0⟩,⟨bl⟩⟩
    ·(first|rw[A0]|(simp only[Bv,Fc];rw[A0])|skip);have H':=qa H;clear H;go_wp2;go_meet
     case rel=>exact⟨_,(t0),(sd),H',⟨z6_⟩,⟨kS v0⟩,⟨bl⟩⟩
   case rest=>
    clear x0;obtain⟨kq,y0,rfl,HA,B0,v0,HB⟩:=hcut;obtain⟨C0,rfl,H⟩:=kz kq HA;clear HA;simp only[Al.j1]at H;have H':=qa H;clear H;go_wp2
    go_loopg [0,5] C0 (fun kq n0 D0 w'=>∃(E0:Int) (G0:Int),n0= .int .i64 E0/\D0= .int .i64 G0/\Aside0 (Al.l1 kq E0 s0 y0 G0=some r)/\Aside0 (kq<=C0)/\Aside0 (Kd.S (Kd.slice 3 ki) 22 w' w.heap.size (fun _=>True) u3 s0)/\Aside0 (Below w.heap.size w w'))
    case atStart=>exact⟨(r0),(0),(sd),(sd),H',⟨Nat.le_refl _⟩,⟨kS v0⟩,⟨bl⟩⟩
    case round=>
     clear H';obtain⟨E0,G0,rfl,rfl,HA,HK3,v0,HB⟩:=hrel;obtain⟨k3,rfl,H⟩:=kz gk HA;clear HA;simp only[Al.l1]at H
     by_cases J0:y0=0
     .rw[if_pos J0]at H;exact absurd H (by simp)
     .rw[if_neg J0]at H;have K0:(y0==0)=false:=beq_eq_false_iff_ne.mpr J0;have L0:(y0 != 0)=true:=bne_iff_ne.mpr J0;replace H:=qq H;obtain⟨M0,N0,H⟩|⟨P0,M0,N0,H⟩:=H
      .have H':=qa H;clear H;go_wp2
       go_roundg k3
       case measure=>have:=HK1.out;have:=B0.out;have:=HK3.out;omega
       case rel=>exact⟨(wrap64 (Int.tdiv E0 y0)),(wrap64 (G0+1)),(sd),(sd),H',⟨by have:=HK1.out;have:=B0.out;have:=HK3.out;omega⟩,⟨kS v0⟩,⟨bl⟩⟩
      .replace H:=qg H;obtain⟨Q0,H⟩|⟨Q0,H⟩:=H
       .obtain⟨R0,hy_⟩:∃y_:LI,y_=(([y0,G0]:LI)):=⟨_,rfl⟩;replace H:(if s0.length<5864062014805 then(Al.l0 k3 E0 (s0++[R0]) (wrap64 (y0+1)))else(none))=some r:=yh;have U0:=qa hy_;clear hy_;replace H:=qn H;obtain⟨V0,H⟩:=H;have W0:=qa V0;clear V0;obtain⟨X0,hy_⟩:∃y_:LL,y_=(s0++[R0]):=⟨_,rfl⟩;replace H:(Al.l0 k3 E0 X0 (wrap64 (y0+1)))=some r:=yh;have Y0:=qa hy_;clear hy_;have H':=qa H;clear H
        go_wp2_with(first|(refine rli .i64 3 31 U0.out fun a1 b1 c1 hb=>?_;replace v0:=qa (Kd.Jl (kS v0) (Kd.Av c1) hb);have d1:=lR c1;replace HB:=bs hb;clear hb c1;obtain⟨e1,g1,rfl⟩:=Kd.An d1.out)|((with_reducible refine Cw (b:= .append) (xs:=#[.tmp 28,.tmp 32]) rfl ?_);at_builtin;refine Kd.S_append (Kd.slice 3 ki) (w0:=w) w.heap.size rfl (.tmp 28) (.tmp 32) 23 22 (.slice none 0 0) 24 rfl Tryz.underlying23 info22 rfl kd_ ko_ u3 s0 R0 [.slice e1 R0.length g1] (fun _=>True) (fun k_=>some k_=(.slice e1 R0.length g1:Value).ownBlock) rfl rfl ?aP (fun k_ hk_=>((Kd.Cq (ok':=(fun k_=>((fun _=>True)) k_/\some k_≠(u3:Value).ownBlock)) (Kd.Jb (d1.out) (Kd.S_typed v0.out) kd_) (fun k_ hk=>⟨trivial,hk.2⟩))).1 k_ hk_.symm) ?aF ?aO ?aB ?aS ?aL ?_;(case aP=>exact Kd.M_row (Kd.Cq (Kd.R_tight rfl (Kd.Cq (ok':=(fun k_=>((fun _=>True)) k_/\some k_≠(u3:Value).ownBlock)) (Kd.Jb (d1.out) (Kd.S_typed v0.out) kd_) (fun k_ hk=>⟨trivial,hk.2⟩))) (fun _ h_=>h_)));(case aB=>exact(bl));(case aF=>exact(fun _ _=>trivial));(case aO=>exact(mS v0 (fun k_ hk=>⟨trivial,fun e_=>hk.2 e_⟩)));(case aS=>exact(Cj (bl)));(case aL=>have:=W0.out;omega);intro n1 p1 ho hb hg hat;rw[<-Y0.out]at ho;replace HB:=qa (hb);have q1:=qa (ho);clear v0 d1;clear ho hb hg hat))
        go_roundg k3
        case measure=>have:=HK1.out;have:=B0.out;have:=HK3.out;omega
        case rel=>exact⟨(E0),(X0),(wrap64 (y0+1)),(sd),(sd),H',⟨by have:=HK1.out;have:=B0.out;have:=HK3.out;omega⟩,⟨kS q1⟩,⟨bl⟩⟩
       .have H':=qa H;clear H;go_wp2
        go_roundg k3
        case measure=>have:=HK1.out;have:=B0.out;have:=HK3.out;omega
        case rel=>exact⟨(E0),(s0),(wrap64 (y0+1)),(sd),(sd),H',⟨by have:=HK1.out;have:=B0.out;have:=HK3.out;omega⟩,⟨kS v0⟩,⟨bl⟩⟩
  .obtain rfl:=sj H;go_wp2;go_ret;exact⟨_,er,kS v0,bl⟩

def Fi.l0:Nat->Int->LL->Int->Int->Option (Int)
 |0,_,_,_,_=>none
 |k+1,a0,b0,c0,d0=>if d0<c0 then(if 0<=d0 then(if d0<(b0.length:Int)then(if 0<((Bl b0 d0).length :Int)then(if(rd (Bl b0 d0) 0)=0 then(none)else(Fi.l0 k (wrap64 ((wrap64 (Int.tdiv a0 (rd (Bl b0 d0) 0)))*(wrap64 ((rd (Bl b0 d0) 0)-1)))) b0 c0 (wrap64 (d0+1))))else(none))else(none))else(none))else(some a0)
def Fi.f (k:Nat) (a0:Int):Option (Int):=(Al.f k a0).bind fun b0=>(Fi.l0 k a0 b0 (b0.length:Int) 0)
theorem Fi.mono_l:∀k,(∀a0 b0 c0 d0,LeO (Fi.l0 k a0 b0 c0 d0) (Fi.l0 (k+1) a0 b0 c0 d0))
 |0=>fun _ _ _ _ r h=>by simp[Fi.l0]at h
 |k+1=>by
  have ih0:=Fi.mono_l k
  .intro a0 b0 c0 d0;unfold Fi.l0;have m0:= @Al.mono;exact mz
theorem Fi.mono:∀a0 k,LeO (Fi.f k a0) (Fi.f (k+1) a0):=by
 intro a0 k;have ih0:=Fi.mono_l k;unfold Fi.f;have m0:= @Al.mono;exact mz
theorem Fi.c (k:Nat) (a0:Int) (r:Int) (w:World) (h:Fi.f k a0=some r):
  Calls Tryz.prog 113 #[.int .i64 a0] w fun e w'=>e= .returned (.int .i64 r)/\Below w.heap.size w w':=by
 have HB:=qa (Below.refl w.heap.size w);have H:=h;unfold Fi.f at H;clear h;replace H:=qb H;obtain⟨b0,c0,H⟩:=H;have H':=qa H;clear H
 go_enter Tryz.func113,Tryz.ntmps113
 go_wp2_with(first|(go_at_call 138;(with_reducible refine(Al.c k a0 b0 _ c0.out).mono ?_);rintro e d0 ⟨e0,rfl,g0,hb⟩;have j0:=lS g0;replace HB:=bs hb;obtain⟨n0,p0,rfl⟩:=Kd.Ft j0.out))
 repeat(go_quiet(fail);try go_wp2_with(first|(go_at_call 138;(with_reducible refine(Al.c k a0 b0 _ c0.out).mono ?_);rintro e d0 ⟨e0,rfl,g0,hb⟩;have j0:=lS g0;replace HB:=bs hb;obtain⟨n0,p0,rfl⟩:=Kd.Ft j0.out)))
 go_loopg [3,10] k (fun kq q0 r0 w'=>∃(s0:Int) (t0:Int),q0= .int .i64 s0/\r0= .int .i64 t0/\Aside0 (Fi.l0 kq s0 b0 (b0.length:Int) t0=some r)/\Aside0 (kq<=k)/\Aside0 (Kd.S (Kd.slice 3 ki) 22 w' w.heap.size (fun _=>True) (.slice n0 b0.length p0) b0)/\Aside0 (Below w.heap.size w w'))
 case atStart=>exact⟨(a0),(0),(sd),(sd),H',⟨Nat.le_refl _⟩,⟨kS j0⟩,⟨bl⟩⟩
 case round=>
  clear H';obtain⟨s0,t0,rfl,rfl,HA,HK1,v0,HB⟩:=hrel;obtain⟨k1,rfl,H⟩:=kz gk HA;clear HA;simp only[Fi.l0]at H;replace H:=qe H;obtain⟨w0,H⟩|⟨w0,H⟩:=H
  .replace H:=qd H;obtain⟨x0,H⟩:=H;replace H:=qd H;obtain⟨y0,H⟩:=H;replace H:=qL 0 H;obtain⟨A0,B0,H⟩:=H
   by_cases C0:(rd (Bl b0 t0) 0)=0
   .rw[if_pos C0]at H;exact absurd H (by simp)
   .rw[if_neg C0]at H;have D0:((rd (Bl b0 t0) 0)==0)=false:=beq_eq_false_iff_ne.mpr C0;have E0:((rd (Bl b0 t0) 0) != 0)=true:=bne_iff_ne.mpr C0;have H':=qa H;clear H;obtain⟨G0,J0,K0,⟨⟩,L0,HL181_0,M0,N0,P0,Q0⟩:=sg_L1 v0.out t0;obtain⟨R0,⟨⟩,U0,qi182,V0,W0⟩:=ain 0 (cw M0) 0;(try rw[Addr.add_zero']at U0);obtain⟨X0,qi183,Y0,a1⟩:=ajn 0 (cw M0) 0;(try rw[Addr.add_zero']at X0);go_wp2
    repeat(go_quiet(fail);try go_wp2)
    go_roundg k1
    case measure=>have:=HK1.out;omega
    case rel=>exact⟨(wrap64 ((wrap64 (Int.tdiv s0 (rd (Bl b0 t0) 0)))*(wrap64 ((rd (Bl b0 t0) 0)-1)))),(wrap64 (t0+1)),(sd),(sd),H',⟨by have:=HK1.out;omega⟩,⟨kS v0⟩,⟨bl⟩⟩
  .obtain rfl:=sj H;go_wp2
   repeat(go_quiet(fail);try go_wp2)
   go_ret;exact⟨er,bl⟩

def Fh.l0:Nat->Int->LI->Int->Int->Option (Int)
 |0,_,_,_,_=>none
 |k+1,a0,b0,c0,d0=>if d0<c0 then(if 0<=d0 then(if d0<(b0.length:Int)then(Fh.l0 k (wrap64 (a0+(rd b0 d0))) b0 c0 (wrap64 (d0+1)))else(none))else(none))else(some a0)
def Fh.f (k:Nat) (a0:LI):Option (Int):=Fh.l0 k 0 a0 (a0.length:Int) 0
theorem Fh.mono_l:∀k,(∀a0 b0 c0 d0,LeO (Fh.l0 k a0 b0 c0 d0) (Fh.l0 (k+1) a0 b0 c0 d0))
 |0=>fun _ _ _ _ r h=>by simp[Fh.l0]at h
 |k+1=>by
  have ih0:=Fh.mono_l k
  .intro a0 b0 c0 d0;unfold Fh.l0;exact mz
theorem Fh.mono:∀a0 k,LeO (Fh.f k a0) (Fh.f (k+1) a0):=by
 intro a0 k;have ih0:=Fh.mono_l k;unfold Fh.f;exact mz
theorem Fh.c (k:Nat) (a0:OA) (b0:Nat) (c0:LI) (r:Int) (w:World) (d0:Kd.C ki w a0 c0.length c0) (e0:c0.length<=b0) (h:Fh.f k c0=some r):
  Calls Tryz.prog 136 #[.slice a0 c0.length b0] w fun e w'=>e= .returned (.int .i64 r)/\Drawn0 w w':=by
 have g0:=qa d0;have j0:=qa e0;clear d0 e0;have H:=h;unfold Fh.f at H;clear h;have H':=qa H;clear H
 go_enter Tryz.func136,Tryz.ntmps136
 go_wp2
 go_loopg [3,8] k (fun kq n0 p0 w'=>∃(q0:Int) (r0:Int),n0= .int .i64 q0/\p0= .int .i64 r0/\Aside0 (Fh.l0 kq q0 c0 (c0.length:Int) r0=some r)/\Aside0 (kq<=k)/\Drawn0 w w')
 case atStart=>exact⟨(0),(0),(sd),(sd),H',⟨Nat.le_refl _⟩,dr⟩
 case round=>
  clear H';obtain⟨q0,r0,rfl,rfl,HA,HK1,⟨m1,rfl⟩⟩:=hrel;obtain⟨k1,rfl,H⟩:=kz gk HA;clear HA;simp only[Fh.l0]at H;replace H:=qe H;obtain⟨s0,H⟩|⟨s0,H⟩:=H
  .replace H:=qd H;obtain⟨t0,H⟩:=H;replace H:=qd H;obtain⟨v0,H⟩:=H;have H':=qa H;clear H;obtain⟨w0,⟨⟩,x0,y0,A0⟩:=ai g0.out r0;go_wp2
   go_roundg k1
   case measure=>have:=HK1.out;omega
   case rel=>exact⟨(wrap64 (q0+(rd c0 r0))),(wrap64 (r0+1)),(sd),(sd),H',⟨by have:=HK1.out;omega⟩,dr⟩
  .obtain rfl:=sj H;go_wp2;go_ret;exact⟨sd,dr⟩

def Fv.l0:Nat->Int->LL->Int->Int->Option (Int)
 |0,_,_,_,_=>none
 |k+1,a0,b0,c0,d0=>if d0<c0 then(if 0<=d0 then(if d0<(b0.length:Int)then(if 1<((Bl b0 d0).length :Int)then(if(rd (Bl b0 d0) 1)>1 then(some 0)else(Fv.l0 k (wrap64 (-a0)) b0 c0 (wrap64 (d0+1))))else(none))else(none))else(none))else(some a0)
def Fv.f (k:Nat) (a0:Int):Option (Int):=(Al.f k a0).bind fun b0=>(Fv.l0 k 1 b0 (b0.length:Int) 0)
theorem Fv.mono_l:∀k,(∀a0 b0 c0 d0,LeO (Fv.l0 k a0 b0 c0 d0) (Fv.l0 (k+1) a0 b0 c0 d0))
 |0=>fun _ _ _ _ r h=>by simp[Fv.l0]at h
 |k+1=>by
  have ih0:=Fv.mono_l k
  .intro a0 b0 c0 d0;unfold Fv.l0;have m0:= @Al.mono;exact mz
theorem Fv.mono:∀a0 k,LeO (Fv.f k a0) (Fv.f (k+1) a0):=by
 intro a0 k;have ih0:=Fv.mono_l k;unfold Fv.f;have m0:= @Al.mono;exact mz
theorem Fv.c (k:Nat) (a0:Int) (r:Int) (w:World) (h:Fv.f k a0=some r):
  Calls Tryz.prog 137 #[.int .i64 a0] w fun e w'=>e= .returned (.int .i64 r)/\Below w.heap.size w w':=by
 have HB:=qa (Below.refl w.heap.size w);have H:=h;unfold Fv.f at H;clear h;replace H:=qb H;obtain⟨b0,c0,H⟩:=H;have H':=qa H;clear H
 go_enter Tryz.func137,Tryz.ntmps137
 go_wp2_with(first|(refine ge_ 7 Tryz.func138 (Al.c k a0 b0 _ c0.out) fun d0 e0 g0 hb=>?_;have j0:=lS g0;replace HB:=bs hb;obtain⟨n0,p0,rfl⟩:=Kd.Ft j0.out))
 go_loopg [3,9] k (fun kq q0 r0 w'=>∃(s0:Int) (t0:Int),q0= .int .i64 s0/\r0= .int .i64 t0/\Aside0 (Fv.l0 kq s0 b0 (b0.length:Int) t0=some r)/\Aside0 (kq<=k)/\Aside0 (Kd.S (Kd.slice 3 ki) 22 w' w.heap.size (fun _=>True) (.slice n0 b0.length p0) b0)/\Aside0 (Below w.heap.size w w'))
 case atStart=>exact⟨(1),(0),(sd),(sd),H',⟨Nat.le_refl _⟩,⟨kS j0⟩,⟨bl⟩⟩
 case round=>
  clear H';obtain⟨s0,t0,rfl,rfl,HA,HK1,v0,HB⟩:=hrel;obtain⟨k1,rfl,H⟩:=kz gk HA;clear HA;simp only[Fv.l0]at H;replace H:=qe H;obtain⟨w0,H⟩|⟨w0,H⟩:=H
  .replace H:=qd H;obtain⟨x0,H⟩:=H;replace H:=qd H;obtain⟨y0,H⟩:=H;replace H:=qL 1 H;obtain⟨A0,B0,H⟩:=H;replace H:=qg H;obtain⟨C0,H⟩|⟨C0,H⟩:=H
   .obtain rfl:=sj H;obtain⟨D0,E0,G0,⟨⟩,J0,HL188_0,K0,L0,M0,N0⟩:=sg_L1 v0.out t0;have P0:0<=(1:Int):=ko_;have Q0:1<((Bl b0 t0).length :Int):=qo;obtain⟨R0,U0,V0⟩:=Kd.Fx (cw K0) 1 P0 Q0;cases U0;(try simp only[show(1:Int).toNat =1 from rfl,Nat.reduceMul,Nat.reduceEqDiff,Go.Addr.add,↓reduceIte]at V0);have qi189:(1<(Bl b0 t0).length)=True:=eq_true ko_;(try rw[show((1:Int)).toNat =1 from rfl]at V0);replace P0:=eq_true P0;replace Q0:=eq_true Q0;go_wp2;go_ret;exact⟨er,bl⟩
   .have H':=qa H;clear H;obtain⟨D0,E0,G0,⟨⟩,J0,HL188_0,K0,L0,M0,N0⟩:=sg_L1 v0.out t0;have P0:0<=(1:Int):=ko_;have Q0:1<((Bl b0 t0).length :Int):=qo;obtain⟨R0,U0,V0⟩:=Kd.Fx (cw K0) 1 P0 Q0;cases U0;(try simp only[show(1:Int).toNat =1 from rfl,Nat.reduceMul,Nat.reduceEqDiff,Go.Addr.add,↓reduceIte]at V0);have qi189:(1<(Bl b0 t0).length)=True:=eq_true ko_;(try rw[show((1:Int)).toNat =1 from rfl]at V0);replace P0:=eq_true P0;replace Q0:=eq_true Q0;go_wp2
    go_roundg k1
    case measure=>have:=HK1.out;omega
    case rel=>exact⟨(wrap64 (-s0)),(wrap64 (t0+1)),(sd),(sd),H',⟨by have:=HK1.out;omega⟩,⟨kS v0⟩,⟨bl⟩⟩
  .obtain rfl:=sj H;go_wp2;go_ret;exact⟨er,bl⟩
end Go.Proofs.YtdmlkjjlgkdnlaaGreatDoor.PFnDeskSay
