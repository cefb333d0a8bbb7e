import Derived.Test.YtdmlkjjlgkdnlaaGreatDoorPFnDeskSayx9
namespace Go.Proofs.YtdmlkjjlgkdnlaaGreatDoor.PFnDeskSay
open Go.RowKit Go.Proofs.YtdmlkjjlgkdnlaaGreatDoorW.PrintWords Go.Proofs.YtdmlkjjlgkdnlaaGreatDoorW.PrintLast Go.Proofs.YtdmlkjjlgkdnlaaGreatDoorW.PrintMore
attribute [local go_sem] Iz Ix Jy Jx Hy Hx Iy Iw
set_option linter.unusedVariables false
set_option linter.unusedSimpArgs false
set_option maxHeartbeats 8000000
set_option maxRecDepth 100000
/-- The last row of a row of rows, and what stands ahead of it: apart. -/
theorem S_pop2 {α:Type} {d:Kd α} {e e':Nat} {w:World} {base:Nat} {ok:Nat->Prop} {ad:Addr} {n cap m:Nat} {xs:List (List α)} (h:Kd.S (Kd.slice e' d) e w base ok (.slice (some ad) n cap) xs) (hn:xs.length=m+1) (a0:n=m+1):
  ∃v,w.cell? (ad.add m)=some v/\Kd.R d e' w base (fun k=>ok k) v (xs.getD m [])/\Kd.S (Kd.slice e' d) e w base (fun k=>ok k/\some k≠v.ownBlock) (.slice (some ad) m cap) (xs.take m):=by
 obtain⟨f,hf⟩:=h;(have hlen:xs.zipIdx.length=m+1:=by rw[List.length_zipIdx];exact hn);obtain⟨c,hcl,hM,hc⟩:=Kd.R_getA hf (([]:List α),m) (m:Int) ko_ ko_
 have hz:xs.zipIdx.getD ((m:Int)).toNat (([]:List α),m)=(xs.getD m [],m):=by
  (have b0:((m:Int)).toNat =m:=by omega);rw[b0,List.getD_eq_getElem?_getD,List.getElem?_zipIdx,List.getD_eq_getElem?_getD,List.getElem?_eq_getElem ko_]
  simp
 rw[hz]at hM;obtain⟨v,rfl,hv⟩:=hM
 have hcell:w.cell? (ad.add m)=some v:=by
  have:=hc 0 v rfl
  have b0:((m:Int)).toNat *(Kd.tag f (Kd.slice e' d)).sz +0=m:=by
   show((m:Int)).toNat *1+0=m
   omega
  rwa [b0]at this
 refine⟨v,hcell,Kd.Cq hv (fun k hk=>hk.1.1),f,?_⟩;have ht:=Kd.R_take hf (m:=m) ko_
 have c0:(xs.take m).zipIdx =xs.zipIdx.take m:=by
  apply List.ext_getElem?
  intro j;rw[List.getElem?_zipIdx,List.getElem?_take,List.getElem?_take,List.getElem?_zipIdx]
  split <;> simp
 rw[c0];obtain⟨h0,inner,ho,hr⟩:=ht;(have hvb:∀k,v.ownBlock=some k->f k=m/\some k≠(Value.slice (some ad) m cap).ownBlock :=fun k hk=>⟨(hv.1 k hk).2,fun e=>(hv.1 k hk).1.2 (by rw[e];rfl)⟩);refine⟨fun k hk=>⟨h0 k hk,fun e=>(hvb k e.symm).2 hk.symm⟩,inner,ho,hr.1,fun j p hj=>?_⟩;have hq:=hr.2 j p hj
 have hp:p.2=j/\j<m:=by
  rw[List.getElem?_take]at hj
  split at hj
  .rename_i hlt
   rw[List.getElem?_zipIdx]at hj;obtain⟨x,hx,rfl⟩:=Option.map_eq_some_iff.1 hj;exact⟨by simp,hlt⟩
  .cases hj
 refine(Kd.tag f (Kd.slice e' d)).M_mono (fun k hk=>hk) ?_;exact(Kd.slice e' d).M_mono (fun k hk=>⟨⟨⟨hk.1.1,fun e=>by have:=(hvb k e.symm).1;have:=hk.2;omega⟩,hk.1.2⟩,hk.2⟩) hq
theorem w64_small2 (x:Int) (h0:0<=x) (h1:x<4096):wrap64 x=x:=by
 unfold wrap64
 omega

mutual
def Ah.j0:Nat->Bool->LI->LL->Int->Int->Int->LI->LL->Option (LI×LL×Bool)
 |0,_,_,_,_,_,_,_,_=>none
 |k+1,a0,b0,c0,d0,e0,g0,l0,n0=>if a0=true then(some (l0,n0,false))else(if d0=0 then((Dx.f k e0).bind fun p0=>((Hg.f k b0 p0).bind fun q0=>(Ah.j1 k q0.1 q0.2 b0 c0 l0 n0)))else(if d0=1 then((Dx.f k e0).bind fun r0=>((Gi.f k b0 r0).bind fun s0=>(Ah.j1 k s0.1 s0.2 b0 c0 l0 n0)))else(if d0=2 then((Ie.f k b0).bind fun t0=>(Ah.j1 k t0.1 t0.2 b0 c0 l0 n0))else(if d0=3 then(if e0>=1 then(if e0<=24 then(if g0>=0 then(if g0<=9999 then((Cs.f k b0).bind fun v0=>(if 0<=(wrap64 (e0-1))then(if(wrap64 (e0-1))<(v0.length:Int)then(Ah.j1 k (v0.set ((wrap64 (e0-1)):Int).toNat g0) true b0 c0 l0 n0)else(none))else(none)))else(Ah.j1 k ([]:LI) false b0 c0 l0 n0))else(Ah.j1 k ([]:LI) false b0 c0 l0 n0))else(Ah.j1 k ([]:LI) false b0 c0 l0 n0))else(Ah.j1 k ([]:LI) false b0 c0 l0 n0))else(if d0=4 then(if n0.length=0 then(some (l0,n0,false))else(if n0.length<4096 then(some (n0.getD (n0.length-1) [],n0.take (n0.length-1),true))else(none)))else(Ah.j1 k ([]:LI) false b0 c0 l0 n0))))))
def Ah.j1:Nat->LI->Bool->LI->LL->LI->LL->Option (LI×LL×Bool)
 |0,_,_,_,_,_,_=>none
 |k+1,w0,x0,b0,c0,l0,n0=>if x0=true then((Df.f k w0 b0).bind fun y0=>(Ah.j2 k w0 y0 l0 n0))else(Ah.j2 k w0 true l0 n0)
def Ah.j2:Nat->LI->Bool->LI->LL->Option (LI×LL×Bool)
 |0,_,_,_,_=>none
 |k+1,w0,A0,l0,n0=>if A0=true then(some (l0,n0,false))else(if n0.length<5864062014805 then((some (n0++[l0]:LL)).bind fun B0=>(if(B0.length:Int)>8 then(if 1<=(B0.length:Int)then((Bx.f k w0 (B0.drop (1:Int).toNat)).bind fun C0=>(some (C0.1,C0.2,true)))else(none))else((Bx.f k w0 B0).bind fun D0=>(some (D0.1,D0.2,true)))))else(none))
end

def Ah.f (k:Nat) (a0:LI) (b0:LL) (c0:Int) (d0:Int) (e0:Int):Option (LI×LL×Bool):=(Ej.f k a0 b0).bind fun g0=>(if g0=true then((Bx.f k a0 b0).bind fun l0=>(if c0=3 then(if c0=2 then(Ah.j0 k (d0 != 0) a0 b0 c0 d0 e0 l0.1 l0.2)else(if c0=4 then(Ah.j0 k (d0 != 0) a0 b0 c0 d0 e0 l0.1 l0.2)else(Ah.j0 k false a0 b0 c0 d0 e0 l0.1 l0.2)))else(if e0=0 then(if c0=2 then(Ah.j0 k (d0 != 0) a0 b0 c0 d0 e0 l0.1 l0.2)else(if c0=4 then(Ah.j0 k (d0 != 0) a0 b0 c0 d0 e0 l0.1 l0.2)else(Ah.j0 k false a0 b0 c0 d0 e0 l0.1 l0.2)))else(Ah.j0 k true a0 b0 c0 d0 e0 l0.1 l0.2))))else(some (([]:LI),([]:LL),false)))
def Ah.T9:Bool×List (List Nat×List Nat):=(true,[([],[]),([0],[0]),([],[]),([2],[2]),([3],[3]),([1,4,4],[1,4]),([5],[5]),([6],[6]),([6],[6]),([7,5,0,1,2,3,4,5,6,7],[7]),([8,9,0,1,2,3,4,5,6,7,8,9],[8])])
def Ah.B9:List Nat:=[0,1,0,4,12,31,63,127,127,255,1023]
theorem Ah.tab9:rtab .any (opsOf Tryz.f53 9)=Ah.T9:=by kernel_rfl
theorem Ah.bits9:Gg Ah.T9.2 Ah.B9=true:=by kernel_rfl
def Ah.T11:Bool×List (List Nat×List Nat):=(true,[([],[]),([0],[0]),([],[]),([2],[2]),([3],[3]),([1,4,4],[1,4]),([5],[5]),([6],[6]),([6],[6]),([7,5,0,1,2,3,4,5,6,7],[7]),([8,9,0,1,2,3,4,5,6,7,8,9],[8])])
def Ah.B11:List Nat:=[0,1,0,4,12,31,63,127,127,255,1023]
theorem Ah.tab11:rtab .any (opsOf Tryz.f53 11)=Ah.T11:=by kernel_rfl
theorem Ah.bits11:Gg Ah.T11.2 Ah.B11=true:=by kernel_rfl
theorem Ah.c (k:Nat) (a0:OA) (b0:Nat) (c0:LI) (d0:OA) (e0:Nat) (g0:LL) (l0:Int) (n0:Int) (p0:Int) (q0:LI) (r0:LL) (s0:Bool) (w:World) (t0:Kd.C ki w a0 c0.length c0) (v0:c0.length<=b0) (w0:Kd.C (Kd.slice 3 ki) w d0 g0.length g0) (x0:g0.length<=e0) (h:Ah.f k c0 g0 l0 n0 p0=some (q0,r0,s0)):
  Calls Tryz.prog 53 #[.agg #[.slice a0 c0.length b0,.slice d0 g0.length e0],.agg #[.int .i64 l0,.int .i64 n0,.int .i64 p0]] w fun e w'=>∃v0_ v1_:Value,e= .returned (.tuple #[.agg #[v0_,v1_],.bool s0])/\Kd.R ki 3 w' w.heap.size (fun _=>True) v0_ q0/\Kd.Q (Kd.slice 3 ki) 22 w' w.heap.size (N1 v0_) v1_ r0/\Below w.heap.size w w':=by
 have y0:=Tryz.underlying27;have A0:=Tryz.underlying55;have B0:=qa t0;have C0:=qa v0;clear t0 v0;have D0:=qa w0;have E0:=qa x0;clear w0 x0;have HB:=qa (Below.refl w.heap.size w);have H:=h;unfold Ah.f at H;clear h;replace H:=qb H;obtain⟨G0,J0,H⟩:=H;replace H:=qc H;obtain⟨rfl,H⟩|⟨rfl,H⟩:=H
 .replace H:=qb H;obtain⟨⟨K0,L0⟩,M0,H⟩:=H;(try dsimp only at H);have N0:=qa H;clear H
  go_enter Tryz.func53,Tryz.ntmps53
  go_upto_region 4 with(go_big_may;first|(refine bx 2 #[.slice a0 c0.length b0,.slice d0 g0.length e0] 27 ?_;intro P0 hg Q0 hbox hb;have R0:=qa (hbox);have U0:=gw hg;replace HB:=bs hb;clear hb hbox hg)|(refine bx 3 #[.int .i64 l0,.int .i64 n0,.int .i64 p0] 55 ?_;intro V0 hg W0 hbox hb;have X0:=qa (hbox);have Y0:=gw hg;replace HB:=bs hb;obtain⟨a1,b1⟩:=qnn hg R0;replace R0:=qbb R0 hb;clear hb hbox hg)|(refine bx 4 #[.slice none 0 0,.slice none 0 0] 27 ?_;intro c1 hg d1 hbox hb;have e1:=qa (hbox);have g1:=gw hg;replace HB:=bs hb;obtain⟨l1,n1⟩:=qnn hg R0;replace R0:=qbb R0 hb;obtain⟨p1,q1⟩:=qnn hg X0;replace X0:=qbb X0 hb;clear hb hbox hg;obtain⟨_,_,_,_⟩:=o4 a1 b1 l1 n1;obtain⟨r1,s1,t1,v1⟩:=qk2 R0)|(refine gb 12 Tryz.func37 (Ej.c k _ _ c0 _ _ g0 true _ (cx (Kd.Ai B0.out HB.out)) C0.out (cx (Kd.Ai D0.out HB.out)) E0.out J0.out) fun w1 hb=>?_;replace R0:=qbb R0 hb;replace X0:=qbb X0 hb;replace e1:=qbb e1 hb;replace HB:=bs hb;obtain⟨x1,y1,A1,B1⟩:=qk2 R0)|(refine gol (some 16) Tryz.func54 #[.agg #[.slice a0 c0.length b0,.slice d0 g0.length e0]] ?_;(with_reducible refine(Bx.c k _ _ c0 _ _ g0 K0 L0 _ ?C1 ?D1 ?E1 ?G1 M0.out).mono ?_);(case C1=>exact cx (Kd.Ai B0.out HB.out));(case D1=>exact C0.out);(case E1=>exact cx (Kd.Ai D0.out HB.out));(case G1=>exact E0.out);rintro e J1 ⟨K1,L1,rfl,M1,P1,hb⟩;refine⟨_,rfl,?_⟩;have Q1:=lR M1;have R1:=lS P1;replace R0:=qbb R0 hb;replace X0:=qbb X0 hb;replace e1:=qbb e1 hb;replace HB:=bs hb)|(refine bx 6 #[.slice none 0 0,.slice none 0 0] 27 ?_;intro U1 hg V1 hbox hb;replace Q1:=bR Q1 hb;replace R1:=bS R1 hb;have W1:=qa (hbox);have X1:=gw hg;replace HB:=bs hb;obtain⟨Y1,a2⟩:=qnn hg R0;replace R0:=qbb R0 hb;obtain⟨b2,c2⟩:=qnn hg X0;replace X0:=qbb X0 hb;obtain⟨d2,e2⟩:=qnn hg e1;replace e1:=qbb e1 hb;clear hb hbox hg;obtain⟨g2,l2,rfl⟩:=Kd.An Q1.out;obtain⟨_,_,_,_,_,_⟩:=o6 a2 Y1 c2 b2 e2 d2;obtain⟨n2,p2,q2,r2⟩:=qk2 W1;obtain⟨s2,t2,rfl⟩:=Kd.Ft R1.out))
  (try simp only[Act.put,sA,sZ,sS])
  go_cut [39] (fun v2 wc=>∃(kq:Nat) (w2:Bool),v2= .bool w2/\Aside0 (Ah.j0 kq w2 c0 g0 l0 n0 p0 K0 L0=some (q0,r0,s0))/\Aside0 (kq<=k)/\Aside0 (Kd.R ki 3 wc w.heap.size (fun _=>True) (.slice g2 K0.length l2) K0)/\Aside0 (Kd.S (Kd.slice 3 ki) 22 wc w.heap.size (N1 (sv g2 K0 l2)) (.slice s2 L0.length t2) L0)/\Aside0 (wc.heap[P0]? =some (.cells #[(.slice a0 c0.length b0),(.slice d0 g0.length e0)] 27 (0,0)))/\Aside0 (wc.heap[V0]? =some (.cells #[.int .i64 l0,.int .i64 n0,.int .i64 p0] 55 (0,0)))/\Aside0 (wc.heap[c1]? =some (.cells #[(.slice none 0 0),(.slice none 0 0)] 27 (0,0)))/\Aside0 (wc.heap[U1]? =some (.cells #[(.slice g2 K0.length l2),(.slice s2 L0.length t2)] 27 (0,0)))/\Aside0 (Below w.heap.size w wc))
  case first=>
   have H:=N0.out;clear N0;replace H:=qq H;obtain⟨x2,y2,H⟩|⟨A2,x2,y2,H⟩:=H
   ·(first|rw[x2]|(simp only[Bv,Fc];rw[x2])|skip);replace H:=qq H;obtain⟨B2,C2,H⟩|⟨D2,B2,C2,H⟩:=H
    .have H':=qa H;clear H;obtain⟨_,_,_,_,_,_⟩:=o6 b1 a1 p1 q1 b2 c2;obtain⟨E2,G2,J2,K2,L2,M2⟩:=qk3 X0;go_wp2;go_meet
     case rel=>exact⟨_,((n0 != 0)),(sd),H',⟨by first|omega|exact Nat.le_refl _⟩,⟨kFR Q1 W1 (fun _ hk=>trivial)⟩,⟨(kFS R1 W1 (fun _ hk=>hk.1))⟩,⟨kb R0⟩,⟨kb X0⟩,⟨kb e1⟩,⟨kP W1⟩,⟨bl⟩⟩
    .replace H:=qq H;obtain⟨P2,Q2,H⟩|⟨R2,P2,Q2,H⟩:=H
     .have H':=qa H;clear H;obtain⟨_,_,_,_,_,_⟩:=o6 b1 a1 p1 q1 b2 c2;obtain⟨U2,V2,W2,X2,Y2,a3⟩:=qk3 X0;go_wp2;go_meet
      case rel=>exact⟨_,((n0 != 0)),(sd),H',⟨by first|omega|exact Nat.le_refl _⟩,⟨kFR Q1 W1 (fun _ hk=>trivial)⟩,⟨(kFS R1 W1 (fun _ hk=>hk.1))⟩,⟨kb R0⟩,⟨kb X0⟩,⟨kb e1⟩,⟨kP W1⟩,⟨bl⟩⟩
     .have H':=qa H;clear H;obtain⟨_,_,_,_,_,_⟩:=o6 b1 a1 p1 q1 b2 c2;obtain⟨b3,c3,d3,e3,g3,j3⟩:=qk3 X0;go_wp2;go_meet
      case rel=>exact⟨_,(false),(sd),H',⟨by first|omega|exact Nat.le_refl _⟩,⟨kFR Q1 W1 (fun _ hk=>trivial)⟩,⟨(kFS R1 W1 (fun _ hk=>hk.1))⟩,⟨kb R0⟩,⟨kb X0⟩,⟨kb e1⟩,⟨kP W1⟩,⟨bl⟩⟩
   ·(first|rw[x2]|(simp only[Bv,Fc];rw[x2])|skip);replace H:=qq H;obtain⟨l3,n3,H⟩|⟨p3,l3,n3,H⟩:=H
    .replace H:=qq H;obtain⟨q3,r3,H⟩|⟨s3,q3,r3,H⟩:=H
     .have H':=qa H;clear H;obtain⟨_,_,_,_,_,_⟩:=o6 b1 a1 p1 q1 b2 c2;obtain⟨t3,v3,w3,x3,y3,A3⟩:=qk3 X0;go_wp2;go_meet
      case rel=>exact⟨_,((n0 != 0)),(sd),H',⟨by first|omega|exact Nat.le_refl _⟩,⟨kFR Q1 W1 (fun _ hk=>trivial)⟩,⟨(kFS R1 W1 (fun _ hk=>hk.1))⟩,⟨kb R0⟩,⟨kb X0⟩,⟨kb e1⟩,⟨kP W1⟩,⟨bl⟩⟩
     .replace H:=qq H;obtain⟨B3,C3,H⟩|⟨D3,B3,C3,H⟩:=H
      .have H':=qa H;clear H;obtain⟨_,_,_,_,_,_⟩:=o6 b1 a1 p1 q1 b2 c2;obtain⟨E3,G3,J3,K3,L3,M3⟩:=qk3 X0;go_wp2;go_meet
       case rel=>exact⟨_,((n0 != 0)),(sd),H',⟨by first|omega|exact Nat.le_refl _⟩,⟨kFR Q1 W1 (fun _ hk=>trivial)⟩,⟨(kFS R1 W1 (fun _ hk=>hk.1))⟩,⟨kb R0⟩,⟨kb X0⟩,⟨kb e1⟩,⟨kP W1⟩,⟨bl⟩⟩
      .have H':=qa H;clear H;obtain⟨_,_,_,_,_,_⟩:=o6 b1 a1 p1 q1 b2 c2;obtain⟨N3,P3,Q3,R3,U3,V3⟩:=qk3 X0;go_wp2;go_meet
       case rel=>exact⟨_,(false),(sd),H',⟨by first|omega|exact Nat.le_refl _⟩,⟨kFR Q1 W1 (fun _ hk=>trivial)⟩,⟨(kFS R1 W1 (fun _ hk=>hk.1))⟩,⟨kb R0⟩,⟨kb X0⟩,⟨kb e1⟩,⟨kP W1⟩,⟨bl⟩⟩
    .have H':=qa H;clear H;obtain⟨_,_,_,_,_,_⟩:=o6 b1 a1 p1 q1 b2 c2;obtain⟨W3,X3,Y3,a4,b4,c4⟩:=qk3 X0;go_wp2;go_meet
     case rel=>exact⟨_,(true),(sd),H',⟨by first|omega|exact Nat.le_refl _⟩,⟨kFR Q1 W1 (fun _ hk=>trivial)⟩,⟨(kFS R1 W1 (fun _ hk=>hk.1))⟩,⟨kb R0⟩,⟨kb X0⟩,⟨kb e1⟩,⟨kP W1⟩,⟨bl⟩⟩
  case rest=>
   clear N0;obtain⟨kq,w2,rfl,HA,d4,e4,g4,R0,X0,e1,W1,HB⟩:=hcut;have HS_:=g4;replace g4:=qa (Kd.Gv (Kd.S_R HS_.out));obtain⟨j4,rfl,H⟩:=kz kq HA;clear HA;simp only[Ah.j0]at H;replace H:=qc H;obtain⟨rfl,H⟩|⟨rfl,H⟩:=H
   .simp only[Option.some.injEq,Prod.mk.injEq]at H;obtain⟨rfl,rfl,rfl⟩:=H;obtain⟨l4,n4,p4,q4,r4,s4⟩:=o6 a2 Y1 c2 b2 e2 d2;obtain⟨t4,v4,w4,x4⟩:=qk2 W1;obtain⟨y4,A4,B4,C4⟩:=o4 n1 l1 q1 p1;obtain⟨D4,E4,G4,J4⟩:=qk2 e1;go_wp2;refine bodyPost_ret (Da rfl _ _ c1 27 #[.slice g2 K0.length l2,.slice s2 L0.length t2] (0,0) _ rfl (kP e1) Tryz.underlying27 rfl kr_) rfl ?_;exact⟨_,_,er,kFR e4 e1 (fun _ hk=>trivial),kFQ g4 e1 (fun _ hk=>hk.1),bl⟩
   .have K4:=qa H;clear H;obtain⟨_,_,_,_,_,_⟩:=o6 b1 a1 p1 q1 b2 c2;obtain⟨L4,M4,N4,P4,Q4,R4⟩:=qk3 X0
    go_upto_block 0 with(fail)
    go_cut [7,8] (fun U4 V4 wc=>∃(kq:Nat) (W4:LI) (X4:Bool) (Y4:LI) (a5:Value),V4= .bool X4/\Aside0 (Ah.j1 kq W4 X4 c0 g0 Y4 L0=some (q0,r0,s0))/\Aside0 (kq<=j4)/\Aside0 (Kd.R ki 3 wc w.heap.size (N1 a5) U4 W4)/\Aside0 (Kd.R ki 3 wc w.heap.size (N1 U4) a5 Y4)/\Aside0 (Kd.Q (Kd.slice 3 ki) 22 wc w.heap.size (N2 U4 a5) (.slice s2 L0.length t2) L0)/\Aside0 (wc.heap[P0]? =some (.cells #[(.slice a0 c0.length b0),(.slice d0 g0.length e0)] 27 (0,0)))/\Aside0 (wc.heap[V0]? =some (.cells #[.int .i64 l0,.int .i64 n0,.int .i64 p0] 55 (0,0)))/\Aside0 (wc.heap[c1]? =some (.cells #[(.slice none 0 0),(.slice none 0 0)] 27 (0,0)))/\Aside0 (wc.heap[U1]? =some (.cells #[a5,(.slice s2 L0.length t2)] 27 (0,0)))/\Aside0 (Below w.heap.size w wc))
    case first=>
     have H:=K4.out;clear K4;replace H:=qq H;obtain⟨b5,c5,H⟩|⟨d5,b5,c5,H⟩:=H
     ·(first|rw[b5]|(simp only[Bv,Fc];rw[b5])|skip);replace H:=qb H;obtain⟨e5,g5,H⟩:=H;replace H:=qb H;obtain⟨⟨j5,l5⟩,n5,H⟩:=H;(try dsimp only at H);have H':=qa H;clear H
      try go_wp2
      replace e4:=qa (Kd.Fp e4.out);replace g4:=qa (Kd.Gp g4.out);replace R0:=qa (Ak R0.out);replace X0:=qa (Ak X0.out);replace e1:=qa (Ak e1.out);replace W1:=qa (Ak W1.out);replace HB:=qa (Dd HB.out);refine Hq (n:=11) (S:=fun w'=>w'.cell? ⟨P0,0,none⟩=some (.slice a0 c0.length b0)/\w'.cell? ⟨P0,1,none⟩=some (.slice d0 g0.length e0)/\w'.cell? ⟨V0,0,none⟩=some (.int .i64 l0)/\w'.cell? ⟨V0,1,none⟩=some (.int .i64 n0)/\w'.cell? ⟨V0,2,none⟩=some (.int .i64 p0)) (ds:=[]) _ kr_ rfl rfl ⟨bc R0 0,bc R0 1,bc X0 0,bc X0 1,bc X0 2⟩ (fun hHeld=>?_);refine Gd Ah.tab9 Ah.bits9 (fun HT_ HW_=>?_);generalize wc.drew=p5 at e4 g4 R0 X0 e1 W1 HB hHeld ⊢;refine pur 0 46 (bz 11 1) HT_ ?_;refine pur 2 48 (bz 11 5) HT_ ?_;refine tk 1 47 (bz 11 7) hHeld (Ez HT_.out HW_.out kr_) ?_;refine tk 3 49 (bz 11 15) hHeld (Ez HT_.out HW_.out kr_) ?_;(refine o1 4 (some 50) (bz 11 31) (Dr HT_.out kr_) fun K hK=>?_);(refine gse Tryz.func96 (Dx.c j4 n0 e5 _ g5.out) fun q5 r5 M1 hb=>?_);replace g4:=eQ g4 (Kd.Av M1) hb;have s5:=lR (Kd.Cl M1 (Kd.R_lt (kR e4)));replace e4:=eR e4 (Kd.Av M1) hb;replace R0:=qbb R0 hb;replace X0:=qbb X0 hb;replace e1:=qbb e1 hb;replace W1:=qbb W1 hb;replace HB:=bs hb;(try clear hb);(try clear t5);(try clear hk);(try clear hi);(try clear M1);obtain⟨v5,w5,x5⟩:=Kd.An s5.out;(first|subst x5|(injection x5 with f1_ f2_ f3_;have f4_:=f1_.symm;have f5_:=f3_.symm;clear f1_ f2_ f3_;subst f4_;subst f5_));refine hK.out _ _ ⟨bc R0 0,bc R0 1,bc X0 0,bc X0 1,bc X0 2⟩ (fun hHeld=>?_);clear hK K;refine nm 50 ?_;(refine o1 5 (some 51) (bz 11 63) (Dr HT_.out kr_) fun K hK=>?_);(refine gse Tryz.func95 (Hg.c j4 _ _ c0 _ _ e5 j5 l5 _ (cx (Kd.Ai B0.out HB.out)) C0.out (cx (Kd.Ab s5.out).2.2) ((Kd.Ab s5.out).2.1) n5.out) fun y5 A5 M1 hb=>?_);replace g4:=eQ g4 (Kd.Av M1) hb;have B5:=lR (Kd.Cl (Kd.Cl M1 (Kd.R_lt (kR e4))) (Kd.R_lt (kR s5)));replace e4:=eR e4 (Kd.Av M1) hb;replace s5:=eR s5 (Kd.Av M1) hb;replace R0:=qbb R0 hb;replace X0:=qbb X0 hb;replace e1:=qbb e1 hb;replace W1:=qbb W1 hb;replace HB:=bs hb;(try clear hb);(try clear t5);(try clear hk);(try clear hi);(try clear M1);refine hK.out _ _ ⟨bc R0 0,bc R0 1,bc X0 0,bc X0 1,bc X0 2⟩ (fun hHeld=>?_);clear hK K;refine nm 51 ?_;refine pur 6 45 (bz 11 127) HT_ ?_;refine pur 7 52 (bz 11 255) HT_ ?_;refine pur 8 53 (bz 11 511) HT_ ?_;refine pur 9 7 (bz 11 1023) HT_ ?_;refine pur 10 8 (bz 11 2047) HT_ ?_;refine Ka (Hs HT_.out kr_) ?_
      try go_wp2
      go_meet
      case rel=>exact⟨_,(j5),(l5),(K0),(.slice g2 K0.length l2),(sd),H',⟨z12_⟩,⟨mR B5 (fun _ hk=>hk.1.2)⟩,⟨mR e4 (fun _ hk=>hk.2)⟩,⟨mQ g4 (fun _ hk=>⟨hk.2,hk.1.1⟩)⟩,⟨bk⟩,⟨bk⟩,⟨bk⟩,⟨bk⟩,⟨bl⟩⟩
     ·(first|rw[b5]|(simp only[Bv,Fc];rw[b5])|skip);replace H:=qq H;obtain⟨C5,D5,H⟩|⟨E5,C5,D5,H⟩:=H
      .replace H:=qb H;obtain⟨G5,J5,H⟩:=H;replace H:=qb H;obtain⟨⟨K5,L5⟩,M5,H⟩:=H;(try dsimp only at H);have H':=qa H;clear H
       try go_wp2
       replace e4:=qa (Kd.Fp e4.out);replace g4:=qa (Kd.Gp g4.out);replace R0:=qa (Ak R0.out);replace X0:=qa (Ak X0.out);replace e1:=qa (Ak e1.out);replace W1:=qa (Ak W1.out);replace HB:=qa (Dd HB.out);refine Hq (n:=11) (S:=fun w'=>w'.cell? ⟨P0,0,none⟩=some (.slice a0 c0.length b0)/\w'.cell? ⟨P0,1,none⟩=some (.slice d0 g0.length e0)/\w'.cell? ⟨V0,0,none⟩=some (.int .i64 l0)/\w'.cell? ⟨V0,1,none⟩=some (.int .i64 n0)/\w'.cell? ⟨V0,2,none⟩=some (.int .i64 p0)) (ds:=[]) _ kr_ rfl rfl ⟨bc R0 0,bc R0 1,bc X0 0,bc X0 1,bc X0 2⟩ (fun hHeld=>?_);refine Gd Ah.tab11 Ah.bits11 (fun HT_ HW_=>?_);generalize wc.drew=N5 at e4 g4 R0 X0 e1 W1 HB hHeld ⊢;refine pur 0 57 (bz 11 1) HT_ ?_;refine pur 2 59 (bz 11 5) HT_ ?_;refine tk 1 58 (bz 11 7) hHeld (Ez HT_.out HW_.out kr_) ?_;refine tk 3 60 (bz 11 15) hHeld (Ez HT_.out HW_.out kr_) ?_;(refine o1 4 (some 61) (bz 11 31) (Dr HT_.out kr_) fun K hK=>?_);(refine gse Tryz.func96 (Dx.c j4 n0 G5 _ J5.out) fun P5 Q5 M1 hb=>?_);replace g4:=eQ g4 (Kd.Av M1) hb;have R5:=lR (Kd.Cl M1 (Kd.R_lt (kR e4)));replace e4:=eR e4 (Kd.Av M1) hb;replace R0:=qbb R0 hb;replace X0:=qbb X0 hb;replace e1:=qbb e1 hb;replace W1:=qbb W1 hb;replace HB:=bs hb;(try clear hb);(try clear t5);(try clear hk);(try clear hi);(try clear M1);obtain⟨U5,V5,W5⟩:=Kd.An R5.out;(first|subst W5|(injection W5 with f1_ f2_ f3_;have f4_:=f1_.symm;have f5_:=f3_.symm;clear f1_ f2_ f3_;subst f4_;subst f5_));refine hK.out _ _ ⟨bc R0 0,bc R0 1,bc X0 0,bc X0 1,bc X0 2⟩ (fun hHeld=>?_);clear hK K;refine nm 61 ?_;(refine o1 5 (some 62) (bz 11 63) (Dr HT_.out kr_) fun K hK=>?_);(refine gse Tryz.func97 (Gi.c j4 _ _ c0 _ _ G5 K5 L5 _ (cx (Kd.Ai B0.out HB.out)) C0.out (cx (Kd.Ab R5.out).2.2) ((Kd.Ab R5.out).2.1) M5.out) fun X5 Y5 M1 hb=>?_);replace g4:=eQ g4 (Kd.Av M1) hb;have a6:=lR (Kd.Cl (Kd.Cl M1 (Kd.R_lt (kR e4))) (Kd.R_lt (kR R5)));replace e4:=eR e4 (Kd.Av M1) hb;replace R5:=eR R5 (Kd.Av M1) hb;replace R0:=qbb R0 hb;replace X0:=qbb X0 hb;replace e1:=qbb e1 hb;replace W1:=qbb W1 hb;replace HB:=bs hb;(try clear hb);(try clear t5);(try clear hk);(try clear hi);(try clear M1);refine hK.out _ _ ⟨bc R0 0,bc R0 1,bc X0 0,bc X0 1,bc X0 2⟩ (fun hHeld=>?_);clear hK K;refine nm 62 ?_;refine pur 6 56 (bz 11 127) HT_ ?_;refine pur 7 63 (bz 11 255) HT_ ?_;refine pur 8 64 (bz 11 511) HT_ ?_;refine pur 9 7 (bz 11 1023) HT_ ?_;refine pur 10 8 (bz 11 2047) HT_ ?_;refine Ka (Hs HT_.out kr_) ?_
       try go_wp2
       go_meet
       case rel=>exact⟨_,(K5),(L5),(K0),(.slice g2 K0.length l2),(sd),H',⟨z12_⟩,⟨mR a6 (fun _ hk=>hk.1.2)⟩,⟨mR e4 (fun _ hk=>hk.2)⟩,⟨mQ g4 (fun _ hk=>⟨hk.2,hk.1.1⟩)⟩,⟨bk⟩,⟨bk⟩,⟨bk⟩,⟨bk⟩,⟨bl⟩⟩
      .replace H:=qq H;obtain⟨b6,c6,H⟩|⟨d6,b6,c6,H⟩:=H
       .replace H:=qb H;obtain⟨⟨e6,g6⟩,j6,H⟩:=H;(try dsimp only at H);have H':=qa H;clear H;obtain⟨_,_,_,_,_,_⟩:=o6 a1 b1 l1 n1 Y1 a2;obtain⟨l6,n6,p6,q6⟩:=qk2 R0
        go_wp2_with(first|(refine ge_ 70 Tryz.func98 (Ie.c j4 _ _ c0 e6 g6 _ (cx (Kd.Ai B0.out HB.out)) C0.out j6.out) fun r6 s6 M1 hb=>?_;replace g4:=eQ g4 (Kd.Av M1) hb;have t6:=lR (Kd.Cl M1 (Kd.R_lt (kR e4)));replace e4:=eR e4 (Kd.Av M1) hb;replace R0:=qbb R0 hb;replace X0:=qbb X0 hb;replace e1:=qbb e1 hb;replace W1:=qbb W1 hb;replace HB:=bs hb))
        go_meet
        case rel=>exact⟨_,(e6),(g6),(K0),(.slice g2 K0.length l2),(sd),H',⟨z12_⟩,⟨mR t6 (fun _ hk=>hk.2)⟩,⟨mR e4 (fun _ hk=>hk.2)⟩,⟨mQ g4 (fun _ hk=>⟨hk.2,hk.1⟩)⟩,⟨bk⟩,⟨bk⟩,⟨bk⟩,⟨bk⟩,⟨bl⟩⟩
       .replace H:=qq H;obtain⟨v6,w6,H⟩|⟨x6,v6,w6,H⟩:=H
        .replace H:=qu H;obtain⟨y6,H⟩|⟨y6,H⟩:=H
         .replace H:=qe H;obtain⟨A6,H⟩|⟨A6,H⟩:=H
          .replace H:=qu H;obtain⟨B6,H⟩|⟨B6,H⟩:=H
           .replace H:=qe H;obtain⟨C6,H⟩|⟨C6,H⟩:=H
            .replace H:=qb H;obtain⟨D6,E6,H⟩:=H;obtain⟨G6,J6⟩:∃j_:Int,(wrap64 (n0-1))=j_:=⟨_,rfl⟩;(first|rw[J6]at H|(try simp only[J6]at H));(try rw[J6]at E6);have K6:(IntKind.i64.wrap (n0-1))=G6:=(Bv _).trans J6;replace H:=qd H;obtain⟨L6,H⟩:=H;replace H:=qd H;obtain⟨M6,H⟩:=H;obtain⟨N6,hy_⟩:∃y_:LI,y_=(D6.set ((G6):Int).toNat p0):=⟨_,rfl⟩;replace H:(Ah.j1 j4 N6 true c0 g0 K0 L0)=some (q0,r0,s0):=yh;have P6:=qa hy_;clear hy_;have H':=qa H;clear H;obtain⟨_,_,_,_,_,_⟩:=o6 b1 a1 p1 q1 b2 c2;obtain⟨Q6,R6,U6,V6,W6,X6⟩:=qk3 X0;obtain⟨_,_,_,_⟩:=o4 l1 n1 Y1 a2;obtain⟨Y6,a7,b7,c7⟩:=qk2 R0
             go_wp2_with(first|(refine ge_ 95 Tryz.func99 (Cs.c j4 _ _ c0 D6 _ (cx (Kd.Ai B0.out HB.out)) C0.out E6.out) fun d7 e7 M1 hb=>?_;replace g4:=eQ g4 (Kd.Av M1) hb;have g7:=lR (Kd.Cl M1 (Kd.R_lt (kR e4)));replace e4:=eR e4 (Kd.Av M1) hb;replace R0:=qbb R0 hb;replace X0:=qbb X0 hb;replace e1:=qbb e1 hb;replace W1:=qbb W1 hb;replace HB:=bs hb;obtain⟨j7,l7,n7,p7,q7,r7⟩:=qk3 X0;have s7:0<=((G6):Int):=qo;have t7:((G6):Int)<((D6.length:Int):Int):=qo;obtain⟨v7,w7,x7,y7,gl100,cl100,HG100⟩:=Kd.R_form g7.out ko_;(first|cases x7|(injection x7 with ea_ en_ ec_;(first|subst ea_|(injection ea_ with ea_;subst ea_));subst ec_;clear en_));have GB100:=qa y7;have GG100:=qa HG100;clear y7 gl100 HG100;obtain⟨A7,B7⟩:=Kd.Jj 0 g7.out ((G6):Int) s7 t7;replace s7:=eq_true s7;replace t7:=eq_true t7;have n_:=qa (Kd.Cq (ok':=(N1 (sv g2 K0 l2))) g7.out (fun k_ hk=>hk.2));clear g7;have g7:=n_;clear n_;obtain⟨hy110_,hz110_⟩:=Kd.Jj 0 g7.out ((G6):Int) (qo) (qo);have HP110:=Kd.Ja g7.out ((G6):Int) p0)|((with_reducible refine Gm (t:=3) (p:=102) rfl ?_);refine Ga (t:=3) (p:=102) (v:=?vo_w111) (w1:=(e7.setCell ⟨v7,((G6):Int).toNat,none⟩ (.int .i64 p0))) ?hg ?ho ?hn ?hr ?_;(case ho=>rfl);(case hg=>rfl);(case hn=>rfl);(case hr=>exact gr);intro C7 hw;have hg:e7.grownBy C7 (some v7):=(by rw[hw];exact HP110.2);have hp_:Kd.R ki 3 C7 w.heap.size (N1 (sv g2 K0 l2)) (.slice (some ⟨v7,0,none⟩) D6.length w7) N6:=(by rw[hw,P6.out];exact HP110.1);clear HP110;replace e4:=qa (Kd.Hd (v:=(.slice (some ⟨v7,0,none⟩) D6.length w7)) (v1:=(.slice (some ⟨v7,0,none⟩) D6.length w7)) (ok:=(fun _=>True)) (kR e4) hg (.inl rfl));replace g4:=qa (Kd.Q_after (v:=(.slice (some ⟨v7,0,none⟩) D6.length w7)) (v1:=(.slice (some ⟨v7,0,none⟩) D6.length w7)) (ok:=(N1 (sv g2 K0 l2))) (kQ g4) hg (.inl rfl));replace R0:=qa (Bn (g:=P0) (o:= .cells #[.slice a0 c0.length b0,.slice d0 g0.length e0] 27 (0,0)) (bk) hg (Kd.R_ne g7.out R0.out kd_));replace X0:=qa (Bn (g:=V0) (o:= .cells #[.int .i64 l0,.int .i64 n0,.int .i64 p0] 55 (0,0)) (bk) hg (Kd.R_ne g7.out X0.out kd_));replace e1:=qa (Bn (g:=c1) (o:= .cells #[.slice none 0 0,.slice none 0 0] 27 (0,0)) (bk) hg (Kd.R_ne g7.out e1.out kd_));replace W1:=qa (Bn (g:=U1) (o:= .cells #[.slice g2 K0.length l2,.slice s2 L0.length t2] 27 (0,0)) (bk) hg (Kd.R_ne g7.out W1.out kd_));replace g7:=qa (hp_);replace HB:=qa ((by rw[hw];exact Fw (HB.out) GB100.out:Below w.heap.size w C7));clear hg hw hp_))
             go_meet
             case rel=>exact⟨_,(N6),(true),(K0),(.slice g2 K0.length l2),(sd),H',⟨z12_⟩,⟨kR g7⟩,⟨mR e4 (fun _ hk=>hk.2)⟩,⟨mQ g4 (fun _ hk=>⟨hk.2,hk.1⟩)⟩,⟨bk⟩,⟨bk⟩,⟨bk⟩,⟨bk⟩,⟨bl⟩⟩
            .have H':=qa H;clear H;obtain⟨_,_,_,_,_,_⟩:=o6 b1 a1 p1 q1 b2 c2;obtain⟨D7,E7,G7,J7,K7,L7⟩:=qk3 X0;go_wp2;go_meet
             case rel=>exact⟨_,(([]:LI)),(false),(K0),(.slice g2 K0.length l2),(sd),H',⟨z12_⟩,⟨z2_⟩,⟨mR e4 (fun _ hk=>(by simp[Value.ownBlock]))⟩,⟨mQ g4 (fun _ hk=>⟨(by simp[Value.ownBlock]),hk⟩)⟩,⟨bk⟩,⟨bk⟩,⟨bk⟩,⟨bk⟩,⟨bl⟩⟩
           .have H':=qa H;clear H;obtain⟨_,_,_,_,_,_⟩:=o6 b1 a1 p1 q1 b2 c2;obtain⟨M7,N7,P7,Q7,R7,U7⟩:=qk3 X0;go_wp2;go_meet
            case rel=>exact⟨_,(([]:LI)),(false),(K0),(.slice g2 K0.length l2),(sd),H',⟨z12_⟩,⟨z2_⟩,⟨mR e4 (fun _ hk=>(by simp[Value.ownBlock]))⟩,⟨mQ g4 (fun _ hk=>⟨(by simp[Value.ownBlock]),hk⟩)⟩,⟨bk⟩,⟨bk⟩,⟨bk⟩,⟨bk⟩,⟨bl⟩⟩
          .have H':=qa H;clear H;obtain⟨_,_,_,_,_,_⟩:=o6 b1 a1 p1 q1 b2 c2;obtain⟨V7,W7,X7,Y7,a8,b8⟩:=qk3 X0;go_wp2;go_meet
           case rel=>exact⟨_,(([]:LI)),(false),(K0),(.slice g2 K0.length l2),(sd),H',⟨z12_⟩,⟨z2_⟩,⟨mR e4 (fun _ hk=>(by simp[Value.ownBlock]))⟩,⟨mQ g4 (fun _ hk=>⟨(by simp[Value.ownBlock]),hk⟩)⟩,⟨bk⟩,⟨bk⟩,⟨bk⟩,⟨bk⟩,⟨bl⟩⟩
         .have H':=qa H;clear H;obtain⟨_,_,_,_,_,_⟩:=o6 b1 a1 p1 q1 b2 c2;obtain⟨c8,d8,e8,g8,j8,l8⟩:=qk3 X0;go_wp2;go_meet
          case rel=>exact⟨_,(([]:LI)),(false),(K0),(.slice g2 K0.length l2),(sd),H',⟨z12_⟩,⟨z2_⟩,⟨mR e4 (fun _ hk=>(by simp[Value.ownBlock]))⟩,⟨mQ g4 (fun _ hk=>⟨(by simp[Value.ownBlock]),hk⟩)⟩,⟨bk⟩,⟨bk⟩,⟨bk⟩,⟨bk⟩,⟨bl⟩⟩
        .replace H:=qq H;obtain⟨n8,p8,H⟩|⟨q8,n8,p8,H⟩:=H
         .have hwn_:IntKind.i64.wrap ((L0.length:Int)-1)=wrap64 ((L0.length:Int)-1):=Bv _
          by_cases c0_:L0.length=0
          .rw[if_pos c0_]at H;simp only[Option.some.injEq,Prod.mk.injEq]at H;obtain⟨rfl,rfl,rfl⟩:=H;(have hw1_:IntKind.i64.wrap ((L0.length:Int)-1)= -1:=by rw[c0_];rfl);have hw2_:((-1:Int)<0)=True:=eq_true kd_;clear c0_ hwn_;obtain⟨l4,n4,p4,q4,r4,s4⟩:=o6 a2 Y1 c2 b2 e2 d2;obtain⟨t4,v4,w4,x4⟩:=qk2 W1;obtain⟨y4,A4,B4,C4⟩:=o4 n1 l1 q1 p1;obtain⟨D4,E4,G4,J4⟩:=qk2 e1;go_wp2;refine bodyPost_ret (Da rfl _ _ c1 27 #[.slice g2 K0.length l2,.slice s2 L0.length t2] (0,0) _ rfl (kP e1) Tryz.underlying27 rfl kr_) rfl ?_;exact⟨_,_,er,kFR e4 e1 (fun _ hk=>trivial),kFQ g4 e1 (fun _ hk=>hk.1),bl⟩
          .rw[if_neg c0_]at H
           by_cases c1_:L0.length<4096
           .rw[if_pos c1_]at H;simp only[Option.some.injEq,Prod.mk.injEq]at H;obtain⟨e1_,e2_,rfl⟩:=H;obtain⟨j_,hj_⟩:∃j_:Int,(L0.length:Int)-1=j_:=⟨_,rfl⟩;(have hm_:L0.length=j_.toNat+1:=by omega);(have em_:L0.length-1=j_.toNat:=by omega);rw[em_]at e1_ e2_;have hPc_:=(Kd.Ab (Kd.S_R HS_.out)).2.1
            obtain⟨ad_,ea_⟩:∃ad_,s2=some ad_:=by
             obtain⟨g_,c2_,e_,_⟩:=Kd.S_form HS_.out ko_;(injection e_ with e_ _ _);exact⟨_,e_⟩
            subst ea_;obtain⟨v_,hcell_,hv_,hrest_⟩:=S_pop2 HS_.out hm_ hm_;rw[e1_]at hv_;rw[e2_]at hrest_;obtain⟨Av_,cv_,ev_⟩:=Kd.An hv_;subst ev_;have hQ_:=Kd.Q_clip (Kd.Gv (Kd.S_R hrest_));(have hwj_:IntKind.i64.wrap ((L0.length:Int)-1)=j_:=by rw[Bv,hj_];exact w64_small2 _ ko_ ko_);have hn_:(j_<0)=False:=eq_false ko_;have hp_:(0<=j_)=True:=eq_true ko_;have hq_:(j_<(L0.length:Int))=True:=eq_true ko_;(have hjc_:j_.toNat<=t2:=by omega);obtain⟨i0_,hi0_,_,hsz_,_⟩:=info_parts info22;have hcut_:=cut_to (P:=Tryz.prog) 23 22 .i64 Tryz.underlying23 hi0_ (some ad_) L0.length t2 j_ ko_ ko_ hPc_;clear hi0_ hsz_ hrest_ e1_ e2_ hm_ em_ c0_ c1_ hj_ hPc_ hwn_;obtain⟨l4,n4,p4,q4,r4,s4⟩:=o6 a2 Y1 c2 b2 e2 d2;obtain⟨t4,v4,w4,x4⟩:=qk2 W1;obtain⟨y4,A4,B4,C4⟩:=o4 n1 l1 q1 p1;obtain⟨D4,E4,G4,J4⟩:=qk2 e1;go_wp2;refine wp_region_still_tail 10 rfl kr_ ?_;simp only[List.take_succ_cons,List.take_zero,List.drop_succ_cons,List.drop_zero]
            repeat still_step
            still_call (slices_Clip_int_int.calls (some ad_) j_.toNat t2 _ hjc_)
            refine wpStill_nil ?_;go_wp2;refine bodyPost_ret (Da rfl _ _ c1 27 #[.slice Av_ q0.length cv_,.slice (some ad_) j_.toNat j_.toNat] (0,0) _ rfl (kP e1) Tryz.underlying27 rfl kr_) rfl ?_;exact⟨_,_,er,by(with_reducible repeat(first|apply Kd.Ih|apply Kd.Hv|apply Kd.Fp));exact Kd.Cq (Kd.Is (p:=⟨c1,1,none⟩) (Kd.Is (p:=⟨c1,0,none⟩) (Kd.Ig hv_ e1.out kd_) (fun _ hk=>hk.2) (.slice Av_ q0.length cv_)) (fun _ hk=>hk.2) (.slice (some ad_) j_.toNat j_.toNat)) (fun _ hk=>trivial),by(with_reducible repeat(first|apply Kd.Km|apply Kd.Kl|apply Kd.Gp));exact Kd.Dt (Kd.Ks (p:=⟨c1,1,none⟩) (Kd.Ks (p:=⟨c1,0,none⟩) (Kd.Jz hQ_ e1.out kd_) (fun _ hk=>hk.2) (.slice Av_ q0.length cv_)) (fun _ hk=>hk.2) (.slice (some ad_) j_.toNat j_.toNat)) (fun _ hk=>hk.1.2),bl⟩
           .rw[if_neg c1_]at H;exact absurd H (by simp)
         .have H':=qa H;clear H;go_wp2;go_meet
          case rel=>exact⟨_,(([]:LI)),(false),(K0),(.slice g2 K0.length l2),(sd),H',⟨z12_⟩,⟨z2_⟩,⟨mR e4 (fun _ hk=>(by simp[Value.ownBlock]))⟩,⟨mQ g4 (fun _ hk=>⟨(by simp[Value.ownBlock]),hk⟩)⟩,⟨bk⟩,⟨bk⟩,⟨bk⟩,⟨bk⟩,⟨bl⟩⟩
    case rest=>
     clear K4;obtain⟨kq,W4,X4,Y4,a5,rfl,HA,r8,s8,e4,g4,R0,X0,e1,W1,HB⟩:=hcut;obtain⟨t8,rfl,H⟩:=kz kq HA;clear HA;simp only[Ah.j1]at H;have v8:=qa H;clear H
     go_upto_region 23 with(fail)
     go_cut [130] (fun w8 wc=>∃(kq:Nat) (x8:Bool),w8= .bool x8/\Aside0 (Ah.j2 kq W4 x8 Y4 L0=some (q0,r0,s0))/\Aside0 (kq<=t8)/\Aside0 (Kd.R ki 3 wc w.heap.size (N1 a5) u7 W4)/\Aside0 (Kd.R ki 3 wc w.heap.size (N1 u7) a5 Y4)/\Aside0 (Kd.Q (Kd.slice 3 ki) 22 wc w.heap.size (N2 u7 a5) (.slice s2 L0.length t2) L0)/\Aside0 (wc.heap[P0]? =some (.cells #[(.slice a0 c0.length b0),(.slice d0 g0.length e0)] 27 (0,0)))/\Aside0 (wc.heap[V0]? =some (.cells #[.int .i64 l0,.int .i64 n0,.int .i64 p0] 55 (0,0)))/\Aside0 (wc.heap[c1]? =some (.cells #[(.slice none 0 0),(.slice none 0 0)] 27 (0,0)))/\Aside0 (wc.heap[U1]? =some (.cells #[a5,(.slice s2 L0.length t2)] 27 (0,0)))/\Aside0 (Below w.heap.size w wc))
     case first=>
      have H:=v8.out;clear v8;replace H:=qc H;obtain⟨rfl,H⟩|⟨rfl,H⟩:=H
      .replace H:=qb H;obtain⟨y8,A8,H⟩:=H;have H':=qa H;clear H;obtain⟨_,_,_,_,_,_⟩:=o6 a1 b1 l1 n1 Y1 a2;obtain⟨B8,C8,D8,E8⟩:=qk2 R0;obtain⟨G8,J8,rfl⟩:=Kd.An s8.out
       go_wp2_with(first|(go_at_call 101;(with_reducible refine(Df.c t8 _ _ W4 _ _ c0 y8 _ ?C1 ?D1 ?E1 ?G1 A8.out).mono ?_);(case C1=>exact cx (Kd.Ab s8.out).2.2);(case D1=>exact(Kd.Ab s8.out).2.1);(case E1=>exact cx (Kd.Ai B0.out HB.out));(case G1=>exact C0.out);rintro e w' ⟨rfl,⟨nd,rfl⟩⟩))
       go_meet
       case rel=>exact⟨_,(y8),(sd),H',⟨by have:=d4.out;have:=r8.out;first|omega|exact Nat.le_refl _⟩,⟨kR s8⟩,⟨kR e4⟩,⟨kQ g4⟩,⟨bk⟩,⟨bk⟩,⟨bk⟩,⟨bk⟩,⟨bl⟩⟩
      .have H':=qa H;clear H;go_wp2;go_meet
       case rel=>exact⟨_,(true),(sd),H',⟨by have:=d4.out;have:=r8.out;first|omega|exact Nat.le_refl _⟩,⟨kR s8⟩,⟨kR e4⟩,⟨kQ g4⟩,⟨bk⟩,⟨bk⟩,⟨bk⟩,⟨bk⟩,⟨bl⟩⟩
     case rest=>
      clear v8;obtain⟨kq,x8,rfl,HA,K8,s8,e4,g4,R0,X0,e1,W1,HB⟩:=hcut;obtain⟨L8,rfl,H⟩:=kz kq HA;clear HA;simp only[Ah.j2]at H;replace H:=qc H;obtain⟨rfl,H⟩|⟨rfl,H⟩:=H
      .simp only[Option.some.injEq,Prod.mk.injEq]at H;obtain⟨rfl,rfl,rfl⟩:=H;obtain⟨_,_,_,_,_,_⟩:=o6 a2 Y1 c2 b2 e2 d2;obtain⟨M8,N8,P8,Q8⟩:=qk2 W1;obtain⟨R8,U8,rfl⟩:=Kd.An e4.out;obtain⟨_,_,_,_⟩:=o4 n1 l1 q1 p1;obtain⟨V8,W8,X8,Y8⟩:=qk2 e1;go_wp2;refine bodyPost_ret (Da rfl _ _ c1 27 #[.slice R8 Y4.length U8,.slice s2 L0.length t2] (0,0) _ rfl (kP e1) Tryz.underlying27 rfl kr_) rfl ?_;exact⟨_,_,er,kFR e4 e1 (fun _ hk=>trivial),kFQ g4 e1 (fun _ hk=>hk.1.2),bl⟩
      .replace H:=qn H;obtain⟨a9,H⟩:=H;have b9:=qa a9;clear a9;replace H:=qs H;obtain⟨c9,d9,H⟩:=H
       by_cases e9:(c9.length:Int)>8
       .rw[if_pos e9]at H;have g9:decide (8<(c9.length:Int))=true:=decide_eq_true e9;have j9:decide (8<c9.length)=true:=decide_eq_true ko_;clear e9;replace H:=qn H;obtain⟨l9,H⟩:=H;have n9:=eq_true l9;have p9:decide (1<=(c9.length:Int))=true:=decide_eq_true l9;clear l9;obtain⟨q9,hy_⟩:∃y_:LL,y_=(c9.drop (1:Int).toNat):=⟨_,rfl⟩;replace H:((Bx.f L8 W4 q9).bind fun r9=>(some (r9.1,r9.2,true)))=some (q0,r0,s0):=yh;have s9:=qa hy_;clear hy_;replace H:=qb H;obtain⟨⟨t9,v9⟩,w9,H⟩:=H;(try dsimp only at H);simp only[Option.some.injEq,Prod.mk.injEq]at H;obtain⟨rfl,rfl,rfl⟩:=H;obtain⟨_,_,_,_,_,_⟩:=o6 a2 Y1 c2 b2 e2 d2;obtain⟨x9,y9,A9,B9⟩:=qk2 W1;obtain⟨C9,D9,rfl⟩:=Kd.An e4.out
        go_wp2_with(first|((with_reducible refine Cw (b:= .append) (xs:=#[.tmp 134,.tmp 137]) rfl ?_);at_builtin;refine Kd.Q_append (Kd.slice 3 ki) (w0:=w) w.heap.size rfl (.tmp 134) (.tmp 137) 23 22 (.slice none 0 0) 24 rfl Tryz.underlying23 info22 rfl kd_ ko_ (.slice s2 L0.length t2) L0 Y4 [.slice C9 Y4.length D9] (N1 u7) (fun k_=>((N1 u7)) k_/\some k_≠(sv s2 L0 t2).ownBlock) rfl rfl ?aP (fun _ hk=>hk) ?aF ?aO ?aB ?aS ?aL ?_;(case aP=>exact Kd.M_row (Kd.Cq (Kd.Jb (e4.out) (Kd.Q_typed g4.out) kd_) (fun k_ hk=>⟨hk.1,hk.2⟩)));(case aB=>exact(bl));(case aF=>exact(fun k_ hk=>Kd.Ii (Kd.R_lt (kR s8)) k_ hk));(case aO=>exact(mQ g4 (fun _ hk=>hk.1)));(case aS=>exact(Cj (bl)));(case aL=>have:=b9.out;omega);intro E9 G9 ho hb hg hat;rw[<-d9.out]at ho;replace s8:=qa (Kd.Hu (kR s8) (Kd.Q_typed (kQ g4)) kd_ hg);replace R0:=qa (Bn (g:=P0) (o:= .cells #[.slice a0 c0.length b0,.slice d0 g0.length e0] 27 (0,0)) (bk) hg (Kd.Q_ne g4.out R0.out kd_));replace X0:=qa (Bn (g:=V0) (o:= .cells #[.int .i64 l0,.int .i64 n0,.int .i64 p0] 55 (0,0)) (bk) hg (Kd.Q_ne g4.out X0.out kd_));replace e1:=qa (Bn (g:=c1) (o:= .cells #[.slice none 0 0,.slice none 0 0] 27 (0,0)) (bk) hg (Kd.Q_ne g4.out e1.out kd_));replace W1:=qa (Bn (g:=U1) (o:= .cells #[.slice C9 Y4.length D9,.slice s2 L0.length t2] 27 (0,0)) (bk) hg (Kd.Q_ne g4.out W1.out kd_));replace HB:=qa (hb);have J9:=qa (ho);clear g4 e4;clear ho hb hg hat;obtain⟨K9,L9,M9,_⟩:=Kd.Fj J9.out;subst M9;obtain⟨N9,P9,rfl⟩:=Kd.An s8.out)|(refine bx 10 #[.slice none 0 0,.slice none 0 0] 27 ?_;intro Q9 hg R9 hbox hb;replace s8:=bR s8 hb;replace J9:=bQ J9 hb;have U9:=qa (hbox);have V9:=gw hg;replace HB:=bs hb;obtain⟨W9,X9⟩:=qnn hg R0;replace R0:=qbb R0 hb;obtain⟨Y9,a10⟩:=qnn hg X0;replace X0:=qbb X0 hb;obtain⟨b10,c10⟩:=qnn hg e1;replace e1:=qbb e1 hb;obtain⟨d10,e10⟩:=qnn hg W1;replace W1:=qbb W1 hb;clear hb hbox hg;obtain⟨_,_,_,_,_,_,_,_⟩:=o8 X9 W9 a10 Y9 c10 b10 e10 d10;obtain⟨g10,j10,l10,n10⟩:=qk2 U9)|((with_reducible refine Gm (t:=27) (p:=10) rfl ?_);refine Ga (t:=27) (p:=10) (v:=?vo_w164) (w1:=((R9.setCell ⟨Q9,0,none⟩ (.slice N9 W4.length P9)).setCell ⟨Q9,1,none⟩ (.slice K9 c9.length L9))) ?hg ?ho ?hn ?hr ?_;(case ho=>rfl);(case hg=>rfl);(case hn=>rfl);(case hr=>exact gr);intro p10 hw;have n0_:Aside0 (Kd.R ki 3 p10 w.heap.size (fun _=>True) (.slice N9 W4.length P9) W4):=⟨(by rw[hw];exact(kFR s8 U9 (fun _ hk=>trivial)))⟩;have n1_:Aside0 (Kd.Q (Kd.slice 3 ki) 22 p10 w.heap.size (N1 (sv N9 W4 P9)) (.slice K9 c9.length L9) c9):=⟨(by rw[hw];exact(kFQ J9 U9 (fun _ hk=>hk.1)))⟩;have n2_:Aside0 (p10.heap[P0]? =some (.cells #[.slice a0 c0.length b0,.slice d0 g0.length e0] 27 (0,0))):=⟨(by rw[hw];exact(kb R0))⟩;have n3_:Aside0 (p10.heap[V0]? =some (.cells #[.int .i64 l0,.int .i64 n0,.int .i64 p0] 55 (0,0))):=⟨(by rw[hw];exact(kb X0))⟩;have n4_:Aside0 (p10.heap[c1]? =some (.cells #[.slice none 0 0,.slice none 0 0] 27 (0,0))):=⟨(by rw[hw];exact(kb e1))⟩;have n5_:Aside0 (p10.heap[U1]? =some (.cells #[.slice C9 Y4.length D9,.slice s2 L0.length t2] 27 (0,0))):=⟨(by rw[hw];exact(kb W1))⟩;have n6_:Aside0 (p10.heap[Q9]? =some (.cells #[.slice N9 W4.length P9,.slice K9 c9.length L9] 27 (0,0))):=⟨(by rw[hw];exact(kP U9))⟩;have n7_:Aside0 (Below w.heap.size w p10):=⟨(by rw[hw];exact(bl))⟩;clear hw;clear s8;clear J9;clear R0;clear X0;clear e1;clear W1;clear U9;clear HB;have s8:=n0_;have J9:=n1_;have R0:=n2_;have X0:=n3_;have e1:=n4_;have W1:=n5_;have U9:=n6_;have HB:=n7_;clear n0_ n1_ n2_ n3_ n4_ n5_ n6_ n7_;obtain⟨q10,r10,s10,t10⟩:=qk2 U9;have v10:(1:Int)<=((c9.length:Int):Int):=qo;obtain⟨i0166,w10,_,x10,_⟩:=info_parts info22;have y10:=cut_from (P:=Tryz.prog) 23 22 .i64 Tryz.underlying23 w10 1 x10 K9 c9.length L9 1 ko_ v10;have A10:=Kd.Q_drop (k:=(1:Int).toNat) J9.out ko_;obtain⟨B10,hA166⟩:∃C10,C10=(if L9=(1:Int).toNat then K9 else(K9:OA).map (·.add ((1:Int).toNat *1))):=⟨_,rfl⟩;obtain⟨D10,E10⟩:∃G10,G10=L9-(1:Int).toNat :=⟨_,rfl⟩;have J10:q9.length=c9.length-(1:Int).toNat :=(by rw[s9.out,List.length_drop]);rw[<-s9.out]at A10;rw[<-J10,<-hA166,<-E10]at y10;replace A10:Kd.Q (Kd.slice 3 ki) 22 p10 w.heap.size (N1 (sv N9 W4 P9)) (.slice B10 q9.length D10) q9:=(by rw[hA166,E10,J10];exact A10);have HE166:Aside0 ((Value.slice B10 q9.length D10).ownBlock =(.slice K9 c9.length L9:Value).ownBlock):=⟨by rw[hA166];split <;> (cases (K9:OA) <;> rfl)⟩;clear J10 w10 x10 J9 hA166 E10;have K10:=qa A10;clear A10;replace v10:=eq_true v10)|(refine gol (some 149) Tryz.func54 #[.agg #[.slice N9 W4.length P9,.slice B10 q9.length D10]] ?_;(with_reducible refine(Bx.c L8 _ _ W4 _ _ q9 t9 v9 _ ?C1 ?D1 ?E1 ?G1 w9.out).mono ?_);(case C1=>refine(Kd.Ab (e:=3) (base:=w.heap.size) (ok:=fun k_=>True) (n:=W4.length) (c:=P9) ?_).2.2;exact(kFR s8 U9 (fun _ h_=>h_.1)));(case D1=>exact(Kd.Ab s8.out).2.1);(case E1=>refine(Kd.Bc (e:=22) (base:=w.heap.size) (ok:=fun k_=>some k_≠(sv N9 W4 P9).ownBlock) (n:=q9.length) (c:=D10) ?_).2.2;exact(kFQ K10 U9 (fun _ h_=>h_.1)));(case G1=>exact(Kd.Bc K10.out).2.1);rintro e L10 ⟨M10,N10,rfl,M1,P1,hb⟩;refine⟨_,rfl,?_⟩;have P10:=lR (Kd.Cl M1 (Kd.R_lt (kFR s8 U9 (fun _ h_=>h_.1))));have Q10:=lS (Kd.S_new' (Kd.S_new' P1 (Kd.R_lt (kFR s8 U9 (fun _ h_=>h_.1)))) (Kd.Q_lt (kFQ K10 U9 (fun _ h_=>h_.1))));replace s8:=qa (Kd.Jw (kFR s8 U9 (fun _ h_=>h_.1)) (Kd.Av M1) hb);replace K10:=qa (Kd.Dt (Kd.Hw (Kd.Hw (Kd.Q_old (kFQ K10 U9 (fun _ h_=>h_.1)) hb) (Kd.Av M1)) (Kd.S_base P1)) (fun _ h_=>h_.1));replace R0:=qbb R0 hb;replace X0:=qbb X0 hb;replace e1:=qbb e1 hb;replace W1:=qbb W1 hb;replace U9:=qa (Fb (g:=Q9) (o:= .cells #[.slice N9 W4.length P9,.slice B10 q9.length D10] 27 (0,0)) (kP U9) hb);replace HB:=bs hb;obtain⟨R10,U10,rfl⟩:=Kd.An P10.out;obtain⟨_,_,_,_⟩:=o4 n1 l1 q1 p1;obtain⟨V10,W10,X10,Y10⟩:=qk2 e1;obtain⟨a11,b11,rfl⟩:=Kd.Ft Q10.out))
        refine bodyPost_ret (Da rfl _ _ c1 27 #[.slice R10 t9.length U10,.slice a11 v9.length b11] (0,0) _ rfl (kP e1) Tryz.underlying27 rfl kr_) rfl ?_;exact⟨_,_,er,kFR P10 e1 (fun _ hk=>trivial),Kd.Gv ((Kd.S_R (kFS Q10 e1 (fun _ hk=>hk.1.1.1)))),bl⟩
       .rw[if_neg e9]at H;have g9:decide (8<(c9.length:Int))=false:=decide_eq_false e9;have j9:decide (8<c9.length)=false:=decide_eq_false ko_;clear e9;replace H:=qb H;obtain⟨⟨c11,d11⟩,e11,H⟩:=H;(try dsimp only at H);simp only[Option.some.injEq,Prod.mk.injEq]at H;obtain⟨rfl,rfl,rfl⟩:=H;obtain⟨_,_,_,_,_,_⟩:=o6 a2 Y1 c2 b2 e2 d2;obtain⟨g11,j11,l11,n11⟩:=qk2 W1;obtain⟨p11,q11,rfl⟩:=Kd.An e4.out
        go_wp2_with(first|((with_reducible refine Cw (b:= .append) (xs:=#[.tmp 134,.tmp 137]) rfl ?_);at_builtin;refine Kd.Q_append (Kd.slice 3 ki) (w0:=w) w.heap.size rfl (.tmp 134) (.tmp 137) 23 22 (.slice none 0 0) 24 rfl Tryz.underlying23 info22 rfl kd_ ko_ (.slice s2 L0.length t2) L0 Y4 [.slice p11 Y4.length q11] (N1 u7) (fun k_=>((N1 u7)) k_/\some k_≠(sv s2 L0 t2).ownBlock) rfl rfl ?aP (fun _ hk=>hk) ?aF ?aO ?aB ?aS ?aL ?_;(case aP=>exact Kd.M_row (Kd.Cq (Kd.Jb (e4.out) (Kd.Q_typed g4.out) kd_) (fun k_ hk=>⟨hk.1,hk.2⟩)));(case aB=>exact(bl));(case aF=>exact(fun k_ hk=>Kd.Ii (Kd.R_lt (kR s8)) k_ hk));(case aO=>exact(mQ g4 (fun _ hk=>hk.1)));(case aS=>exact(Cj (bl)));(case aL=>have:=b9.out;omega);intro E9 r11 ho hb hg hat;rw[<-d9.out]at ho;replace s8:=qa (Kd.Hu (kR s8) (Kd.Q_typed (kQ g4)) kd_ hg);replace R0:=qa (Bn (g:=P0) (o:= .cells #[.slice a0 c0.length b0,.slice d0 g0.length e0] 27 (0,0)) (bk) hg (Kd.Q_ne g4.out R0.out kd_));replace X0:=qa (Bn (g:=V0) (o:= .cells #[.int .i64 l0,.int .i64 n0,.int .i64 p0] 55 (0,0)) (bk) hg (Kd.Q_ne g4.out X0.out kd_));replace e1:=qa (Bn (g:=c1) (o:= .cells #[.slice none 0 0,.slice none 0 0] 27 (0,0)) (bk) hg (Kd.Q_ne g4.out e1.out kd_));replace W1:=qa (Bn (g:=U1) (o:= .cells #[.slice p11 Y4.length q11,.slice s2 L0.length t2] 27 (0,0)) (bk) hg (Kd.Q_ne g4.out W1.out kd_));replace HB:=qa (hb);have J9:=qa (ho);clear g4 e4;clear ho hb hg hat;obtain⟨s11,t11,v11,_⟩:=Kd.Fj J9.out;subst v11;obtain⟨w11,x11,rfl⟩:=Kd.An s8.out)|(refine bx 10 #[.slice none 0 0,.slice none 0 0] 27 ?_;intro Q9 hg y11 hbox hb;replace s8:=bR s8 hb;replace J9:=bQ J9 hb;have U9:=qa (hbox);have V9:=gw hg;replace HB:=bs hb;obtain⟨W9,X9⟩:=qnn hg R0;replace R0:=qbb R0 hb;obtain⟨Y9,a10⟩:=qnn hg X0;replace X0:=qbb X0 hb;obtain⟨b10,c10⟩:=qnn hg e1;replace e1:=qbb e1 hb;obtain⟨d10,e10⟩:=qnn hg W1;replace W1:=qbb W1 hb;clear hb hbox hg;obtain⟨_,_,_,_,_,_,_,_⟩:=o8 X9 W9 a10 Y9 c10 b10 e10 d10;obtain⟨A11,B11,C11,D11⟩:=qk2 U9)|(refine gol (some 149) Tryz.func54 #[.agg #[.slice w11 W4.length x11,.slice s11 c9.length t11]] ?_;(with_reducible refine(Bx.c L8 _ _ W4 _ _ c9 c11 d11 _ ?C1 ?D1 ?E1 ?G1 e11.out).mono ?_);(case C1=>refine(Kd.Ab (e:=3) (base:=w.heap.size) (ok:=fun k_=>some k_≠(sv p11 Y4 q11).ownBlock) (n:=W4.length) (c:=x11) ?_).2.2;exact(kFR s8 U9 (fun _ h_=>h_.1)));(case D1=>exact(Kd.Ab s8.out).2.1);(case E1=>refine(Kd.Bc (e:=22) (base:=w.heap.size) (ok:=fun k_=>some k_≠(sv w11 W4 x11).ownBlock) (n:=c9.length) (c:=t11) ?_).2.2;exact(kFQ J9 U9 (fun _ h_=>h_.1)));(case G1=>exact(Kd.Bc J9.out).2.1);rintro e E11 ⟨G11,J11,rfl,M1,P1,hb⟩;refine⟨_,rfl,?_⟩;have K11:=lR (Kd.Cl M1 (Kd.R_lt (kFR s8 U9 (fun _ h_=>h_.1))));have L11:=lS (Kd.S_new' (Kd.S_new' P1 (Kd.R_lt (kFR s8 U9 (fun _ h_=>h_.1)))) (Kd.Q_lt (kFQ J9 U9 (fun _ h_=>h_.1))));replace s8:=qa (Kd.Jw (kFR s8 U9 (fun _ h_=>h_.1)) (Kd.Av M1) hb);replace J9:=qa (Kd.Dt (Kd.Hw (Kd.Hw (Kd.Q_old (kFQ J9 U9 (fun _ h_=>h_.1)) hb) (Kd.Av M1)) (Kd.S_base P1)) (fun _ h_=>h_.1));replace R0:=qbb R0 hb;replace X0:=qbb X0 hb;replace e1:=qbb e1 hb;replace W1:=qbb W1 hb;replace U9:=qa (Fb (g:=Q9) (o:= .cells #[.slice w11 W4.length x11,.slice s11 c9.length t11] 27 (0,0)) (kP U9) hb);replace HB:=bs hb;obtain⟨M11,N11,rfl⟩:=Kd.An K11.out;obtain⟨_,_,_,_⟩:=o4 n1 l1 q1 p1;obtain⟨P11,Q11,R11,U11⟩:=qk2 e1;obtain⟨V11,W11,rfl⟩:=Kd.Ft L11.out))
        refine bodyPost_ret (Da rfl _ _ c1 27 #[.slice M11 c11.length N11,.slice V11 d11.length W11] (0,0) _ rfl (kP e1) Tryz.underlying27 rfl kr_) rfl ?_;exact⟨_,_,er,kFR K11 e1 (fun _ hk=>trivial),Kd.Gv ((Kd.S_R (kFS L11 e1 (fun _ hk=>hk.1.1.1)))),bl⟩
 .simp only[Option.some.injEq,Prod.mk.injEq]at H;obtain⟨rfl,rfl,rfl⟩:=H
  go_enter Tryz.func53,Tryz.ntmps53
  go_wp2_with(first|(refine bx 2 #[.slice a0 c0.length b0,.slice d0 g0.length e0] 27 ?_;intro P0 hg X11 hbox hb;have R0:=qa (hbox);have U0:=gw hg;replace HB:=bs hb;clear hb hbox hg)|(refine bx 3 #[.int .i64 l0,.int .i64 n0,.int .i64 p0] 55 ?_;intro V0 hg Y11 hbox hb;have X0:=qa (hbox);have Y0:=gw hg;replace HB:=bs hb;obtain⟨a1,b1⟩:=qnn hg R0;replace R0:=qbb R0 hb;clear hb hbox hg)|(refine bx 4 #[.slice none 0 0,.slice none 0 0] 27 ?_;intro c1 hg a12 hbox hb;have e1:=qa (hbox);have g1:=gw hg;replace HB:=bs hb;obtain⟨l1,n1⟩:=qnn hg R0;replace R0:=qbb R0 hb;obtain⟨p1,q1⟩:=qnn hg X0;replace X0:=qbb X0 hb;clear hb hbox hg;obtain⟨_,_,_,_⟩:=o4 a1 b1 l1 n1;obtain⟨b12,c12,d12,e12⟩:=qk2 R0)|(refine gb 12 Tryz.func37 (Ej.c k _ _ c0 _ _ g0 false _ (cx (Kd.Ai B0.out HB.out)) C0.out (cx (Kd.Ai D0.out HB.out)) E0.out J0.out) fun g12 hb=>?_;replace R0:=qbb R0 hb;replace X0:=qbb X0 hb;replace e1:=qbb e1 hb;replace HB:=bs hb;obtain⟨_,_⟩:=o2 q1 p1;obtain⟨j12,l12,n12,p12⟩:=qk2 e1))
  refine bodyPost_ret (Da rfl _ _ c1 27 #[.slice none 0 0,.slice none 0 0] (0,0) _ rfl (kP e1) Tryz.underlying27 rfl kr_) rfl ?_;exact⟨_,_,er,z2_,Kd.Gv ((Kd.S_R z5_)),bl⟩
-- GLOBAL
-- IMPORT Derived.Test.YtdmlkjjlgkdnlaaGreatDoorShelf
def Jr.f (a0 b0:BA):Option (BA×BA×Bool):=if a0.size<4294967281 then some (⟨(Lib.cut a0.data.toList b0.data.toList).1.toArray⟩,⟨(Lib.cut a0.data.toList b0.data.toList).2.1.toArray⟩,(Lib.cut a0.data.toList b0.data.toList).2.2)else none
theorem Jr.c (a0:BA) (b0:BA) (c0:BA) (d0:BA) (e0:Bool) (w:World) (h:Jr.f a0 b0=some (c0,d0,e0)) (hG_:GL w):
  Calls Tryz.prog 75 #[.string a0,.string b0] w fun e w'=>e= .returned (.tuple #[.string c0,.string d0,.bool e0])/\Below w.heap.size w w':=by
 unfold Jr.f at h
 by_cases h0:a0.size<4294967281
 .rw[if_pos h0]at h;have h:=Option.some.inj h;obtain⟨m,hm⟩:=hG_.maxlen;refine(Tryz.strings_Cut a0 b0 m w h0 hm).mono ?_;rintro e w' ⟨rfl,n,rfl⟩;have g0:=congrArg (·.1) h;have j0:=congrArg (·.2.1) h;have l0:=congrArg (·.2.2) h;simp only at g0 j0 l0;rw[g0,j0,l0];exact⟨rfl,Fe (Below.refl _ _) n⟩
 .rw[if_neg h0]at h;cases h

-- IMPORT Derived.Test.YtdmlkjjlgkdnlaaGreatDoorShelf
def Hp.f (a0:LB) (b0:BA):Option BA:=if a0.length<=140737488355328/\(Lib.join (a0.map (·.data.toList)) b0.data.toList).length <=140737488355328 then some ⟨(Lib.join (a0.map (·.data.toList)) b0.data.toList).toArray⟩else none
theorem Hp.c (a0:OA) (b0:Nat) (c0:LB) (d0:BA) (r:BA) (w:World) (e0:Kd.C Kd.string w a0 c0.length c0) (g0:c0.length<=b0) (h:Hp.f c0 d0=some r):
  Calls Tryz.prog 142 #[.slice a0 c0.length b0,.string d0] w fun e w'=>e= .returned (.string r)/\Below w.heap.size w w':=by
 unfold Hp.f at h
 by_cases h0:c0.length<=140737488355328/\(Lib.join (c0.map (·.data.toList)) d0.data.toList).length <=140737488355328
 .rw[if_pos h0]at h;obtain rfl:=Option.some.inj h
  cases c0 with
  |nil=>exact(Tryz.strings_Join_none a0 b0 d0 w).mono fun e w' ⟨he,hw⟩=>⟨he,hw▸Below.refl _ _⟩
  |cons x l=>
   obtain⟨_,_,hc⟩:=e0;obtain⟨⟨bk,o,s⟩,rfl,hcell⟩:=hc (by simp)
   have h1:w.cell? ⟨bk,o,s⟩=some (.string x):=by
    obtain⟨c,hs,hk,hi⟩:=hcell 0 x rfl;have hk:c=[.string x]:=hk;subst hk;have h2:=hi 0 _ rfl;simp only[Nat.zero_mul,Nat.add_zero]at h2;exact h2
   have hsn:s=none:=by
    cases s with
    |none=>rfl
    |some q=>
     unfold World.cell? at h1
     split at h1 <;> simp at h1
   subst hsn
   have hx:∀(j:Nat) p,(x::l)[j]? =some p->w.cell? ⟨bk,o+j,none⟩=some (.string p):=fun j p hj=>by
    obtain⟨c,hs,hk,hi⟩:=hcell j p hj;have hk:c=[.string p]:=hk;subst hk;have h2:=hi 0 _ rfl;rw[Ji,show j*Kd.string.sz+0=j from Nat.mul_one j]at h2;exact h2
   exact Tryz.strings_Join bk o b0 (x::l) d0 w hx (World.block_lt_of_cell? w _ h1) h0.1 g0 h0.2
 .rw[if_neg h0]at h;cases h

def Ea.l0:Nat->LB->LI->Int->Int->Option (BA)
 |0,_,_,_,_=>none
 |k+1,a0,b0,c0,d0=>if d0<c0 then(if 0<=d0 then(if d0<(b0.length:Int)then((Ce.f (rd b0 d0)).bind fun e0=>(if a0.length<8796093022208 then(Ea.l0 k (a0++[e0]) b0 c0 (wrap64 (d0+1)))else(none)))else(none))else(none))else((Hp.f a0 (⟨#[44]⟩:BA)).bind fun g0=>(some g0))
def Ea.f (k:Nat) (a0:LI):Option (BA):=Ea.l0 k (([]:LB)) a0 (a0.length:Int) 0
theorem Ea.c (k:Nat) (a0:OA) (b0:Nat) (c0:LI) (r:BA) (w:World) (d0:Kd.C ki w a0 c0.length c0) (e0:c0.length<=b0) (h:Ea.f k c0=some r) (hG_:GL w):
  Calls Tryz.prog 102 #[.slice a0 c0.length b0] w fun e w'=>e= .returned (.string r)/\Below w.heap.size w w':=by
 have g0:=qa d0;have j0:=qa e0;clear d0 e0;have HB:=qa (Below.refl w.heap.size w);have H:=h;unfold Ea.f at H;clear h;obtain⟨n0,hy_⟩:∃y_:LB,y_=(([]:LB)):=⟨_,rfl⟩;replace H:(Ea.l0 k n0 c0 (c0.length:Int) 0)=some r:=yh;have p0:=qa hy_;clear hy_;have H':=qa H;clear H
 go_enter Tryz.func102,Tryz.ntmps102
 go_wp2_with(first|(refine rls 9 6 p0.out fun q0 r0 s0 hb=>?_;have t0:=lR s0;replace HB:=bs hb;clear hb s0))
 go_loopg [3,9] k (fun kq v0 w0 w'=>∃(x0:LB) (y0:Int),w0= .int .i64 y0/\Aside0 (Ea.l0 kq x0 c0 (c0.length:Int) y0=some r)/\Aside0 (kq<=k)/\Aside0 (Kd.R Kd.string 9 w' w.heap.size (fun _=>True) v0 x0)/\Aside0 (Below w.heap.size w w'))
 case atStart=>exact⟨(n0),(0),(sd),H',⟨Nat.le_refl _⟩,⟨kR t0⟩,⟨bl⟩⟩
 case round=>
  clear H';obtain⟨x0,y0,rfl,HA,HK1,A0,HB⟩:=hrel;obtain⟨k1,rfl,H⟩:=kz gk HA;clear HA;simp only[Ea.l0]at H;replace H:=qe H;obtain⟨B0,H⟩|⟨B0,H⟩:=H
  .replace H:=qd H;obtain⟨C0,H⟩:=H;replace H:=qd H;obtain⟨D0,H⟩:=H;replace H:=qb H;obtain⟨E0,G0,H⟩:=H;replace H:=qn H;obtain⟨J0,H⟩:=H;have K0:=qa J0;clear J0;obtain⟨L0,hy_⟩:∃y_:LB,y_=(x0++[E0]):=⟨_,rfl⟩;replace H:(Ea.l0 k1 L0 c0 (c0.length:Int) (wrap64 (y0+1)))=some r:=yh;have M0:=qa hy_;clear hy_;have H':=qa H;clear H;obtain⟨N0,⟨⟩,P0,Q0,R0⟩:=ai g0.out y0;(try replace P0:=(HB.out.cell (World.block_lt_of_cell? w _ P0)).trans P0)
   go_wp2_with(first|(refine gb 15 Tryz.func77 (Ce.c (rd c0 y0) E0 _ G0.out (Ed hG_ (bl))) fun U0 hb=>?_;replace A0:=bR A0 hb;replace HB:=bs hb)|((with_reducible refine Cw (b:= .append) (xs:=#[.tmp 13,.tmp 16]) rfl ?_);at_builtin;refine Kd.Hc Kd.string (w0:=w) w.heap.size rfl (.tmp 13) (.tmp 16) 35 9 (.string ⟨#[]⟩) 16 rfl Tryz.underlying35 info9 rfl kd_ ko_ u3 x0 E0 [.string E0] (fun _=>True) (fun _=>False) rfl rfl ?aP (fun _ hk=>hk.elim) ?aF ?aO ?aB ?aS ?aL ?_;(case aP=>exact rfl);(case aB=>exact(bl));(case aF=>exact(fun _ _=>trivial));(case aO=>exact(kR A0));(case aS=>exact(Cj (bl)));(case aL=>have:=K0.out;omega);intro V0 W0 ho hb hg hat;rw[<-M0.out]at ho;replace HB:=qa (hb);have X0:=qa (ho);clear A0;clear ho hb hg hat))
   go_roundg k1
   case measure=>have:=HK1.out;omega
   case rel=>exact⟨(L0),(wrap64 (y0+1)),(sd),H',⟨by have:=HK1.out;omega⟩,⟨kR X0⟩,⟨bl⟩⟩
  .replace H:=qb H;obtain⟨Y0,a1,H⟩:=H;obtain rfl:=sj H;obtain⟨b1,c1,rfl⟩:=Kd.An A0.out
   go_wp2_with(first|(refine gb 20 Tryz.func142 (Hp.c _ _ x0 (⟨#[44]⟩:BA) Y0 _ (cx (Kd.Ab A0.out).2.2) ((Kd.Ab A0.out).2.1) a1.out) fun d1 hb=>?_;replace A0:=bR A0 hb;replace HB:=bs hb))
   go_ret;exact⟨er,bl⟩

def impl_yes.f (a0:Bool):Option (BA):=if a0=true then(some (⟨#[121,101,115]⟩:BA))else(some (⟨#[110,111]⟩:BA))
theorem impl_yes.calls (a0:Bool) (r:BA) (w:World) (h:impl_yes.f a0=some r):
  Calls Tryz.prog 103 #[.bool a0] w fun e w'=>e= .returned (.string r)/\Drawn0 w w':=by
 have H:=h;unfold impl_yes.f at H;clear h;replace H:=qc H;obtain⟨rfl,H⟩|⟨rfl,H⟩:=H
 .obtain rfl:=sj H
  go_enter Tryz.func103,Tryz.ntmps103
  go_wp2;go_ret;exact⟨sd,dr⟩
 .obtain rfl:=sj H
  go_enter Tryz.func103,Tryz.ntmps103
  go_wp2;go_ret;exact⟨sd,dr⟩

mutual
def Bs.l0:Nat->LI->Bool->Int->Option (Bool)
 |0,_,_,_=>none
 |k+1,a0,b0,c0=>if c0<=24 then(Bs.l1 k a0 b0 c0 1)else(if 0<(a0.length:Int)then(some ((rd a0 0)==1))else(none))
def Bs.l1:Nat->LI->Bool->Int->Int->Option (Bool)
 |0,_,_,_,_=>none
 |k+1,a0,b0,c0,d0=>if(wrap64 (c0*d0))<=24 then(if b0=true then(if 0<=(wrap64 ((wrap64 (c0*d0))-1))then(if(wrap64 ((wrap64 (c0*d0))-1))<(a0.length:Int)then(if 0<=(wrap64 (c0-1))then(if(wrap64 (c0-1))<(a0.length:Int)then(if 0<=(wrap64 (d0-1))then(if(wrap64 (d0-1))<(a0.length:Int)then(if(rd a0 (wrap64 ((wrap64 (c0*d0))-1)))=(wrap64 ((rd a0 (wrap64 (c0-1)))*(rd a0 (wrap64 (d0-1)))))then(Bs.l1 k a0 b0 c0 (wrap64 (d0+1)))else(some false))else(none))else(none))else(none))else(none))else(none))else(none))else((Du.f k c0 d0).bind fun e0=>(if e0=1 then(if 0<=(wrap64 ((wrap64 (c0*d0))-1))then(if(wrap64 ((wrap64 (c0*d0))-1))<(a0.length:Int)then(if 0<=(wrap64 (c0-1))then(if(wrap64 (c0-1))<(a0.length:Int)then(if 0<=(wrap64 (d0-1))then(if(wrap64 (d0-1))<(a0.length:Int)then(if(rd a0 (wrap64 ((wrap64 (c0*d0))-1)))=(wrap64 ((rd a0 (wrap64 (c0-1)))*(rd a0 (wrap64 (d0-1)))))then(Bs.l1 k a0 b0 c0 (wrap64 (d0+1)))else(some false))else(none))else(none))else(none))else(none))else(none))else(none))else(Bs.l1 k a0 b0 c0 (wrap64 (d0+1))))))else(Bs.l0 k a0 b0 (wrap64 (c0+1)))
end

def Bs.f (k:Nat) (a0:LI) (b0:Bool):Option (Bool):=Bs.l0 k a0 b0 1
theorem Bs.c (k:Nat) (a0:OA) (b0:Nat) (c0:LI) (d0:Bool) (r:Bool) (w:World) (e0:Kd.C ki w a0 c0.length c0) (g0:c0.length<=b0) (h:Bs.f k c0 d0=some r):
  Calls Tryz.prog 143 #[.slice a0 c0.length b0,.bool d0] w fun e w'=>e= .returned (.bool r)/\Drawn0 w w':=by
 have j0:=qa e0;have n0:=qa g0;clear e0 g0;have H:=h;unfold Bs.f at H;clear h;have H':=qa H;clear H
 go_enter Tryz.func143,Tryz.ntmps143
 go_wp2
 repeat(go_quiet(fail);try go_wp2)
 go_loopg [5] k (fun kq p0 w'=>∃(q0:Int),p0= .int .i64 q0/\Aside0 (Bs.l0 kq c0 d0 q0=some r)/\Aside0 (kq<=k)/\Drawn0 w w')
 case atStart=>exact⟨(1),(sd),H',⟨Nat.le_refl _⟩,dr⟩
 case round=>
  clear H';obtain⟨q0,rfl,HA,HK1,⟨m1,rfl⟩⟩:=hrel;obtain⟨k1,rfl,H⟩:=kz gk HA;clear HA;simp only[Bs.l0]at H;replace H:=qe H;obtain⟨r0,H⟩|⟨r0,H⟩:=H
  .have H':=qa H;clear H;go_wp2
   repeat(go_quiet(fail);try go_wp2)
   go_loopg [6] k1 (fun kq s0 w'=>∃(t0:Int),s0= .int .i64 t0/\Aside0 (Bs.l1 kq c0 d0 q0 t0=some r)/\Aside0 (kq<=k1)/\Drawn0 w w')
   case atStart=>exact⟨(1),(sd),H',⟨Nat.le_refl _⟩,dr⟩
   case round=>
    clear H';obtain⟨t0,rfl,HA,HK2,⟨m2,rfl⟩⟩:=hrel;obtain⟨k2,rfl,H⟩:=kz gk HA;clear HA;simp only[Bs.l1]at H;replace H:=qe H;obtain⟨v0,H⟩|⟨v0,H⟩:=H
    .replace H:=qc H;obtain⟨rfl,H⟩|⟨rfl,H⟩:=H
     .obtain⟨w0,x0⟩:∃j_:Int,(wrap64 ((wrap64 (q0*t0))-1))=j_:=⟨_,rfl⟩;(first|rw[x0]at H|(try simp only[x0]at H));have y0:(IntKind.i64.wrap ((wrap64 (q0*t0))-1))=w0:=(Bv _).trans x0;have A0:(IntKind.i64.wrap ((IntKind.i64.wrap (q0*t0))-1))=w0:=(congrArg (fun z_=>IntKind.i64.wrap (z_-1)) (Bv _)).trans y0;replace H:=qd H;obtain⟨B0,H⟩:=H;replace H:=qd H;obtain⟨C0,H⟩:=H;obtain⟨D0,E0⟩:∃j_:Int,(wrap64 (q0-1))=j_:=⟨_,rfl⟩;(first|rw[E0]at H|(try simp only[E0]at H));have G0:(IntKind.i64.wrap (q0-1))=D0:=(Bv _).trans E0;replace H:=qd H;obtain⟨J0,H⟩:=H;replace H:=qd H;obtain⟨K0,H⟩:=H;obtain⟨L0,M0⟩:∃j_:Int,(wrap64 (t0-1))=j_:=⟨_,rfl⟩;(first|rw[M0]at H|(try simp only[M0]at H));have N0:(IntKind.i64.wrap (t0-1))=L0:=(Bv _).trans M0;replace H:=qd H;obtain⟨P0,H⟩:=H;replace H:=qd H;obtain⟨Q0,H⟩:=H;replace H:=qq H;obtain⟨R0,U0,H⟩|⟨V0,R0,U0,H⟩:=H
      ·(try(have c15b0v:=R0;have c15b1v:=U0;simp only[<-Bv]at c15b0v c15b1v));have H':=qa H;clear H;obtain⟨W0,⟨⟩,X0,Y0,a1⟩:=ai j0.out (w0);obtain⟨b1,c1,d1⟩:=aj j0.out (D0);obtain⟨e1,g1,j1⟩:=aj j0.out (L0);go_wp2
       repeat(go_quiet(fail);try go_wp2)
       go_roundg k2
       case measure=>have:=HK1.out;have:=HK2.out;omega
       case rel=>exact⟨(wrap64 (t0+1)),(sd),H',⟨by have:=HK1.out;have:=HK2.out;omega⟩,dr⟩
      ·(try(have c15b0v:=R0;have c15b1v:=U0;simp only[<-Bv]at c15b0v c15b1v));obtain rfl:=sj H;obtain⟨W0,⟨⟩,X0,Y0,a1⟩:=ai j0.out (w0);obtain⟨b1,c1,d1⟩:=aj j0.out (D0);obtain⟨e1,g1,j1⟩:=aj j0.out (L0);go_wp2
       repeat(go_quiet(fail);try go_wp2)
       go_ret;exact⟨by first|rfl|(simp;done)|(simp only[<-x0,<-E0,<-M0] <;> (first|rfl|simp))|(simp[*];done),dr⟩
     .replace H:=qb H;obtain⟨n1,p1,H⟩:=H;replace H:=qq H;obtain⟨q1,r1,H⟩|⟨s1,q1,r1,H⟩:=H
      ·(try(have c17b0v:=q1;have c17b1v:=r1;simp only[<-Bv]at c17b0v c17b1v));obtain⟨t1,v1⟩:∃j_:Int,(wrap64 ((wrap64 (q0*t0))-1))=j_:=⟨_,rfl⟩;(first|rw[v1]at H|(try simp only[v1]at H));(try rw[v1]at p1);have w1:(IntKind.i64.wrap ((wrap64 (q0*t0))-1))=t1:=(Bv _).trans v1;have x1:(IntKind.i64.wrap ((IntKind.i64.wrap (q0*t0))-1))=t1:=(congrArg (fun z_=>IntKind.i64.wrap (z_-1)) (Bv _)).trans w1;replace H:=qd H;obtain⟨y1,H⟩:=H;replace H:=qd H;obtain⟨A1,H⟩:=H;obtain⟨B1,C1⟩:∃j_:Int,(wrap64 (q0-1))=j_:=⟨_,rfl⟩;(first|rw[C1]at H|(try simp only[C1]at H));(try rw[C1]at p1);have D1:(IntKind.i64.wrap (q0-1))=B1:=(Bv _).trans C1;replace H:=qd H;obtain⟨E1,H⟩:=H;replace H:=qd H;obtain⟨G1,H⟩:=H;obtain⟨J1,K1⟩:∃j_:Int,(wrap64 (t0-1))=j_:=⟨_,rfl⟩;(first|rw[K1]at H|(try simp only[K1]at H));(try rw[K1]at p1);have L1:(IntKind.i64.wrap (t0-1))=J1:=(Bv _).trans K1;replace H:=qd H;obtain⟨M1,H⟩:=H;replace H:=qd H;obtain⟨N1,H⟩:=H;replace H:=qq H;obtain⟨P1,Q1,H⟩|⟨R1,P1,Q1,H⟩:=H
       ·(try(have c27b0v:=P1;have c27b1v:=Q1;simp only[<-Bv]at c27b0v c27b1v));have H':=qa H;clear H
        go_wp2_with(first|(go_at_call 163;(with_reducible refine gm (Du.c k2 q0 t0 n1 _ p1.out) fun nd=>?_);(try exact dn);obtain⟨U1,⟨⟩,V1,W1,X1⟩:=ai j0.out (t1);obtain⟨Y1,a2,b2⟩:=aj j0.out (B1);obtain⟨c2,d2,e2⟩:=aj j0.out (J1)))
        repeat(go_quiet(first|(go_at_call 163;(with_reducible refine gm (Du.c k2 q0 t0 n1 _ p1.out) fun nd=>?_);(try exact dn);obtain⟨U1,⟨⟩,V1,W1,X1⟩:=ai j0.out (t1);obtain⟨Y1,a2,b2⟩:=aj j0.out (B1);obtain⟨c2,d2,e2⟩:=aj j0.out (J1)));try go_wp2_with(first|(go_at_call 163;(with_reducible refine gm (Du.c k2 q0 t0 n1 _ p1.out) fun nd=>?_);(try exact dn);obtain⟨U1,⟨⟩,V1,W1,X1⟩:=ai j0.out (t1);obtain⟨Y1,a2,b2⟩:=aj j0.out (B1);obtain⟨c2,d2,e2⟩:=aj j0.out (J1))))
        go_roundg k2
        case measure=>have:=HK1.out;have:=HK2.out;omega
        case rel=>exact⟨(wrap64 (t0+1)),(sd),H',⟨by have:=HK1.out;have:=HK2.out;omega⟩,dr⟩
       ·(try(have c27b0v:=P1;have c27b1v:=Q1;simp only[<-Bv]at c27b0v c27b1v));obtain rfl:=sj H
        go_wp2_with(first|(go_at_call 163;(with_reducible refine gm (Du.c k2 q0 t0 n1 _ p1.out) fun nd=>?_);(try exact dn);obtain⟨U1,⟨⟩,V1,W1,X1⟩:=ai j0.out (t1);obtain⟨Y1,a2,b2⟩:=aj j0.out (B1);obtain⟨c2,d2,e2⟩:=aj j0.out (J1)))
        repeat(go_quiet(first|(go_at_call 163;(with_reducible refine gm (Du.c k2 q0 t0 n1 _ p1.out) fun nd=>?_);(try exact dn);obtain⟨U1,⟨⟩,V1,W1,X1⟩:=ai j0.out (t1);obtain⟨Y1,a2,b2⟩:=aj j0.out (B1);obtain⟨c2,d2,e2⟩:=aj j0.out (J1)));try go_wp2_with(first|(go_at_call 163;(with_reducible refine gm (Du.c k2 q0 t0 n1 _ p1.out) fun nd=>?_);(try exact dn);obtain⟨U1,⟨⟩,V1,W1,X1⟩:=ai j0.out (t1);obtain⟨Y1,a2,b2⟩:=aj j0.out (B1);obtain⟨c2,d2,e2⟩:=aj j0.out (J1))))
        go_ret;exact⟨by first|rfl|(simp;done)|(simp only[<-v1,<-C1,<-K1] <;> (first|rfl|simp))|(simp[*];done),dr⟩
      ·(try(have c17b0v:=q1;have c17b1v:=r1;simp only[<-Bv]at c17b0v c17b1v));have H':=qa H;clear H
       go_wp2_with(first|(go_at_call 163;(with_reducible refine gm (Du.c k2 q0 t0 n1 _ p1.out) fun nd=>?_);(try exact dn)))
       repeat(go_quiet(first|(go_at_call 163;(with_reducible refine gm (Du.c k2 q0 t0 n1 _ p1.out) fun nd=>?_);(try exact dn)));try go_wp2_with(first|(go_at_call 163;(with_reducible refine gm (Du.c k2 q0 t0 n1 _ p1.out) fun nd=>?_);(try exact dn))))
       go_roundg k2
       case measure=>have:=HK1.out;have:=HK2.out;omega
       case rel=>exact⟨(wrap64 (t0+1)),(sd),H',⟨by have:=HK1.out;have:=HK2.out;omega⟩,dr⟩
    .have H':=qa H;clear H;go_wp2
     repeat(go_quiet(fail);try go_wp2)
     go_roundg k2
     case measure=>have:=HK1.out;have:=HK2.out;omega
     case rel=>exact⟨(wrap64 (q0+1)),(sd),H',⟨by have:=HK1.out;have:=HK2.out;omega⟩,dr⟩
  .by_cases g2:0<(c0.length:Int)
   .rw[if_pos g2]at H;have j2:decide (0<(c0.length:Int))=true:=decide_eq_true g2;have l2:decide (0<c0.length)=true:=decide_eq_true ko_;clear g2;obtain rfl:=sj H;obtain⟨n2,⟨⟩,p2,qi306,q2,r2⟩:=ain 0 j0.out 0;(try rw[Addr.add_zero']at p2);go_wp2
    repeat(go_quiet(fail);try go_wp2)
    go_ret;exact⟨sd,dr⟩
   .rw[if_neg g2]at H;exact absurd H (by simp)

def Gf.f (k:Nat) (a0:LI):Option (Bool):=(Ff.f k a0).bind fun b0=>(if b0=true then((Bs.f k a0 false).bind fun c0=>(some c0))else(some false))
theorem Gf.c (k:Nat) (a0:OA) (b0:Nat) (c0:LI) (r:Bool) (w:World) (d0:Kd.C ki w a0 c0.length c0) (e0:c0.length<=b0) (h:Gf.f k c0=some r):
  Calls Tryz.prog 104 #[.slice a0 c0.length b0] w fun e w'=>e= .returned (.bool r)/\Drawn0 w w':=by
 have g0:=qa d0;have j0:=qa e0;clear d0 e0;have H:=h;unfold Gf.f at H;clear h;replace H:=qb H;obtain⟨l0,n0,H⟩:=H;replace H:=qc H;obtain⟨rfl,H⟩|⟨rfl,H⟩:=H
 .replace H:=qb H;obtain⟨p0,q0,H⟩:=H;obtain rfl:=sj H
  go_enter Tryz.func104,Tryz.ntmps104
  go_wp2_with(first|(refine gd 4 Tryz.func78 (Ff.c k _ _ c0 true _ (cx g0.out) j0.out n0.out) fun nd=>?_)|(go_at_call 143;(with_reducible refine(Bs.c k _ _ c0 false p0 _ ?r0 ?s0 q0.out).mono ?_);(case r0=>exact cx g0.out);(case s0=>exact j0.out);rintro e w' ⟨rfl,⟨nd,rfl⟩⟩))
  go_ret;exact⟨sd,dr⟩
 .obtain rfl:=sj H
  go_enter Tryz.func104,Tryz.ntmps104
  go_wp2_with(first|(refine gd 4 Tryz.func78 (Ff.c k _ _ c0 false _ (cx g0.out) j0.out n0.out) fun nd=>?_))
  go_ret;exact⟨sd,dr⟩

def Jh.f (k:Nat) (a0:LI):Option (Bool):=(Ff.f k a0).bind fun b0=>(if b0=true then((Bs.f k a0 true).bind fun c0=>(some c0))else(some false))
theorem Jh.c (k:Nat) (a0:OA) (b0:Nat) (c0:LI) (r:Bool) (w:World) (d0:Kd.C ki w a0 c0.length c0) (e0:c0.length<=b0) (h:Jh.f k c0=some r):
  Calls Tryz.prog 105 #[.slice a0 c0.length b0] w fun e w'=>e= .returned (.bool r)/\Drawn0 w w':=by
 have g0:=qa d0;have j0:=qa e0;clear d0 e0;have H:=h;unfold Jh.f at H;clear h;replace H:=qb H;obtain⟨l0,n0,H⟩:=H;replace H:=qc H;obtain⟨rfl,H⟩|⟨rfl,H⟩:=H
 .replace H:=qb H;obtain⟨p0,q0,H⟩:=H;obtain rfl:=sj H
  go_enter Tryz.func105,Tryz.ntmps105
  go_wp2_with(first|(refine gd 4 Tryz.func78 (Ff.c k _ _ c0 true _ (cx g0.out) j0.out n0.out) fun nd=>?_)|(go_at_call 143;(with_reducible refine(Bs.c k _ _ c0 true p0 _ ?r0 ?s0 q0.out).mono ?_);(case r0=>exact cx g0.out);(case s0=>exact j0.out);rintro e w' ⟨rfl,⟨nd,rfl⟩⟩))
  go_ret;exact⟨sd,dr⟩
 .obtain rfl:=sj H
  go_enter Tryz.func105,Tryz.ntmps105
  go_wp2_with(first|(refine gd 4 Tryz.func78 (Ff.c k _ _ c0 false _ (cx g0.out) j0.out n0.out) fun nd=>?_))
  go_ret;exact⟨sd,dr⟩

def Cp.f (k:Nat) (a0:LB) (b0:BA):Option (Bool):=(Ax.f k a0 b0).bind fun c0=>(some (decide (c0>=0)))
theorem Cp.c (k:Nat) (a0:OA) (b0:Nat) (c0:LB) (d0:BA) (r:Bool) (w:World) (e0:Kd.C Kd.string w a0 c0.length c0) (g0:c0.length<=b0) (h:Cp.f k c0 d0=some r):
  Calls Tryz.prog 106 #[.slice a0 c0.length b0,.string d0] w fun e w'=>e= .returned (.bool r)/\Drawn0 w w':=by
 have j0:=qa e0;have l0:=qa g0;clear e0 g0;have H:=h;unfold Cp.f at H;clear h;replace H:=qb H;obtain⟨n0,p0,H⟩:=H;obtain rfl:=sj H
 go_enter Tryz.func106,Tryz.ntmps106
 go_wp2_with(first|(refine gd 7 Tryz.func93 (Ax.c k _ _ c0 d0 n0 _ (cx j0.out) l0.out p0.out) fun nd=>?_))
 go_ret;exact⟨sd,dr⟩

def Bk.f (a0:Int):Option (Bool):=if a0>=1 then(some (decide (a0<=10000)))else(some false)
theorem Bk.c (a0:Int) (r:Bool) (w:World) (h:Bk.f a0=some r):
  Calls Tryz.prog 107 #[.int .i64 a0] w fun e w'=>e= .returned (.bool r)/\Drawn0 w w':=by
 have H:=h;unfold Bk.f at H;clear h;replace H:=qu H;obtain⟨b0,H⟩|⟨b0,H⟩:=H
 .obtain rfl:=sj H
  go_enter Tryz.func107,Tryz.ntmps107
  go_wp2;go_ret;exact⟨sd,dr⟩
 .obtain rfl:=sj H
  go_enter Tryz.func107,Tryz.ntmps107
  go_wp2;go_ret;exact⟨sd,dr⟩
def Dq.l0:Nat->LB->LL->Int->Int->Option (BA)
 |0,_,_,_,_=>none
 |k+1,a0,b0,c0,d0=>if d0<c0 then(if 0<=d0 then(if d0<(b0.length:Int)then(if 0<((Bl b0 d0).length :Int)then((Ce.f (rd (Bl b0 d0) 0)).bind fun e0=>(if 1<((Bl b0 d0).length :Int)then(if(rd (Bl b0 d0) 1)>1 then((Ce.f (rd (Bl b0 d0) 1)).bind fun g0=>(if 1+g0.size<=9223372036854775807 then(if e0.size+((⟨#[94]⟩:BA)++g0).size <=9223372036854775807 then(if a0.length<8796093022208 then(Dq.l0 k (a0++[e0++((⟨#[94]⟩:BA)++g0)]) b0 c0 (wrap64 (d0+1)))else(none))else(none))else(none)))else(if a0.length<8796093022208 then(Dq.l0 k (a0++[e0]) b0 c0 (wrap64 (d0+1)))else(none)))else(none)))else(none))else(none))else(none))else((Hp.f a0 (⟨#[46]⟩:BA)).bind fun j0=>(some j0))
def Dq.f (k:Nat) (a0:Int):Option (BA):=(Bk.f a0).bind fun b0=>(if b0=true then(if a0=1 then(some (⟨#[49]⟩:BA))else((Al.f k a0).bind fun c0=>(Dq.l0 k (([]:LB)) c0 (c0.length:Int) 0)))else(some (⟨#[]⟩:BA)))
theorem Dq.c (k:Nat) (a0:Int) (r:BA) (w:World) (h:Dq.f k a0=some r) (hG_:GL w):
  Calls Tryz.prog 108 #[.int .i64 a0] w fun e w'=>e= .returned (.string r)/\Below w.heap.size w w':=by
 have HB:=qa (Below.refl w.heap.size w);have H:=h;unfold Dq.f at H;clear h;replace H:=qb H;obtain⟨b0,c0,H⟩:=H;replace H:=qc H;obtain⟨rfl,H⟩|⟨rfl,H⟩:=H
 .replace H:=qq H;obtain⟨d0,e0,H⟩|⟨g0,d0,e0,H⟩:=H
  .obtain rfl:=sj H
   go_enter Tryz.func108,Tryz.ntmps108
   go_wp2_with(first|(refine gd 8 Tryz.func107 (Bk.c a0 true _ c0.out) fun nd=>?_))
   go_ret;exact⟨er,bl⟩
  .obtain⟨j0,n0⟩:∃y_:LB,y_=(([]:LB)):=⟨_,rfl⟩;(replace H:((Al.f k a0).bind fun p0=>(Dq.l0 k j0 p0 (p0.length:Int) 0))=some r:=by first|(rw[n0];with_reducible exact H)|(have H2_:=(Option.bind_some _ _).symm.trans H;rw[n0];with_reducible exact H2_)|(have H2_:=(Option.bind_some _ _).symm.trans H;with_reducible exact H2_)|with_reducible exact H|(rw[n0];exact H)|exact H);have q0:=qa n0;clear n0;replace H:=qb H;obtain⟨p0,r0,H⟩:=H;have H':=qa H;clear H
   go_enter Tryz.func108,Tryz.ntmps108
   go_wp2_with(first|(refine gd 8 Tryz.func107 (Bk.c a0 true _ c0.out) fun nd=>?_)|(refine rls 9 12 q0.out fun s0 t0 v0 hb=>?_;have w0:=lR v0;replace HB:=bs hb;clear hb v0)|(refine ge_ 14 Tryz.func138 (Al.c k a0 p0 _ r0.out) fun x0 y0 A0 hb=>?_;replace w0:=bR w0 hb;have B0:=lS A0;replace HB:=bs hb;obtain⟨C0,D0,rfl⟩:=Kd.Ft B0.out))
   go_loopg [3,16] k (fun kq E0 G0 w'=>∃(J0:LB) (K0:Int),G0= .int .i64 K0/\Aside0 (Dq.l0 kq J0 p0 (p0.length:Int) K0=some r)/\Aside0 (kq<=k)/\Aside0 (Kd.R Kd.string 9 w' w.heap.size (fun _=>True) E0 J0)/\Aside0 (Kd.S (Kd.slice 3 ki) 22 w' w.heap.size (fun _=>True) (.slice C0 p0.length D0) p0)/\Aside0 (Below w.heap.size w w'))
   case atStart=>exact⟨(j0),(0),(sd),H',⟨Nat.le_refl _⟩,⟨kR w0⟩,⟨kS B0⟩,⟨bl⟩⟩
   case round=>
    clear H';obtain⟨J0,K0,rfl,HA,HK1,L0,M0,HB⟩:=hrel;obtain⟨k1,rfl,H⟩:=kz gk HA;clear HA;simp only[Dq.l0]at H;replace H:=qe H;obtain⟨N0,H⟩|⟨N0,H⟩:=H
    .replace H:=qd H;obtain⟨P0,H⟩:=H;replace H:=qd H;obtain⟨Q0,H⟩:=H;replace H:=qL 0 H;obtain⟨R0,U0,H⟩:=H;replace H:=qb H;obtain⟨V0,W0,H⟩:=H;replace H:=qL 1 H;obtain⟨X0,Y0,H⟩:=H;replace H:=qg H;obtain⟨a1,H⟩|⟨a1,H⟩:=H
     .replace H:=qb H;obtain⟨b1,c1,H⟩:=H;replace H:=qN H;obtain⟨d1,e1,g1,j1,H⟩:=H;replace H:=qN H;obtain⟨l1,n1,p1,q1,H⟩:=H
      try(have c19bq:=q1;simp only[ByteArray.size_append,show(⟨#[94]⟩:BA).size =1 from rfl]at c19bq)
      replace H:=qn H;obtain⟨r1,H⟩:=H;have s1:=qa r1;clear r1;obtain⟨t1,hy_⟩:∃y_:LB,y_=(J0++[V0++((⟨#[94]⟩:BA)++b1)]):=⟨_,rfl⟩;replace H:(Dq.l0 k1 t1 p0 (p0.length:Int) (wrap64 (K0+1)))=some r:=yh;have v1:=qa hy_;clear hy_;have H':=qa H;clear H;obtain⟨w1,x1,y1,⟨⟩,A1,HL327_0,B1,C1,D1,E1⟩:=sg_L1 M0.out K0;obtain⟨G1,⟨⟩,J1,qi328,K1,L1⟩:=ain 0 (cw B1) 0;(try rw[Addr.add_zero']at J1)
      go_wp2_with(first|(refine gb 23 Tryz.func77 (Ce.c (rd (Bl p0 K0) 0) V0 _ W0.out (Ed hG_ (bl))) fun M1 hb=>?_;replace L0:=bR L0 hb;replace M0:=bS M0 hb;replace HL327_0:=bR HL327_0 hb;replace B1:=qa (Kd.Ai (cw B1) hb);replace HB:=bs hb;have N1:0<=(1:Int):=ko_;have P1:1<((Bl p0 K0).length :Int):=qo;obtain⟨Q1,R1,U1⟩:=Kd.Fx (cw B1) 1 N1 P1;obtain rfl:G1=Q1:=(by injection R1);(try simp only[show(1:Int).toNat =1 from rfl,Nat.reduceMul,Nat.reduceEqDiff,Go.Addr.add,↓reduceIte]at U1);have qi330:(1<(Bl p0 K0).length)=True:=eq_true ko_;(try rw[show((1:Int)).toNat =1 from rfl]at U1);replace N1:=eq_true N1;replace P1:=eq_true P1;have V1:0<=(1:Int):=ko_;have W1:1<((Bl p0 K0).length :Int):=qo;obtain⟨X1,Y1,a2⟩:=Kd.Fx (cw B1) 1 V1 W1;obtain rfl:G1=X1:=(by injection Y1);(try simp only[show(1:Int).toNat =1 from rfl,Nat.reduceMul,Nat.reduceEqDiff,Go.Addr.add,↓reduceIte]at a2);have qi331:(1<(Bl p0 K0).length)=True:=eq_true ko_;(try rw[show((1:Int)).toNat =1 from rfl]at a2);replace V1:=eq_true V1;replace W1:=eq_true W1)|(refine gb 32 Tryz.func77 (Ce.c (rd (Bl p0 K0) 1) b1 _ c1.out (Ed hG_ (bl))) fun b2 hb=>?_;replace L0:=bR L0 hb;replace M0:=bS M0 hb;replace HL327_0:=bR HL327_0 hb;replace B1:=qa (Kd.Ai (cw B1) hb);replace HB:=bs hb)|((with_reducible refine Cw (b:= .append) (xs:=#[.tmp 35,.tmp 37]) rfl ?_);at_builtin;refine Kd.Hc Kd.string (w0:=w) w.heap.size rfl (.tmp 35) (.tmp 37) 35 9 (.string ⟨#[]⟩) 16 rfl Tryz.underlying35 info9 rfl kd_ ko_ u3 J0 (V0++((⟨#[94]⟩:BA)++b1)) [.string (V0++((⟨#[94]⟩:BA)++b1))] (fun _=>True) (fun _=>False) rfl rfl ?aP (fun _ hk=>hk.elim) ?aF ?aO ?aB ?aS ?aL ?_;(case aP=>exact rfl);(case aB=>exact(bl));(case aF=>exact(fun _ _=>trivial));(case aO=>exact(kR L0));(case aS=>exact(Cj (bl)));(case aL=>have:=s1.out;omega);intro c2 d2 ho hb hg hat;rw[<-v1.out]at ho;replace M0:=qa (Kd.S_over' (kS M0) (Kd.Ef (kR L0)) kd_ hg);replace HL327_0:=qa (Kd.Hu (kR HL327_0) (Kd.Ef (kR L0)) kd_ hg);replace HB:=qa (hb);have e2:=qa (ho);clear L0;clear ho hb hg hat))
      go_roundg k1
      case measure=>have:=HK1.out;omega
      case rel=>exact⟨(t1),(wrap64 (K0+1)),(sd),H',⟨by have:=HK1.out;omega⟩,⟨kR e2⟩,⟨kS M0⟩,⟨bl⟩⟩
     .replace H:=qn H;obtain⟨g2,H⟩:=H;have j2:=qa g2;clear g2;obtain⟨l2,hy_⟩:∃y_:LB,y_=(J0++[V0]):=⟨_,rfl⟩;replace H:(Dq.l0 k1 l2 p0 (p0.length:Int) (wrap64 (K0+1)))=some r:=yh;have n2:=qa hy_;clear hy_;have H':=qa H;clear H;obtain⟨w1,x1,y1,⟨⟩,A1,HL327_0,B1,C1,D1,E1⟩:=sg_L1 M0.out K0;obtain⟨G1,⟨⟩,J1,qi328,K1,L1⟩:=ain 0 (cw B1) 0;(try rw[Addr.add_zero']at J1)
      go_wp2_with(first|(refine gb 23 Tryz.func77 (Ce.c (rd (Bl p0 K0) 0) V0 _ W0.out (Ed hG_ (bl))) fun p2 hb=>?_;replace L0:=bR L0 hb;replace M0:=bS M0 hb;replace HL327_0:=bR HL327_0 hb;replace B1:=qa (Kd.Ai (cw B1) hb);replace HB:=bs hb;have N1:0<=(1:Int):=ko_;have P1:1<((Bl p0 K0).length :Int):=qo;obtain⟨Q1,R1,U1⟩:=Kd.Fx (cw B1) 1 N1 P1;obtain rfl:G1=Q1:=(by injection R1);(try simp only[show(1:Int).toNat =1 from rfl,Nat.reduceMul,Nat.reduceEqDiff,Go.Addr.add,↓reduceIte]at U1);have qi330:(1<(Bl p0 K0).length)=True:=eq_true ko_;(try rw[show((1:Int)).toNat =1 from rfl]at U1);replace N1:=eq_true N1;replace P1:=eq_true P1)|((with_reducible refine Cw (b:= .append) (xs:=#[.tmp 35,.tmp 37]) rfl ?_);at_builtin;refine Kd.Hc Kd.string (w0:=w) w.heap.size rfl (.tmp 35) (.tmp 37) 35 9 (.string ⟨#[]⟩) 16 rfl Tryz.underlying35 info9 rfl kd_ ko_ u3 J0 V0 [.string V0] (fun _=>True) (fun _=>False) rfl rfl ?aP (fun _ hk=>hk.elim) ?aF ?aO ?aB ?aS ?aL ?_;(case aP=>exact rfl);(case aB=>exact(bl));(case aF=>exact(fun _ _=>trivial));(case aO=>exact(kR L0));(case aS=>exact(Cj (bl)));(case aL=>have:=j2.out;omega);intro q2 r2 ho hb hg hat;rw[<-n2.out]at ho;replace M0:=qa (Kd.S_over' (kS M0) (Kd.Ef (kR L0)) kd_ hg);replace HL327_0:=qa (Kd.Hu (kR HL327_0) (Kd.Ef (kR L0)) kd_ hg);replace HB:=qa (hb);have s2:=qa (ho);clear L0;clear ho hb hg hat))
      go_roundg k1
      case measure=>have:=HK1.out;omega
      case rel=>exact⟨(l2),(wrap64 (K0+1)),(sd),H',⟨by have:=HK1.out;omega⟩,⟨kR s2⟩,⟨kS M0⟩,⟨bl⟩⟩
    .replace H:=qb H;obtain⟨t2,v2,H⟩:=H;obtain rfl:=sj H;obtain⟨w2,x2,rfl⟩:=Kd.An L0.out
     go_wp2_with(first|(refine gb 41 Tryz.func142 (Hp.c _ _ J0 (⟨#[46]⟩:BA) t2 _ (cx (Kd.Ab L0.out).2.2) ((Kd.Ab L0.out).2.1) v2.out) fun y2 hb=>?_;replace L0:=bR L0 hb;replace M0:=bS M0 hb;replace HB:=bs hb))
     go_ret;exact⟨er,bl⟩
 .obtain rfl:=sj H
  go_enter Tryz.func108,Tryz.ntmps108
  go_wp2_with(first|(refine gd 8 Tryz.func107 (Bk.c a0 false _ c0.out) fun nd=>?_))
  go_ret;exact⟨er,bl⟩

def De.l0:Nat->LI->Int->Int->Int->Option (Int)
 |0,_,_,_,_=>none
 |k+1,a0,b0,c0,d0=>if d0<c0 then(if 0<=d0 then(if d0<(a0.length:Int)then(if b0=(rd a0 d0)then(some d0)else(De.l0 k a0 b0 c0 (wrap64 (d0+1))))else(none))else(none))else(some (-1))
def De.f (k:Nat) (a0:LI) (b0:Int):Option (Int):=De.l0 k a0 b0 (a0.length:Int) 0
theorem De.c (k:Nat) (a0:OA) (b0:Nat) (c0:LI) (d0:Int) (r:Int) (w:World) (e0:Kd.C ki w a0 c0.length c0) (g0:c0.length<=b0) (h:De.f k c0 d0=some r):
  Calls Tryz.prog 168 #[.slice a0 c0.length b0,.int .i64 d0] w fun e w'=>e= .returned (.int .i64 r)/\Drawn0 w w':=by
 have j0:=qa e0;have n0:=qa g0;clear e0 g0;have H:=h;unfold De.f at H;clear h;have H':=qa H;clear H
 go_enter Tryz.func168,Tryz.ntmps168
 go_wp2
 go_loopg [8] k (fun kq p0 w'=>∃(q0:Int),p0= .int .i64 q0/\Aside0 (De.l0 kq c0 d0 (c0.length:Int) q0=some r)/\Aside0 (kq<=k)/\Drawn0 w w')
 case atStart=>exact⟨(0),(sd),H',⟨Nat.le_refl _⟩,dr⟩
 case round=>
  clear H';obtain⟨q0,rfl,HA,HK1,⟨m1,rfl⟩⟩:=hrel;obtain⟨k1,rfl,H⟩:=kz gk HA;clear HA;simp only[De.l0]at H;replace H:=qe H;obtain⟨r0,H⟩|⟨r0,H⟩:=H
  .replace H:=qd H;obtain⟨s0,H⟩:=H;replace H:=qd H;obtain⟨t0,H⟩:=H;replace H:=qq H;obtain⟨v0,w0,H⟩|⟨x0,v0,w0,H⟩:=H
   .obtain rfl:=sj H;obtain⟨y0,⟨⟩,A0,B0,C0⟩:=ai j0.out q0;go_wp2;go_ret;exact⟨sd,dr⟩
   .have H':=qa H;clear H;obtain⟨y0,⟨⟩,A0,B0,C0⟩:=ai j0.out q0;go_wp2
    go_roundg k1
    case measure=>have:=HK1.out;omega
    case rel=>exact⟨(wrap64 (q0+1)),(sd),H',⟨by have:=HK1.out;omega⟩,dr⟩
  .obtain rfl:=sj H;go_wp2;go_ret;exact⟨sd,dr⟩

def Eo.f (k:Nat) (a0:LI) (b0:Int):Option (Bool):=(De.f k a0 b0).bind fun c0=>(some (decide (c0>=0)))
theorem Eo.c (k:Nat) (a0:OA) (b0:Nat) (c0:LI) (d0:Int) (r:Bool) (w:World) (e0:Kd.C ki w a0 c0.length c0) (g0:c0.length<=b0) (h:Eo.f k c0 d0=some r):
  Calls Tryz.prog 145 #[.slice a0 c0.length b0,.int .i64 d0] w fun e w'=>e= .returned (.bool r)/\Drawn0 w w':=by
 have j0:=qa e0;have l0:=qa g0;clear e0 g0;have H:=h;unfold Eo.f at H;clear h;replace H:=qb H;obtain⟨n0,p0,H⟩:=H;obtain rfl:=sj H
 go_enter Tryz.func145,Tryz.ntmps145
 go_wp2_with(first|(refine gd 7 Tryz.func168 (De.c k _ _ c0 d0 n0 _ (cx j0.out) l0.out p0.out) fun nd=>?_))
 go_ret;exact⟨sd,dr⟩

def Gl.f (k:Nat) (a0:Int):Option (Int):=(Bk.f a0).bind fun b0=>(if b0=true then((As.f k a0).bind fun c0=>((Fh.f k c0).bind fun d0=>(some (wrap64 (d0-a0)))))else(some (-1)))
theorem Gl.c (k:Nat) (a0:Int) (r:Int) (w:World) (h:Gl.f k a0=some r):
  Calls Tryz.prog 146 #[.int .i64 a0] w fun e w'=>e= .returned (.int .i64 r)/\Below w.heap.size w w':=by
 have HB:=qa (Below.refl w.heap.size w);have H:=h;unfold Gl.f at H;clear h;replace H:=qb H;obtain⟨b0,c0,H⟩:=H;replace H:=qc H;obtain⟨rfl,H⟩|⟨rfl,H⟩:=H
 .replace H:=qb H;obtain⟨d0,e0,H⟩:=H;replace H:=qb H;obtain⟨g0,j0,H⟩:=H;obtain rfl:=sj H
  go_enter Tryz.func146,Tryz.ntmps146
  go_wp2_with(first|(refine gd 4 Tryz.func107 (Bk.c a0 true _ c0.out) fun nd=>?_)|(refine ge_ 7 Tryz.func109 (As.c k a0 d0 _ e0.out) fun l0 n0 p0 hb=>?_;have q0:=lR p0;replace HB:=bs hb;obtain⟨r0,s0,rfl⟩:=Kd.An q0.out)|(refine gd 8 Tryz.func136 (Fh.c k _ _ d0 g0 _ (cx (Kd.Ab q0.out).2.2) ((Kd.Ab q0.out).2.1) j0.out) fun nd=>?_))
  go_ret;exact⟨er,bl⟩
 .obtain rfl:=sj H
  go_enter Tryz.func146,Tryz.ntmps146
  go_wp2_with(first|(refine gd 4 Tryz.func107 (Bk.c a0 false _ c0.out) fun nd=>?_))
  go_ret;exact⟨er,bl⟩

def Et.l0:Nat->Int->LI->Option LI
 |0,_,_=>none
 |k+1,a0,b0=>(Bk.f a0).bind fun c0=>(if c0=true then(if(b0.length:Int)<30 then((Eo.f k b0 a0).bind fun d0=>(if d0=true then(some b0)else(if b0.length<17592186044416 then((Gl.f k a0).bind fun e0=>(Et.l0 k e0 (b0++[a0])))else(none))))else(some b0))else(some b0))
def Et.f (k:Nat) (a0:Int):Option LI:=(Bk.f a0).bind fun b0=>(if b0=true then(Et.l0 k a0 (([]:LI)))else(some ([]:LI)))
theorem Et.c (k:Nat) (a0:Int) (r:LI) (w:World) (h:Et.f k a0=some r):
  Calls Tryz.prog 110 #[.int .i64 a0] w fun e w'=>∃v0_:Value,e= .returned (v0_)/\Kd.R ki 3 w' w.heap.size (fun _=>True) v0_ r/\Below w.heap.size w w':=by
 have HB:=qa (Below.refl w.heap.size w);have H:=h;unfold Et.f at H;clear h;replace H:=qb H;obtain⟨b0,c0,H⟩:=H;replace H:=qc H;obtain⟨rfl,H⟩|⟨rfl,H⟩:=H
 .obtain⟨d0,hy_⟩:∃y_:LI,y_=(([]:LI)):=⟨_,rfl⟩;replace H:(Et.l0 k a0 d0)=some r:=yh;have e0:=qa hy_;clear hy_;have H':=qa H;clear H
  go_enter Tryz.func110,Tryz.ntmps110
  go_wp2_with(first|(refine gd 5 Tryz.func107 (Bk.c a0 true _ c0.out) fun nd=>?_)|(refine rli .i64 3 7 e0.out fun g0 j0 n0 hb=>?_;have p0:=lR n0;replace HB:=bs hb;clear hb n0))
  go_loopg [0,3] k (fun kq q0 r0 w'=>∃(s0:Int) (t0:LI),q0= .int .i64 s0/\Aside0 (Et.l0 kq s0 t0=some r)/\Aside0 (kq<=k)/\Aside0 (Kd.R ki 3 w' w.heap.size (fun _=>True) r0 t0)/\Aside0 (Below w.heap.size w w'))
  case atStart=>exact⟨(a0),(d0),(sd),H',⟨Nat.le_refl _⟩,⟨kR p0⟩,⟨bl⟩⟩
  case round=>
   clear H';obtain⟨s0,t0,rfl,HA,HK1,v0,HB⟩:=hrel;obtain⟨k1,rfl,H⟩:=kz gk HA;clear HA;simp only[Et.l0]at H;replace H:=qb H;obtain⟨w0,x0,H⟩:=H;replace H:=qc H;obtain⟨rfl,H⟩|⟨rfl,H⟩:=H
   .by_cases y0:(t0.length:Int)<30
    .rw[if_pos y0]at H;have A0:decide ((t0.length:Int)<30)=true:=decide_eq_true y0;have B0:decide (t0.length<30)=true:=decide_eq_true ko_;clear y0;replace H:=qb H;obtain⟨C0,D0,H⟩:=H;replace H:=qc H;obtain⟨rfl,H⟩|⟨rfl,H⟩:=H
     .obtain rfl:=sj H
      go_wp2_with(first|(refine gd 9 Tryz.func107 (Bk.c s0 true _ x0.out) fun nd=>?_;obtain⟨E0,G0,rfl⟩:=Kd.An v0.out)|(go_at_call 145;(with_reducible refine(Eo.c k1 _ _ t0 s0 true _ ?J0 ?K0 D0.out).mono ?_);(case J0=>exact cx (Kd.Ab v0.out).2.2);(case K0=>exact(Kd.Ab v0.out).2.1);rintro e w' ⟨rfl,⟨nd,rfl⟩⟩))
      go_ret;exact⟨_,er,kR v0,bl⟩
     .replace H:=qn H;obtain⟨L0,H⟩:=H;have M0:=qa L0;clear L0;obtain⟨N0,hy_⟩:∃y_:LI,y_=(t0++[s0]):=⟨_,rfl⟩;replace H:((Gl.f k1 s0).bind fun P0=>(Et.l0 k1 P0 N0))=some r:=yh;have Q0:=qa hy_;clear hy_;replace H:=qb H;obtain⟨P0,R0,H⟩:=H;have H':=qa H;clear H
      go_wp2_with(first|(refine gd 9 Tryz.func107 (Bk.c s0 true _ x0.out) fun nd=>?_;obtain⟨U0,V0,rfl⟩:=Kd.An v0.out)|(go_at_call 145;(with_reducible refine(Eo.c k1 _ _ t0 s0 false _ ?J0 ?K0 D0.out).mono ?_);(case J0=>exact cx (Kd.Ab v0.out).2.2);(case K0=>exact(Kd.Ab v0.out).2.1);rintro e w' ⟨rfl,⟨nd,rfl⟩⟩)|((with_reducible refine Cw (b:= .append) (xs:=#[.tmp 21,.tmp 23]) rfl ?_);(try(refine Ds (by rfl) ?_;dsimp only));at_builtin;refine Kd.Hc ki (w0:=w) w.heap.size rfl (.tmp 21) (.tmp 23) 22 3 (.int .i64 0) 8 rfl Tryz.underlying22 Je rfl kd_ ko_ (.slice U0 t0.length V0) t0 s0 [.int .i64 s0] (fun _=>True) (fun _=>False) rfl rfl ?aP (fun _ hk=>hk.elim) ?aF ?aO ?aB ?aS ?aL ?_;(case aP=>exact rfl);(case aB=>exact(bl));(case aF=>exact(fun _ _=>trivial));(case aO=>exact(kR v0));(case aS=>exact(Cj (bl)));(case aL=>have:=M0.out;omega);intro W0 X0 ho hb hg hat;rw[<-Q0.out]at ho;replace HB:=qa (hb);have Y0:=qa (ho);clear v0;clear ho hb hg hat)|(refine gb 26 Tryz.func146 (Gl.c k1 s0 P0 _ R0.out) fun a1 hb=>?_;replace Y0:=bR Y0 hb;replace HB:=bs hb))
      go_roundg k1
      case measure=>have:=HK1.out;omega
      case rel=>exact⟨(P0),(N0),(sd),H',⟨by have:=HK1.out;omega⟩,⟨kR Y0⟩,⟨bl⟩⟩
    .rw[if_neg y0]at H;have A0:decide ((t0.length:Int)<30)=false:=decide_eq_false y0;have B0:decide (t0.length<30)=false:=decide_eq_false ko_;clear y0;obtain rfl:=sj H
     go_wp2_with(first|(refine gd 9 Tryz.func107 (Bk.c s0 true _ x0.out) fun nd=>?_;obtain⟨b1,c1,rfl⟩:=Kd.An v0.out))
     go_ret;exact⟨_,er,kR v0,bl⟩
   .obtain rfl:=sj H
    go_wp2_with(first|(refine gd 9 Tryz.func107 (Bk.c s0 false _ x0.out) fun nd=>?_))
    go_ret;exact⟨_,er,kR v0,bl⟩
 .obtain rfl:=sj H
  go_enter Tryz.func110,Tryz.ntmps110
  go_wp2_with(first|(refine gd 5 Tryz.func107 (Bk.c a0 false _ c0.out) fun nd=>?_))
  go_ret;exact⟨_,er,z2_,bl⟩

mutual
def Ek.l0:Nat->Int->LL->Int->Int->Option (Int)
 |0,_,_,_,_=>none
 |k+1,a0,b0,c0,d0=>if d0<c0 then(if 0<=d0 then(if d0<(b0.length:Int)then(if 1<((Bl b0 d0).length :Int)then(Ek.l1 k a0 (Bl b0 d0) 1 b0 c0 d0 (rd (Bl b0 d0) 1) 0)else(none))else(none))else(none))else(some a0)
def Ek.l1:Nat->Int->LI->Int->LL->Int->Int->Int->Int->Option (Int)
 |0,_,_,_,_,_,_,_,_=>none
 |k+1,a0,e0,g0,b0,c0,d0,j0,n0=>if n0<j0 then(if 0<(e0.length:Int)then(Ek.l1 k a0 e0 (wrap64 ((wrap64 (g0*(rd e0 0)))+1)) b0 c0 d0 j0 (wrap64 (n0+1)))else(none))else(Ek.l0 k (wrap64 (a0*g0)) b0 c0 (wrap64 (d0+1)))
end

def Ek.f (k:Nat) (a0:Int):Option (Int):=(Bk.f a0).bind fun b0=>(if b0=true then((Al.f k a0).bind fun c0=>(Ek.l0 k 1 c0 (c0.length:Int) 0))else(some (-1)))
theorem Ek.c (k:Nat) (a0:Int) (r:Int) (w:World) (h:Ek.f k a0=some r):
  Calls Tryz.prog 111 #[.int .i64 a0] w fun e w'=>e= .returned (.int .i64 r)/\Below w.heap.size w w':=by
 have HB:=qa (Below.refl w.heap.size w);have H:=h;unfold Ek.f at H;clear h;replace H:=qb H;obtain⟨b0,c0,H⟩:=H;replace H:=qc H;obtain⟨rfl,H⟩|⟨rfl,H⟩:=H
 .replace H:=qb H;obtain⟨d0,e0,H⟩:=H;have H':=qa H;clear H
  go_enter Tryz.func111,Tryz.ntmps111
  go_wp2_with(first|(refine gd 8 Tryz.func107 (Bk.c a0 true _ c0.out) fun nd=>?_)|(refine ge_ 11 Tryz.func138 (Al.c k a0 d0 _ e0.out) fun g0 j0 n0 hb=>?_;have p0:=lS n0;replace HB:=bs hb;obtain⟨q0,r0,rfl⟩:=Kd.Ft p0.out))
  go_loopg [3,13] k (fun kq s0 t0 w'=>∃(v0:Int) (w0:Int),s0= .int .i64 v0/\t0= .int .i64 w0/\Aside0 (Ek.l0 kq v0 d0 (d0.length:Int) w0=some r)/\Aside0 (kq<=k)/\Aside0 (Kd.S (Kd.slice 3 ki) 22 w' w.heap.size (fun _=>True) (.slice q0 d0.length r0) d0)/\Aside0 (Below w.heap.size w w'))
  case atStart=>exact⟨(1),(0),(sd),(sd),H',⟨Nat.le_refl _⟩,⟨kS p0⟩,⟨bl⟩⟩
  case round=>
   clear H';obtain⟨v0,w0,rfl,rfl,HA,HK1,x0,HB⟩:=hrel;obtain⟨k1,rfl,H⟩:=kz gk HA;clear HA;simp only[Ek.l0]at H;replace H:=qe H;obtain⟨y0,H⟩|⟨y0,H⟩:=H
   .replace H:=qd H;obtain⟨A0,H⟩:=H;replace H:=qd H;obtain⟨B0,H⟩:=H;replace H:=qL 1 H;obtain⟨C0,D0,H⟩:=H;have H':=qa H;clear H;obtain⟨E0,G0,J0,⟨⟩,K0,HL360_0,L0,M0,N0,P0⟩:=sg_L1 x0.out w0;have Q0:0<=(1:Int):=ko_;have R0:1<((Bl d0 w0).length :Int):=qo;obtain⟨U0,V0,W0⟩:=Kd.Fx (cw L0) 1 Q0 R0;cases V0;(try simp only[show(1:Int).toNat =1 from rfl,Nat.reduceMul,Nat.reduceEqDiff,Go.Addr.add,↓reduceIte]at W0);have qi361:(1<(Bl d0 w0).length)=True:=eq_true ko_;(try rw[show((1:Int)).toNat =1 from rfl]at W0);replace Q0:=eq_true Q0;replace R0:=eq_true R0;go_wp2
    go_loopg [6,20] k1 (fun kq X0 Y0 w'=>∃(a1:Int) (b1:Int),X0= .int .i64 a1/\Y0= .int .i64 b1/\Aside0 (Ek.l1 kq v0 (Bl d0 w0) a1 d0 (d0.length:Int) w0 (rd (Bl d0 w0) 1) b1=some r)/\Aside0 (kq<=k1)/\Aside0 (Kd.S (Kd.slice 3 ki) 22 w' w.heap.size (fun _=>True) (.slice (some E0) d0.length r0) d0)/\Aside0 (Kd.C ki w' (some U0) (Bl d0 w0).length (Bl d0 w0))/\Aside0 (Below w.heap.size w w'))
    case atStart=>exact⟨(1),(0),(sd),(sd),H',⟨Nat.le_refl _⟩,⟨kS x0⟩,⟨z18_⟩,⟨bl⟩⟩
    case round=>
     clear H';obtain⟨a1,b1,rfl,rfl,HA,HK2,x0,L0,HB⟩:=hrel;obtain⟨k2,rfl,H⟩:=kz gk HA;clear HA;simp only[Ek.l1]at H;replace H:=qe H;obtain⟨c1,H⟩|⟨c1,H⟩:=H
     .replace H:=qL 0 H;obtain⟨d1,e1,H⟩:=H;have H':=qa H;clear H;obtain⟨g1,qi362,j1,n1⟩:=ajn 0 L0.out 0;(try rw[Addr.add_zero']at g1);(try replace g1:=(HB.out.cell (World.block_lt_of_cell? w _ g1)).trans g1);go_wp2
      go_roundg k2
      case measure=>have:=HK1.out;have:=HK2.out;omega
      case rel=>exact⟨(wrap64 ((wrap64 (a1*(rd (Bl d0 w0) 0)))+1)),(wrap64 (b1+1)),(sd),(sd),H',⟨by have:=HK1.out;have:=HK2.out;omega⟩,⟨kS x0⟩,⟨z18_⟩,⟨bl⟩⟩
     .have H':=qa H;clear H;go_wp2
      go_roundg k2
      case measure=>have:=HK1.out;have:=HK2.out;omega
      case rel=>exact⟨(wrap64 (v0*a1)),(wrap64 (w0+1)),(sd),(sd),H',⟨by have:=HK1.out;have:=HK2.out;omega⟩,⟨kS x0⟩,⟨bl⟩⟩
   .obtain rfl:=sj H;go_wp2;go_ret;exact⟨er,bl⟩
 .obtain rfl:=sj H
  go_enter Tryz.func111,Tryz.ntmps111
  go_wp2_with(first|(refine gd 8 Tryz.func107 (Bk.c a0 false _ c0.out) fun nd=>?_))
  go_ret;exact⟨er,bl⟩
def Dy.f (a0:Int):Option (Bool):=some (a0 != a0)
theorem Dy.c (a0:Int) (r:Bool) (w:World) (h:Dy.f a0=some r):
  Calls Tryz.prog 169 #[.int .i64 a0] w fun e w'=>e= .returned (.bool r)/\Drawn0 w w':=by
 have H:=h;unfold Dy.f at H;clear h;obtain rfl:=sj H
 go_enter Tryz.func169,Tryz.ntmps169
 go_wp2;go_ret;exact⟨sd,dr⟩

def Gt.f (a0:Int) (b0:Int):Option (Int):=(Dy.f a0).bind fun c0=>((Dy.f b0).bind fun d0=>(if c0=true then(if d0=true then(some 0)else(some (-1)))else(if d0=true then(some 1)else(if a0<b0 then(some (-1))else(if a0>b0 then(some 1)else(some 0))))))
theorem Gt.c (a0:Int) (b0:Int) (r:Int) (w:World) (h:Gt.f a0 b0=some r):
  Calls Tryz.prog 147 #[.int .i64 a0,.int .i64 b0] w fun e w'=>e= .returned (.int .i64 r)/\Drawn0 w w':=by
 have H:=h;unfold Gt.f at H;clear h;replace H:=qb H;obtain⟨c0,d0,H⟩:=H;replace H:=qb H;obtain⟨e0,g0,H⟩:=H;replace H:=qc H;obtain⟨rfl,H⟩|⟨rfl,H⟩:=H
 .replace H:=qc H;obtain⟨rfl,H⟩|⟨rfl,H⟩:=H
  .obtain rfl:=sj H
   go_enter Tryz.func147,Tryz.ntmps147
   go_wp2_with(first|(refine gd 8 Tryz.func169 (Dy.c a0 true _ d0.out) fun nd=>?_)|(refine gd 10 Tryz.func169 (Dy.c b0 true _ g0.out) fun nd=>?_))
   go_ret;exact⟨sd,dr⟩
  .obtain rfl:=sj H
   go_enter Tryz.func147,Tryz.ntmps147
   go_wp2_with(first|(refine gd 8 Tryz.func169 (Dy.c a0 true _ d0.out) fun nd=>?_)|(refine gd 10 Tryz.func169 (Dy.c b0 false _ g0.out) fun nd=>?_))
   go_ret;exact⟨sd,dr⟩
 .replace H:=qc H;obtain⟨rfl,H⟩|⟨rfl,H⟩:=H
  .obtain rfl:=sj H
   go_enter Tryz.func147,Tryz.ntmps147
   go_wp2_with(first|(refine gd 8 Tryz.func169 (Dy.c a0 false _ d0.out) fun nd=>?_)|(refine gd 10 Tryz.func169 (Dy.c b0 true _ g0.out) fun nd=>?_))
   go_ret;exact⟨sd,dr⟩
  .replace H:=qe H;obtain⟨j0,H⟩|⟨j0,H⟩:=H
   .obtain rfl:=sj H
    go_enter Tryz.func147,Tryz.ntmps147
    go_wp2_with(first|(refine gd 8 Tryz.func169 (Dy.c a0 false _ d0.out) fun nd=>?_)|(refine gd 10 Tryz.func169 (Dy.c b0 false _ g0.out) fun nd=>?_))
    go_ret;exact⟨sd,dr⟩
   .replace H:=qg H;obtain⟨l0,H⟩|⟨l0,H⟩:=H
    .obtain rfl:=sj H
     go_enter Tryz.func147,Tryz.ntmps147
     go_wp2_with(first|(refine gd 8 Tryz.func169 (Dy.c a0 false _ d0.out) fun nd=>?_)|(refine gd 10 Tryz.func169 (Dy.c b0 false _ g0.out) fun nd=>?_))
     go_ret;exact⟨sd,dr⟩
    .obtain rfl:=sj H
     go_enter Tryz.func147,Tryz.ntmps147
     go_wp2_with(first|(refine gd 8 Tryz.func169 (Dy.c a0 false _ d0.out) fun nd=>?_)|(refine gd 10 Tryz.func169 (Dy.c b0 false _ g0.out) fun nd=>?_))
     go_ret;exact⟨sd,dr⟩

def Im.f (k:Nat) (a0:Int):Option (Int):=(Bk.f a0).bind fun b0=>(if b0=true then((Gl.f k a0).bind fun c0=>((Gt.f c0 a0).bind fun d0=>(some d0)))else(some (-2)))
theorem Im.c (k:Nat) (a0:Int) (r:Int) (w:World) (h:Im.f k a0=some r):
  Calls Tryz.prog 112 #[.int .i64 a0] w fun e w'=>e= .returned (.int .i64 r)/\Below w.heap.size w w':=by
 have HB:=qa (Below.refl w.heap.size w);have H:=h;unfold Im.f at H;clear h;replace H:=qb H;obtain⟨b0,c0,H⟩:=H;replace H:=qc H;obtain⟨rfl,H⟩|⟨rfl,H⟩:=H
 .replace H:=qb H;obtain⟨d0,e0,H⟩:=H;replace H:=qb H;obtain⟨g0,j0,H⟩:=H;obtain rfl:=sj H
  go_enter Tryz.func112,Tryz.ntmps112
  go_wp2_with(first|(refine gd 4 Tryz.func107 (Bk.c a0 true _ c0.out) fun nd=>?_)|(refine gb 7 Tryz.func146 (Gl.c k a0 d0 _ e0.out) fun l0 hb=>?_;replace HB:=bs hb)|(refine gd 9 Tryz.func147 (Gt.c d0 a0 g0 _ j0.out) fun nd=>?_))
  go_ret;exact⟨er,bl⟩
 .obtain rfl:=sj H
  go_enter Tryz.func112,Tryz.ntmps112
  go_wp2_with(first|(refine gd 4 Tryz.func107 (Bk.c a0 false _ c0.out) fun nd=>?_))
  go_ret;exact⟨er,bl⟩

def Hj.f (a0:Int):Option (Int):=if(Int.tmod a0 4)=1 then(some 1)else(if(Int.tmod a0 4)=3 then(some (-1))else(some 0))
theorem Hj.c (a0:Int) (r:Int) (w:World) (h:Hj.f a0=some r):
  Calls Tryz.prog 148 #[.int .i64 a0] w fun e w'=>e= .returned (.int .i64 r)/\Drawn0 w w':=by
 have H:=h;unfold Hj.f at H;clear h;replace H:=qq H;obtain⟨b0,c0,H⟩|⟨d0,b0,c0,H⟩:=H
 .obtain rfl:=sj H
  go_enter Tryz.func148,Tryz.ntmps148
  go_wp2;go_ret;exact⟨sd,dr⟩
 .replace H:=qq H;obtain⟨e0,g0,H⟩|⟨j0,e0,g0,H⟩:=H
  .obtain rfl:=sj H
   go_enter Tryz.func148,Tryz.ntmps148
   go_wp2;go_ret;exact⟨sd,dr⟩
  .obtain rfl:=sj H
   go_enter Tryz.func148,Tryz.ntmps148
   go_wp2;go_ret;exact⟨sd,dr⟩

def Ew.l0:Nat->Int->LI->Int->Int->Option (Int)
 |0,_,_,_,_=>none
 |k+1,a0,b0,c0,d0=>if d0<c0 then(if 0<=d0 then(if d0<(b0.length:Int)then((Hj.f (rd b0 d0)).bind fun e0=>(Ew.l0 k (wrap64 (a0+(wrap64 (4*e0)))) b0 c0 (wrap64 (d0+1))))else(none))else(none))else(some a0)
def Ew.f (k:Nat) (a0:Int):Option (Int):=(Bk.f a0).bind fun b0=>(if b0=true then((As.f k a0).bind fun c0=>(Ew.l0 k 0 c0 (c0.length:Int) 0))else(some (-1)))
theorem Ew.c (k:Nat) (a0:Int) (r:Int) (w:World) (h:Ew.f k a0=some r):
  Calls Tryz.prog 114 #[.int .i64 a0] w fun e w'=>e= .returned (.int .i64 r)/\Below w.heap.size w w':=by
 have HB:=qa (Below.refl w.heap.size w);have H:=h;unfold Ew.f at H;clear h;replace H:=qb H;obtain⟨b0,c0,H⟩:=H;replace H:=qc H;obtain⟨rfl,H⟩|⟨rfl,H⟩:=H
 .replace H:=qb H;obtain⟨d0,e0,H⟩:=H;have H':=qa H;clear H
  go_enter Tryz.func114,Tryz.ntmps114
  go_wp2_with(first|(refine gd 7 Tryz.func107 (Bk.c a0 true _ c0.out) fun nd=>?_)|(refine ge_ 10 Tryz.func109 (As.c k a0 d0 _ e0.out) fun g0 j0 n0 hb=>?_;have p0:=lR n0;replace HB:=bs hb;obtain⟨q0,r0,rfl⟩:=Kd.An p0.out))
  go_loopg [3,12] k (fun kq s0 t0 w'=>∃(v0:Int) (w0:Int),s0= .int .i64 v0/\t0= .int .i64 w0/\Aside0 (Ew.l0 kq v0 d0 (d0.length:Int) w0=some r)/\Aside0 (kq<=k)/\Aside0 (Kd.R ki 3 w' w.heap.size (fun _=>True) (.slice q0 d0.length r0) d0)/\Aside0 (Below w.heap.size w w'))
  case atStart=>exact⟨(0),(0),(sd),(sd),H',⟨Nat.le_refl _⟩,⟨kR p0⟩,⟨bl⟩⟩
  case round=>
   clear H';obtain⟨v0,w0,rfl,rfl,HA,HK1,x0,HB⟩:=hrel;obtain⟨k1,rfl,H⟩:=kz gk HA;clear HA;simp only[Ew.l0]at H;replace H:=qe H;obtain⟨y0,H⟩|⟨y0,H⟩:=H
   .replace H:=qd H;obtain⟨A0,H⟩:=H;replace H:=qd H;obtain⟨B0,H⟩:=H;replace H:=qb H;obtain⟨C0,D0,H⟩:=H;have H':=qa H;clear H;obtain⟨E0,⟨⟩,G0,J0,K0⟩:=ai (Kd.Ab x0.out).2.2 w0
    go_wp2_with(first|(refine gd 18 Tryz.func148 (Hj.c (rd d0 w0) C0 _ D0.out) fun nd=>?_))
    go_roundg k1
    case measure=>have:=HK1.out;omega
    case rel=>exact⟨(wrap64 (v0+(wrap64 (4*C0)))),(wrap64 (w0+1)),(sd),(sd),H',⟨by have:=HK1.out;omega⟩,⟨kR x0⟩,⟨bl⟩⟩
   .obtain rfl:=sj H;go_wp2;go_ret;exact⟨er,bl⟩
 .obtain rfl:=sj H
  go_enter Tryz.func114,Tryz.ntmps114
  go_wp2_with(first|(refine gd 7 Tryz.func107 (Bk.c a0 false _ c0.out) fun nd=>?_))
  go_ret;exact⟨er,bl⟩
end Go.Proofs.YtdmlkjjlgkdnlaaGreatDoor.PFnDeskSay
