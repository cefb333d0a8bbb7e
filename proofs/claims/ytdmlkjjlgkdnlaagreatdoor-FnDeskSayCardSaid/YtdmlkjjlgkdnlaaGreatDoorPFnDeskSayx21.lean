import Derived.Test.YtdmlkjjlgkdnlaaGreatDoorPFnDeskSayx18
namespace Go.Proofs.YtdmlkjjlgkdnlaaGreatDoor.PFnDeskSay
open Go.RowKit Go.Proofs.YtdmlkjjlgkdnlaaGreatDoorW.PrintWords Go.Proofs.YtdmlkjjlgkdnlaaGreatDoorW.PrintLast Go.Proofs.YtdmlkjjlgkdnlaaGreatDoorW.PrintMore
attribute [local go_sem] Iz Ix Jy Jx Hy Hx Iy Iw
set_option linter.unusedVariables false
set_option linter.unusedSimpArgs false
set_option maxHeartbeats 8000000
set_option maxRecDepth 100000
mutual
def Bd.l0:Nat->LI->Int->Int->Option (Int)
 |0,_,_,_=>none
 |k+1,a0,b0,c0=>if c0<(a0.length:Int)then(if 0<=c0 then(Bd.l0 k a0 (wrap64 (b0+(rd a0 c0))) (wrap64 (c0+1)))else(none))else(some b0)
def Bd.l1:Nat->Int->Int->Int->Option (Int)
 |0,_,_,_=>none
 |k+1,d0,e0,g0=>if g0<=d0 then((Cu.f k g0 d0).bind fun j0=>(if j0=true then(Bd.l1 k d0 (wrap64 (e0+1)) (wrap64 (g0+1)))else(Bd.l1 k d0 e0 (wrap64 (g0+1)))))else(some e0)
def Bd.l2:Nat->Int->LL->Int->Int->Option (Int)
 |0,_,_,_,_=>none
 |k+1,n0,p0,q0,r0=>if r0<(p0.length:Int)then(if n0=6 then(if 0<=r0 then(if 1<((Bl p0 r0).length :Int)then(Bd.j3 k n0 p0 q0 r0 (decide ((rd (Bl p0 r0) 1)>1)))else(none))else(none))else(Bd.j3 k n0 p0 q0 r0 false))else(some q0)
def Bd.j3:Nat->Int->LL->Int->Int->Bool->Option (Int)
 |0,_,_,_,_,_=>none
 |k+1,n0,p0,q0,r0,s0=>if s0=true then(some 0)else(if 0<=r0 then(if r0<(p0.length:Int)then(if 1<((Bl p0 r0).length :Int)then(if(Int.tmod (rd (Bl p0 r0) 1) 2)=1 then(Bd.l2 k n0 p0 (wrap64 (-q0)) (wrap64 (r0+1)))else(Bd.l2 k n0 p0 q0 (wrap64 (r0+1))))else(none))else(none))else(none))
end

def Bd.f (k:Nat) (a0:Int) (b0:Int):Option (Int):=(Ae.f k b0).bind fun c0=>((Aj.f k b0).bind fun d0=>(if a0=0 then(if b0=1 then(some 1)else(some 0))else(if a0=1 then(some 1)else(if a0=2 then(some b0)else(if a0=3 then(some (d0.length:Int))else(if a0=4 then(Bd.l0 k d0 0 0)else(if a0=5 then(Bd.l1 k b0 0 1)else(Bd.l2 k a0 c0 1 0))))))))
theorem Bd.mono_l:∀k,(∀a0 b0 c0,LeO (Bd.l0 k a0 b0 c0) (Bd.l0 (k+1) a0 b0 c0))/\(∀a0 b0 c0,LeO (Bd.l1 k a0 b0 c0) (Bd.l1 (k+1) a0 b0 c0))/\(∀a0 b0 c0 d0,LeO (Bd.l2 k a0 b0 c0 d0) (Bd.l2 (k+1) a0 b0 c0 d0))/\(∀a0 b0 c0 d0 e0,LeO (Bd.j3 k a0 b0 c0 d0 e0) (Bd.j3 (k+1) a0 b0 c0 d0 e0))
 |0=>⟨fun _ _ _ r h=>by simp[Bd.l0]at h,fun _ _ _ r h=>by simp[Bd.l1]at h,fun _ _ _ _ r h=>by simp[Bd.l2]at h,fun _ _ _ _ _ r h=>by simp[Bd.j3]at h⟩
 |k+1=>by
  obtain⟨ih0,ih1,ih2,ih3⟩:=Bd.mono_l k;refine⟨?_,?_,?_,?_⟩
  .intro a0 b0 c0;unfold Bd.l0;have m0:= @Cu.mono;have m1:= @Aj.mono;have m2:= @Ae.mono;exact mz
  .intro a0 b0 c0;unfold Bd.l1;have m0:= @Cu.mono;have m1:= @Aj.mono;have m2:= @Ae.mono;exact mz
  .intro a0 b0 c0 d0;unfold Bd.l2;have m0:= @Cu.mono;have m1:= @Aj.mono;have m2:= @Ae.mono;exact mz
  .intro a0 b0 c0 d0 e0;unfold Bd.j3;have m0:= @Cu.mono;have m1:= @Aj.mono;have m2:= @Ae.mono;exact mz
theorem Bd.mono:∀a0 b0 k,LeO (Bd.f k a0 b0) (Bd.f (k+1) a0 b0):=by
 intro a0 b0 k;obtain⟨ih0,ih1,ih2,ih3⟩:=Bd.mono_l k;unfold Bd.f;have m0:= @Cu.mono;have m1:= @Aj.mono;have m2:= @Ae.mono;exact mz
theorem Bd.c (k:Nat) (a0:Int) (b0:Int) (r:Int) (w:World) (h:Bd.f k a0 b0=some r):
  Calls Tryz.prog 152 #[.int .i64 a0,.int .i64 b0] w fun e w'=>e= .returned (.int .i64 r)/\Below w.heap.size w w':=by
 have HB:=qa (Below.refl w.heap.size w);have H:=h;unfold Bd.f at H;clear h;replace H:=qb H;obtain⟨c0,d0,H⟩:=H;replace H:=qb H;obtain⟨e0,g0,H⟩:=H;replace H:=qq H;obtain⟨j0,n0,H⟩|⟨p0,j0,n0,H⟩:=H
 .replace H:=qq H;obtain⟨q0,r0,H⟩|⟨s0,q0,r0,H⟩:=H
  .obtain rfl:=sj H
   go_enter Tryz.func152,Tryz.ntmps152
   go_wp2_with(first|(refine ge_ 14 Tryz.func126 (Ae.c k b0 c0 _ d0.out) fun t0 v0 w0 hb=>?_;have x0:=lS w0;replace HB:=bs hb)|(refine ge_ 16 Tryz.func86 (Aj.c k b0 e0 _ g0.out) fun y0 A0 w0 hb=>?_;replace x0:=qa (Kd.Jl (kS x0) (Kd.Av w0) hb);have B0:=lR w0;replace HB:=bs hb))
   go_ret;exact⟨er,bl⟩
  .obtain rfl:=sj H
   go_enter Tryz.func152,Tryz.ntmps152
   go_wp2_with(first|(refine ge_ 14 Tryz.func126 (Ae.c k b0 c0 _ d0.out) fun t0 C0 w0 hb=>?_;have x0:=lS w0;replace HB:=bs hb)|(refine ge_ 16 Tryz.func86 (Aj.c k b0 e0 _ g0.out) fun y0 D0 w0 hb=>?_;replace x0:=qa (Kd.Jl (kS x0) (Kd.Av w0) hb);have B0:=lR w0;replace HB:=bs hb))
   go_ret;exact⟨er,bl⟩
 .replace H:=qq H;obtain⟨E0,G0,H⟩|⟨J0,E0,G0,H⟩:=H
  .obtain rfl:=sj H
   go_enter Tryz.func152,Tryz.ntmps152
   go_wp2_with(first|(refine ge_ 14 Tryz.func126 (Ae.c k b0 c0 _ d0.out) fun t0 K0 w0 hb=>?_;have x0:=lS w0;replace HB:=bs hb)|(refine ge_ 16 Tryz.func86 (Aj.c k b0 e0 _ g0.out) fun y0 L0 w0 hb=>?_;replace x0:=qa (Kd.Jl (kS x0) (Kd.Av w0) hb);have B0:=lR w0;replace HB:=bs hb))
   go_ret;exact⟨er,bl⟩
  .replace H:=qq H;obtain⟨M0,N0,H⟩|⟨P0,M0,N0,H⟩:=H
   .obtain rfl:=sj H
    go_enter Tryz.func152,Tryz.ntmps152
    go_wp2_with(first|(refine ge_ 14 Tryz.func126 (Ae.c k b0 c0 _ d0.out) fun t0 Q0 w0 hb=>?_;have x0:=lS w0;replace HB:=bs hb)|(refine ge_ 16 Tryz.func86 (Aj.c k b0 e0 _ g0.out) fun y0 R0 w0 hb=>?_;replace x0:=qa (Kd.Jl (kS x0) (Kd.Av w0) hb);have B0:=lR w0;replace HB:=bs hb))
    go_ret;exact⟨er,bl⟩
   .replace H:=qq H;obtain⟨U0,V0,H⟩|⟨W0,U0,V0,H⟩:=H
    .obtain rfl:=sj H
     go_enter Tryz.func152,Tryz.ntmps152
     go_wp2_with(first|(refine ge_ 14 Tryz.func126 (Ae.c k b0 c0 _ d0.out) fun t0 X0 w0 hb=>?_;have x0:=lS w0;replace HB:=bs hb)|(refine ge_ 16 Tryz.func86 (Aj.c k b0 e0 _ g0.out) fun y0 Y0 w0 hb=>?_;replace x0:=qa (Kd.Jl (kS x0) (Kd.Av w0) hb);have B0:=lR w0;replace HB:=bs hb;obtain⟨a1,b1,rfl⟩:=Kd.An B0.out))
     go_ret;exact⟨er,bl⟩
    .replace H:=qq H;obtain⟨c1,d1,H⟩|⟨e1,c1,d1,H⟩:=H
     .have H':=qa H;clear H
      go_enter Tryz.func152,Tryz.ntmps152
      go_wp2_with(first|(refine ge_ 14 Tryz.func126 (Ae.c k b0 c0 _ d0.out) fun t0 g1 w0 hb=>?_;have x0:=lS w0;replace HB:=bs hb)|(refine ge_ 16 Tryz.func86 (Aj.c k b0 e0 _ g0.out) fun y0 j1 w0 hb=>?_;replace x0:=qa (Kd.Jl (kS x0) (Kd.Av w0) hb);have B0:=lR w0;replace HB:=bs hb))
      go_loopg [7,8] k (fun kq n1 p1 w'=>∃(q1:Int) (r1:Int),n1= .int .i64 q1/\p1= .int .i64 r1/\Aside0 (Bd.l0 kq e0 q1 r1=some r)/\Aside0 (kq<=k)/\Aside0 (Kd.R ki 3 w' w.heap.size (fun _=>True) y0 e0)/\Aside0 (Below w.heap.size w w'))
      case atStart=>exact⟨(0),(0),(sd),(sd),H',⟨Nat.le_refl _⟩,⟨kR B0⟩,⟨bl⟩⟩
      case round=>
       clear H';obtain⟨q1,r1,rfl,rfl,HA,HK1,s1,HB⟩:=hrel;obtain⟨k1,rfl,H⟩:=kz gk HA;clear HA;simp only[Bd.l0]at H;replace H:=qe H;obtain⟨t1,H⟩|⟨t1,H⟩:=H
       .replace H:=qd H;obtain⟨v1,H⟩:=H;have H':=qa H;clear H;obtain⟨w1,x1,rfl⟩:=Kd.An s1.out;obtain⟨y1,⟨⟩,A1,B1,C1⟩:=ai (Kd.Ab s1.out).2.2 r1;go_wp2
        go_roundg k1
        case measure=>have:=HK1.out;omega
        case rel=>exact⟨(wrap64 (q1+(rd e0 r1))),(wrap64 (r1+1)),(sd),(sd),H',⟨by have:=HK1.out;omega⟩,⟨kR s1⟩,⟨bl⟩⟩
       .obtain rfl:=sj H;obtain⟨D1,E1,rfl⟩:=Kd.An s1.out;go_wp2;go_ret;exact⟨er,bl⟩
     .replace H:=qq H;obtain⟨G1,J1,H⟩|⟨K1,G1,J1,H⟩:=H
      .have H':=qa H;clear H
       go_enter Tryz.func152,Tryz.ntmps152
       go_wp2_with(first|(refine ge_ 14 Tryz.func126 (Ae.c k b0 c0 _ d0.out) fun t0 L1 w0 hb=>?_;have x0:=lS w0;replace HB:=bs hb)|(refine ge_ 16 Tryz.func86 (Aj.c k b0 e0 _ g0.out) fun y0 M1 w0 hb=>?_;replace x0:=qa (Kd.Jl (kS x0) (Kd.Av w0) hb);have B0:=lR w0;replace HB:=bs hb))
       go_loopg [9,10] k (fun kq N1 P1 w'=>∃(Q1:Int) (R1:Int),N1= .int .i64 Q1/\P1= .int .i64 R1/\Aside0 (Bd.l1 kq b0 Q1 R1=some r)/\Aside0 (kq<=k)/\Aside0 (Below w.heap.size w w'))
       case atStart=>exact⟨(0),(1),(sd),(sd),H',⟨Nat.le_refl _⟩,⟨bl⟩⟩
       case round=>
        clear H';obtain⟨Q1,R1,rfl,rfl,HA,HK1,HB⟩:=hrel;obtain⟨k1,rfl,H⟩:=kz gk HA;clear HA;simp only[Bd.l1]at H;replace H:=qe H;obtain⟨U1,H⟩|⟨U1,H⟩:=H
        .replace H:=qb H;obtain⟨V1,W1,H⟩:=H;replace H:=qc H;obtain⟨rfl,H⟩|⟨rfl,H⟩:=H
         .have H':=qa H;clear H
          go_wp2_with(first|(refine gd 55 Tryz.func83 (Cu.c k1 R1 b0 true _ W1.out) fun nd=>?_))
          go_roundg k1
          case measure=>have:=HK1.out;omega
          case rel=>exact⟨(wrap64 (Q1+1)),(wrap64 (R1+1)),(sd),(sd),H',⟨by have:=HK1.out;omega⟩,⟨bl⟩⟩
         .have H':=qa H;clear H
          go_wp2_with(first|(refine gd 55 Tryz.func83 (Cu.c k1 R1 b0 false _ W1.out) fun nd=>?_))
          go_roundg k1
          case measure=>have:=HK1.out;omega
          case rel=>exact⟨(Q1),(wrap64 (R1+1)),(sd),(sd),H',⟨by have:=HK1.out;omega⟩,⟨bl⟩⟩
        .obtain rfl:=sj H;go_wp2;go_ret;exact⟨er,bl⟩
      .have H':=qa H;clear H
       go_enter Tryz.func152,Tryz.ntmps152
       go_wp2_with(first|(refine ge_ 14 Tryz.func126 (Ae.c k b0 c0 _ d0.out) fun t0 X1 w0 hb=>?_;have x0:=lS w0;replace HB:=bs hb)|(refine ge_ 16 Tryz.func86 (Aj.c k b0 e0 _ g0.out) fun y0 Y1 w0 hb=>?_;replace x0:=qa (Kd.Jl (kS x0) (Kd.Av w0) hb);have B0:=lR w0;replace HB:=bs hb))
       go_loopg [11,12] k (fun kq a2 b2 w'=>∃(c2:Int) (d2:Int),a2= .int .i64 c2/\b2= .int .i64 d2/\Aside0 (Bd.l2 kq a0 c0 c2 d2=some r)/\Aside0 (kq<=k)/\Aside0 (Kd.S (Kd.slice 3 ki) 22 w' w.heap.size (fun _=>True) t0 c0)/\Aside0 (Below w.heap.size w w'))
       case atStart=>exact⟨(1),(0),(sd),(sd),H',⟨Nat.le_refl _⟩,⟨mS x0 (fun _ hk=>trivial)⟩,⟨bl⟩⟩
       case round=>
        clear H';obtain⟨c2,d2,rfl,rfl,HA,HK1,e2,HB⟩:=hrel;obtain⟨k1,rfl,H⟩:=kz gk HA;clear HA;simp only[Bd.l2]at H;replace H:=qe H;obtain⟨g2,H⟩|⟨g2,H⟩:=H
        .have j2:=qa H;clear H;obtain⟨n2,p2,rfl⟩:=Kd.Ft e2.out
         go_upto_region 33 with(fail)
         go_cut [75] (fun q2 wc=>∃(kq:Nat) (r2:Bool),q2= .bool r2/\Aside0 (Bd.j3 kq a0 c0 c2 d2 r2=some r)/\Aside0 (kq<=k1)/\Aside0 (Kd.S (Kd.slice 3 ki) 22 wc w.heap.size (fun _=>True) (.slice n2 c0.length p2) c0)/\Aside0 (Below w.heap.size w wc))
         case first=>
          have H:=j2.out;clear j2;replace H:=qq H;obtain⟨s2,t2,H⟩|⟨v2,s2,t2,H⟩:=H
          ·(first|rw[s2]|(simp only[Bv,Fc];rw[s2])|skip);replace H:=qd H;obtain⟨w2,H⟩:=H;replace H:=qL 1 H;obtain⟨x2,y2,H⟩:=H;have H':=qa H;clear H;obtain⟨A2,B2,C2,⟨⟩,D2,HL517_0,E2,G2,J2,K2⟩:=sg_L1 e2.out d2;have L2:0<=(1:Int):=ko_;have M2:1<((Bl c0 d2).length :Int):=qo;obtain⟨N2,P2,Q2⟩:=Kd.Fx (cw E2) 1 L2 M2;cases P2;(try simp only[show(1:Int).toNat =1 from rfl,Nat.reduceMul,Nat.reduceEqDiff,Go.Addr.add,↓reduceIte]at Q2);have qi518:(1<(Bl c0 d2).length)=True:=eq_true ko_;(try rw[show((1:Int)).toNat =1 from rfl]at Q2);replace L2:=eq_true L2;replace M2:=eq_true M2;go_wp2;go_meet
           case rel=>exact⟨_,(decide ((rd (Bl c0 d2) 1)>1)),(sd),H',⟨z6_⟩,⟨kS e2⟩,⟨bl⟩⟩
          ·(first|rw[s2]|(simp only[Bv,Fc];rw[s2])|skip);have H':=qa H;clear H;go_wp2;go_meet
           case rel=>exact⟨_,(false),(sd),H',⟨z6_⟩,⟨kS e2⟩,⟨bl⟩⟩
         case rest=>
          clear j2;obtain⟨kq,r2,rfl,HA,R2,e2,HB⟩:=hcut;obtain⟨U2,rfl,H⟩:=kz kq HA;clear HA;simp only[Bd.j3]at H;replace H:=qc H;obtain⟨rfl,H⟩|⟨rfl,H⟩:=H
          .obtain rfl:=sj H;go_wp2;go_ret;exact⟨er,bl⟩
          .replace H:=qd H;obtain⟨V2,H⟩:=H;replace H:=qd H;obtain⟨W2,H⟩:=H;replace H:=qL 1 H;obtain⟨X2,Y2,H⟩:=H;replace H:=qq H;obtain⟨a3,b3,H⟩|⟨c3,a3,b3,H⟩:=H
           .have H':=qa H;clear H;obtain⟨d3,e3,g3,⟨⟩,l3,HL519_0,n3,p3,q3,r3⟩:=sg_L1 e2.out d2;have s3:0<=(1:Int):=ko_;have t3:1<((Bl c0 d2).length :Int):=qo;obtain⟨v3,w3,x3⟩:=Kd.Fx (cw n3) 1 s3 t3;cases w3;(try simp only[show(1:Int).toNat =1 from rfl,Nat.reduceMul,Nat.reduceEqDiff,Go.Addr.add,↓reduceIte]at x3);have qi520:(1<(Bl c0 d2).length)=True:=eq_true ko_;(try rw[show((1:Int)).toNat =1 from rfl]at x3);replace s3:=eq_true s3;replace t3:=eq_true t3;go_wp2
            go_roundg U2
            case measure=>have:=HK1.out;have:=R2.out;omega
            case rel=>exact⟨(wrap64 (-c2)),(wrap64 (d2+1)),(sd),(sd),H',⟨by have:=HK1.out;have:=R2.out;omega⟩,⟨kS e2⟩,⟨bl⟩⟩
           .have H':=qa H;clear H;obtain⟨d3,e3,g3,⟨⟩,l3,HL519_0,n3,p3,q3,r3⟩:=sg_L1 e2.out d2;have s3:0<=(1:Int):=ko_;have t3:1<((Bl c0 d2).length :Int):=qo;obtain⟨v3,w3,x3⟩:=Kd.Fx (cw n3) 1 s3 t3;cases w3;(try simp only[show(1:Int).toNat =1 from rfl,Nat.reduceMul,Nat.reduceEqDiff,Go.Addr.add,↓reduceIte]at x3);have qi520:(1<(Bl c0 d2).length)=True:=eq_true ko_;(try rw[show((1:Int)).toNat =1 from rfl]at x3);replace s3:=eq_true s3;replace t3:=eq_true t3;go_wp2
            go_roundg U2
            case measure=>have:=HK1.out;have:=R2.out;omega
            case rel=>exact⟨(c2),(wrap64 (d2+1)),(sd),(sd),H',⟨by have:=HK1.out;have:=R2.out;omega⟩,⟨kS e2⟩,⟨bl⟩⟩
        .obtain rfl:=sj H;obtain⟨y3,A3,rfl⟩:=Kd.Ft e2.out;go_wp2;go_ret;exact⟨er,bl⟩

def Bw.l0:Nat->Int->LI->Int->Option LI
 |0,_,_,_=>none
 |k+1,a0,b0,c0=>if c0<=24 then((Ar.f a0 0 7).bind fun d0=>(if d0=true then((Bd.f k a0 c0).bind fun e0=>(if b0.length<17592186044416 then(Bw.l0 k a0 (b0++[e0]) (wrap64 (c0+1)))else(none)))else(some b0)))else(some b0)
def Bw.f (k:Nat) (a0:Int):Option LI:=Bw.l0 k a0 (([]:LI)) 1
theorem Bw.mono_l:∀k,(∀a0 b0 c0,LeO (Bw.l0 k a0 b0 c0) (Bw.l0 (k+1) a0 b0 c0))
 |0=>fun _ _ _ r h=>by simp[Bw.l0]at h
 |k+1=>by
  have ih0:=Bw.mono_l k
  .intro a0 b0 c0;unfold Bw.l0;have m0:= @Bd.mono;exact mz
theorem Bw.mono:∀a0 k,LeO (Bw.f k a0) (Bw.f (k+1) a0):=by
 intro a0 k;have ih0:=Bw.mono_l k;unfold Bw.f;have m0:= @Bd.mono;exact mz
theorem Bw.c (k:Nat) (a0:Int) (r:LI) (w:World) (h:Bw.f k a0=some r):
  Calls Tryz.prog 122 #[.int .i64 a0] w fun e w'=>∃v0_:Value,e= .returned (v0_)/\Kd.R ki 3 w' w.heap.size (fun _=>True) v0_ r/\Below w.heap.size w w':=by
 have HB:=qa (Below.refl w.heap.size w);have H:=h;unfold Bw.f at H;clear h;obtain⟨b0,hy_⟩:∃y_:LI,y_=(([]:LI)):=⟨_,rfl⟩;replace H:(Bw.l0 k a0 b0 1)=some r:=yh;have c0:=qa hy_;clear hy_;have H':=qa H;clear H
 go_enter Tryz.func122,Tryz.ntmps122
 go_wp2_with(first|(refine rli .i64 3 5 c0.out fun d0 e0 g0 hb=>?_;have j0:=lR g0;replace HB:=bs hb;clear hb g0))
 go_loopg [3,4] k (fun kq n0 p0 w'=>∃(q0:LI) (r0:Int),p0= .int .i64 r0/\Aside0 (Bw.l0 kq a0 q0 r0=some r)/\Aside0 (kq<=k)/\Aside0 (Kd.R ki 3 w' w.heap.size (fun _=>True) n0 q0)/\Aside0 (Below w.heap.size w w'))
 case atStart=>exact⟨(b0),(1),(sd),H',⟨Nat.le_refl _⟩,⟨kR j0⟩,⟨bl⟩⟩
 case round=>
  clear H';obtain⟨q0,r0,rfl,HA,HK1,s0,HB⟩:=hrel;obtain⟨k1,rfl,H⟩:=kz gk HA;clear HA;simp only[Bw.l0]at H;replace H:=qe H;obtain⟨t0,H⟩|⟨t0,H⟩:=H
  .replace H:=qb H;obtain⟨v0,w0,H⟩:=H;replace H:=qc H;obtain⟨rfl,H⟩|⟨rfl,H⟩:=H
   .replace H:=qb H;obtain⟨x0,y0,H⟩:=H;replace H:=qn H;obtain⟨A0,H⟩:=H;have B0:=qa A0;clear A0;obtain⟨C0,hy_⟩:∃y_:LI,y_=(q0++[x0]):=⟨_,rfl⟩;replace H:(Bw.l0 k1 a0 C0 (wrap64 (r0+1)))=some r:=yh;have D0:=qa hy_;clear hy_;have H':=qa H;clear H
    go_wp2_with(first|(go_at_call 84;(with_reducible refine gm (Ar.c a0 0 7 true _ w0.out) fun nd=>?_))|(refine gb 17 Tryz.func152 (Bd.c k1 a0 r0 x0 _ y0.out) fun E0 hb=>?_;replace s0:=bR s0 hb;replace HB:=bs hb)|((with_reducible refine Cw (b:= .append) (xs:=#[.tmp 14,.tmp 18]) rfl ?_);at_builtin;refine Kd.Hc ki (w0:=w) w.heap.size rfl (.tmp 14) (.tmp 18) 22 3 (.int .i64 0) 8 rfl Tryz.underlying22 Je rfl kd_ ko_ u3 q0 x0 [.int .i64 x0] (fun _=>True) (fun _=>False) rfl rfl ?aP (fun _ hk=>hk.elim) ?aF ?aO ?aB ?aS ?aL ?_;(case aP=>exact rfl);(case aB=>exact(bl));(case aF=>exact(fun _ _=>trivial));(case aO=>exact(kR s0));(case aS=>exact(Cj (bl)));(case aL=>have:=B0.out;omega);intro G0 J0 ho hb hg hat;rw[<-D0.out]at ho;replace HB:=qa (hb);have K0:=qa (ho);clear s0;clear ho hb hg hat))
    go_roundg k1
    case measure=>have:=HK1.out;omega
    case rel=>exact⟨(C0),(wrap64 (r0+1)),(sd),H',⟨by have:=HK1.out;omega⟩,⟨kR K0⟩,⟨bl⟩⟩
   .obtain rfl:=sj H
    go_wp2_with(first|(go_at_call 84;(with_reducible refine gm (Ar.c a0 0 7 false _ w0.out) fun nd=>?_)))
    go_ret;exact⟨_,er,kR s0,bl⟩
  .obtain rfl:=sj H;go_wp2;go_ret;exact⟨_,er,kR s0,bl⟩
def It.f (a0:Int) (b0:Int):Option (Bool):=(Ar.f a0 1 10000).bind fun c0=>(if c0=true then((Ar.f b0 1 10000).bind fun d0=>(if d0=true then(if a0=0 then(none)else(some ((Int.tmod b0 a0)==0)))else(some false)))else(some false))
theorem It.c (a0:Int) (b0:Int) (r:Bool) (w:World) (h:It.f a0 b0=some r):
  Calls Tryz.prog 178 #[.int .i64 a0,.int .i64 b0] w fun e w'=>e= .returned (.bool r)/\Drawn0 w w':=by
 have H:=h;unfold It.f at H;clear h;replace H:=qb H;obtain⟨c0,d0,H⟩:=H;replace H:=qc H;obtain⟨rfl,H⟩|⟨rfl,H⟩:=H
 .replace H:=qb H;obtain⟨e0,g0,H⟩:=H;replace H:=qc H;obtain⟨rfl,H⟩|⟨rfl,H⟩:=H
  .by_cases j0:a0=0
   .rw[if_pos j0]at H;exact absurd H (by simp)
   .rw[if_neg j0]at H;have l0:(a0==0)=false:=beq_eq_false_iff_ne.mpr j0;have n0:(a0 != 0)=true:=bne_iff_ne.mpr j0;obtain rfl:=sj H
    go_enter Tryz.func178,Tryz.ntmps178
    go_wp2_with(first|(refine gd 6 Tryz.func84 (Ar.c a0 1 10000 true _ d0.out) fun nd=>?_)|(go_at_call 84;(with_reducible refine gm (Ar.c b0 1 10000 true _ g0.out) fun nd=>?_)))
    go_ret;exact⟨sd,dr⟩
  .obtain rfl:=sj H
   go_enter Tryz.func178,Tryz.ntmps178
   go_wp2_with(first|(refine gd 6 Tryz.func84 (Ar.c a0 1 10000 true _ d0.out) fun nd=>?_)|(go_at_call 84;(with_reducible refine gm (Ar.c b0 1 10000 false _ g0.out) fun nd=>?_)))
   go_ret;exact⟨sd,dr⟩
 .obtain rfl:=sj H
  go_enter Tryz.func178,Tryz.ntmps178
  go_wp2_with(first|(refine gd 6 Tryz.func84 (Ar.c a0 1 10000 false _ d0.out) fun nd=>?_))
  go_ret;exact⟨sd,dr⟩

def Em.f (k:Nat) (a0:Int) (b0:Int):Option (Bool):=(It.f a0 b0).bind fun c0=>(if c0=true then(if a0=0 then(none)else((Cu.f k a0 (wrap64 (Int.tdiv b0 a0))).bind fun d0=>(some d0)))else(some false))
theorem Em.mono:∀a0 b0 k,LeO (Em.f k a0 b0) (Em.f (k+1) a0 b0):=by
 intro a0 b0 k;unfold Em.f;have m0:= @Cu.mono;exact mz
theorem Em.c (k:Nat) (a0:Int) (b0:Int) (r:Bool) (w:World) (h:Em.f k a0 b0=some r):
  Calls Tryz.prog 153 #[.int .i64 a0,.int .i64 b0] w fun e w'=>e= .returned (.bool r)/\Drawn0 w w':=by
 have H:=h;unfold Em.f at H;clear h;replace H:=qb H;obtain⟨c0,d0,H⟩:=H;replace H:=qc H;obtain⟨rfl,H⟩|⟨rfl,H⟩:=H
 .by_cases e0:a0=0
  .rw[if_pos e0]at H;exact absurd H (by simp)
  .rw[if_neg e0]at H;have g0:(a0==0)=false:=beq_eq_false_iff_ne.mpr e0;have j0:(a0 != 0)=true:=bne_iff_ne.mpr e0;replace H:=qb H;obtain⟨l0,n0,H⟩:=H;obtain rfl:=sj H
   go_enter Tryz.func153,Tryz.ntmps153
   go_wp2_with(first|(refine gd 7 Tryz.func178 (It.c a0 b0 true _ d0.out) fun nd=>?_)|(go_at_call 83;(with_reducible refine gm (Cu.c k a0 (wrap64 (Int.tdiv b0 a0)) l0 _ n0.out) fun nd=>?_)))
   go_ret;exact⟨sd,dr⟩
 .obtain rfl:=sj H
  go_enter Tryz.func153,Tryz.ntmps153
  go_wp2_with(first|(refine gd 7 Tryz.func178 (It.c a0 b0 false _ d0.out) fun nd=>?_))
  go_ret;exact⟨sd,dr⟩

mutual
def Am.l0:Nat->LI->LI->Bool->LI->Int->Option (LI×Bool)
 |0,_,_,_,_,_=>none
 |k+1,a0,b0,c0,d0,e0=>if e0<=24 then(Am.j1 k a0 b0 c0 d0 e0 c0)else(Am.j1 k a0 b0 c0 d0 e0 false)
def Am.j1:Nat->LI->LI->Bool->LI->Int->Bool->Option (LI×Bool)
 |0,_,_,_,_,_,_=>none
 |k+1,a0,b0,c0,d0,e0,g0=>if g0=true then(Am.l1 k a0 b0 c0 d0 e0 0 1)else(some (d0,c0))
def Am.l1:Nat->LI->LI->Bool->LI->Int->Int->Int->Option (LI×Bool)
 |0,_,_,_,_,_,_,_=>none
 |k+1,a0,b0,c0,d0,e0,j0,n0=>if n0<=e0 then((Em.f k n0 e0).bind fun p0=>(if p0=true then(if 0<=(wrap64 (n0-1))then(if(wrap64 (n0-1))<(a0.length:Int)then(if n0=0 then(none)else(if 0<=(wrap64 ((wrap64 (Int.tdiv e0 n0))-1))then(if(wrap64 ((wrap64 (Int.tdiv e0 n0))-1))<(b0.length:Int)then(Am.l1 k a0 b0 c0 d0 e0 (wrap64 (j0+(wrap64 ((rd a0 (wrap64 (n0-1)))*(rd b0 (wrap64 ((wrap64 (Int.tdiv e0 n0))-1))))))) (wrap64 (n0+1)))else(none))else(none)))else(none))else(none))else(Am.l1 k a0 b0 c0 d0 e0 j0 (wrap64 (n0+1)))))else(if d0.length<17592186044416 then(Am.l0 k a0 b0 c0 (d0++[j0]) (wrap64 (e0+1)))else(none))
end

def Am.f (k:Nat) (a0:LI) (b0:LI):Option (LI×Bool):=(Ba.f k a0 b0).bind fun c0=>(Am.l0 k a0 b0 c0.2 (([]:LI)) 1)
theorem Am.mono_l:∀k,(∀a0 b0 c0 d0 e0,LeO (Am.l0 k a0 b0 c0 d0 e0) (Am.l0 (k+1) a0 b0 c0 d0 e0))/\(∀a0 b0 c0 d0 e0 g0,LeO (Am.j1 k a0 b0 c0 d0 e0 g0) (Am.j1 (k+1) a0 b0 c0 d0 e0 g0))/\(∀a0 b0 c0 d0 e0 g0 j0,LeO (Am.l1 k a0 b0 c0 d0 e0 g0 j0) (Am.l1 (k+1) a0 b0 c0 d0 e0 g0 j0))
 |0=>⟨fun _ _ _ _ _ r h=>by simp[Am.l0]at h,fun _ _ _ _ _ _ r h=>by simp[Am.j1]at h,fun _ _ _ _ _ _ _ r h=>by simp[Am.l1]at h⟩
 |k+1=>by
  obtain⟨ih0,ih1,ih2⟩:=Am.mono_l k;refine⟨?_,?_,?_⟩
  .intro a0 b0 c0 d0 e0;unfold Am.l0;have m0:= @Ba.mono;have m1:= @Em.mono;exact mz
  .intro a0 b0 c0 d0 e0 g0;unfold Am.j1;have m0:= @Ba.mono;have m1:= @Em.mono;exact mz
  .intro a0 b0 c0 d0 e0 g0 j0;unfold Am.l1;have m0:= @Ba.mono;have m1:= @Em.mono;exact mz
theorem Am.c (k:Nat) (a0:OA) (b0:Nat) (c0:LI) (d0:OA) (e0:Nat) (g0:LI) (j0:LI) (n0:Bool) (w:World) (p0:Kd.C ki w a0 c0.length c0) (q0:c0.length<=b0) (r0:Kd.C ki w d0 g0.length g0) (s0:g0.length<=e0) (h:Am.f k c0 g0=some (j0,n0)):
  Calls Tryz.prog 123 #[.slice a0 c0.length b0,.slice d0 g0.length e0] w fun e w'=>∃v0_:Value,e= .returned (.tuple #[v0_,.bool n0])/\Kd.R ki 3 w' w.heap.size (fun _=>True) v0_ j0/\Below w.heap.size w w':=by
 have t0:=qa p0;have v0:=qa q0;clear p0 q0;have w0:=qa r0;have x0:=qa s0;clear r0 s0;have HB:=qa (Below.refl w.heap.size w);have H:=h;unfold Am.f at H;clear h;replace H:=qb H;obtain⟨⟨y0,A0⟩,B0,H⟩:=H;(try dsimp only at H);obtain⟨C0,hy_⟩:∃y_:LI,y_=(([]:LI)):=⟨_,rfl⟩;replace H:(Am.l0 k c0 g0 A0 C0 1)=some (j0,n0):=yh;have D0:=qa hy_;clear hy_;have H':=qa H;clear H
 go_enter Tryz.func123,Tryz.ntmps123
 go_wp2_with(first|(go_at_call 121;(with_reducible refine(Ba.c k _ _ c0 _ _ g0 y0 A0 _ ?E0 ?G0 ?J0 ?K0 B0.out).mono ?_);(case E0=>exact cx t0.out);(case G0=>exact v0.out);(case J0=>exact cx w0.out);(case K0=>exact x0.out);rintro e L0 ⟨M0,rfl,N0,hb⟩;have P0:=lR N0;replace HB:=bs hb)|(refine rli .i64 3 18 D0.out fun Q0 R0 U0 hb=>?_;have V0:=lR (Kd.Cl U0 (Kd.R_lt (kR P0)));replace P0:=eR P0 (Kd.Av U0) hb;replace HB:=bs hb;clear hb U0))
 repeat(go_quiet(fail);try go_wp2_with(first|(go_at_call 121;(with_reducible refine(Ba.c k _ _ c0 _ _ g0 y0 A0 _ ?E0 ?G0 ?J0 ?K0 B0.out).mono ?_);(case E0=>exact cx t0.out);(case G0=>exact v0.out);(case J0=>exact cx w0.out);(case K0=>exact x0.out);rintro e L0 ⟨M0,rfl,N0,hb⟩;have P0:=lR N0;replace HB:=bs hb)|(refine rli .i64 3 18 D0.out fun Q0 R0 U0 hb=>?_;have V0:=lR (Kd.Cl U0 (Kd.R_lt (kR P0)));replace P0:=eR P0 (Kd.Av U0) hb;replace HB:=bs hb;clear hb U0)))
 go_loopg [8,9] k (fun kq W0 X0 w'=>∃(Y0:LI) (a1:Int),X0= .int .i64 a1/\Aside0 (Am.l0 kq c0 g0 A0 Y0 a1=some (j0,n0))/\Aside0 (kq<=k)/\Aside0 (Kd.R ki 3 w' w.heap.size (fun _=>True) W0 Y0)/\Aside0 (Below w.heap.size w w'))
 case atStart=>exact⟨(C0),(1),(sd),H',⟨Nat.le_refl _⟩,⟨mR V0 (fun _ hk=>trivial)⟩,⟨bl⟩⟩
 case round=>
  clear H';obtain⟨Y0,a1,rfl,HA,HK1,b1,HB⟩:=hrel;obtain⟨k1,rfl,H⟩:=kz gk HA;clear HA;simp only[Am.l0]at H;have c1:=qa H;clear H
  go_upto_region 4 with(fail)
  repeat(go_quiet(fail);go_upto_region 4 with(fail))
  go_cut [23] (fun d1 wc=>∃(kq:Nat) (e1:Bool),d1= .bool e1/\Aside0 (Am.j1 kq c0 g0 A0 Y0 a1 e1=some (j0,n0))/\Aside0 (kq<=k1)/\Aside0 (Kd.R ki 3 wc w.heap.size (fun _=>True) u8 Y0)/\Aside0 (Below w.heap.size w wc))
  case first=>
   have H:=c1.out;clear c1;replace H:=qe H;obtain⟨g1,H⟩|⟨g1,H⟩:=H
   ·(first|rw[g1]|(simp only[Bv,Fc];rw[g1])|skip);have H':=qa H;clear H;go_wp2
    repeat(go_quiet(fail);try go_wp2)
    go_meet
    case rel=>exact⟨_,(A0),(sd),H',⟨z6_⟩,⟨kR b1⟩,⟨bl⟩⟩
   ·(first|rw[g1]|(simp only[Bv,Fc];rw[g1])|skip);have H':=qa H;clear H;go_wp2
    repeat(go_quiet(fail);try go_wp2)
    go_meet
    case rel=>exact⟨_,(false),(sd),H',⟨z6_⟩,⟨kR b1⟩,⟨bl⟩⟩
  case rest=>
   clear c1;obtain⟨kq,e1,rfl,HA,n1,b1,HB⟩:=hcut;obtain⟨p1,rfl,H⟩:=kz kq HA;clear HA;simp only[Am.j1]at H;replace H:=qc H;obtain⟨rfl,H⟩|⟨rfl,H⟩:=H
   .have H':=qa H;clear H;go_wp2
    repeat(go_quiet(fail);try go_wp2)
    go_loopg [10,11] p1 (fun kq q1 r1 w'=>∃(s1:Int) (t1:Int),q1= .int .i64 s1/\r1= .int .i64 t1/\Aside0 (Am.l1 kq c0 g0 A0 Y0 a1 s1 t1=some (j0,n0))/\Aside0 (kq<=p1)/\Aside0 (Kd.R ki 3 w' w.heap.size (fun _=>True) u8 Y0)/\Aside0 (Below w.heap.size w w'))
    case atStart=>exact⟨(0),(1),(sd),(sd),H',⟨Nat.le_refl _⟩,⟨kR b1⟩,⟨bl⟩⟩
    case round=>
     clear H';obtain⟨s1,t1,rfl,rfl,HA,HK3,b1,HB⟩:=hrel;obtain⟨k3,rfl,H⟩:=kz gk HA;clear HA;simp only[Am.l1]at H;replace H:=qe H;obtain⟨v1,H⟩|⟨v1,H⟩:=H
     .replace H:=qb H;obtain⟨w1,x1,H⟩:=H;replace H:=qc H;obtain⟨rfl,H⟩|⟨rfl,H⟩:=H
      .obtain⟨y1,A1⟩:∃j_:Int,(wrap64 (t1-1))=j_:=⟨_,rfl⟩;(first|rw[A1]at H|(try simp only[A1]at H));(try rw[A1]at x1);have B1:(IntKind.i64.wrap (t1-1))=y1:=(Bv _).trans A1;replace H:=qd H;obtain⟨C1,H⟩:=H;replace H:=qd H;obtain⟨D1,H⟩:=H
       by_cases E1:t1=0
       .rw[if_pos E1]at H;exact absurd H (by simp)
       .rw[if_neg E1]at H;have G1:(t1==0)=false:=beq_eq_false_iff_ne.mpr E1;have J1:(t1 != 0)=true:=bne_iff_ne.mpr E1;obtain⟨K1,L1⟩:∃j_:Int,(wrap64 ((wrap64 (Int.tdiv a1 t1))-1))=j_:=⟨_,rfl⟩;(first|rw[L1]at H|(try simp only[L1]at H));(try rw[L1]at x1);have M1:(IntKind.i64.wrap ((wrap64 (Int.tdiv a1 t1))-1))=K1:=(Bv _).trans L1;replace H:=qd H;obtain⟨N1,H⟩:=H;replace H:=qd H;obtain⟨P1,H⟩:=H;have H':=qa H;clear H
        go_wp2_with(first|(go_at_call 153;(with_reducible refine gm (Em.c k3 t1 a1 true _ x1.out) fun nd=>?_);(try exact dn);obtain⟨Q1,⟨⟩,R1,U1,V1⟩:=ai t0.out (y1);replace R1:=(HB.out.cell (World.block_lt_of_cell? w _ R1)).trans R1;obtain⟨W1,⟨⟩,X1,Y1,a2⟩:=ai w0.out (K1);replace X1:=(HB.out.cell (World.block_lt_of_cell? w _ X1)).trans X1))
        repeat(go_quiet(first|(go_at_call 153;(with_reducible refine gm (Em.c k3 t1 a1 true _ x1.out) fun nd=>?_);(try exact dn);obtain⟨Q1,⟨⟩,R1,U1,V1⟩:=ai t0.out (y1);replace R1:=(HB.out.cell (World.block_lt_of_cell? w _ R1)).trans R1;obtain⟨W1,⟨⟩,X1,Y1,a2⟩:=ai w0.out (K1);replace X1:=(HB.out.cell (World.block_lt_of_cell? w _ X1)).trans X1));try go_wp2_with(first|(go_at_call 153;(with_reducible refine gm (Em.c k3 t1 a1 true _ x1.out) fun nd=>?_);(try exact dn);obtain⟨Q1,⟨⟩,R1,U1,V1⟩:=ai t0.out (y1);replace R1:=(HB.out.cell (World.block_lt_of_cell? w _ R1)).trans R1;obtain⟨W1,⟨⟩,X1,Y1,a2⟩:=ai w0.out (K1);replace X1:=(HB.out.cell (World.block_lt_of_cell? w _ X1)).trans X1)))
        go_roundg k3
        case measure=>have:=HK1.out;have:=n1.out;have:=HK3.out;omega
        case rel=>exact⟨(wrap64 (s1+(wrap64 ((rd c0 (y1))*(rd g0 (K1)))))),(wrap64 (t1+1)),(by first|rfl|(simp;done)|(simp only[<-A1,<-L1] <;> (first|rfl|simp))|(simp[*];done)),(sd),H',⟨by have:=HK1.out;have:=n1.out;have:=HK3.out;omega⟩,⟨kR b1⟩,⟨bl⟩⟩
      .have H':=qa H;clear H
       go_wp2_with(first|(go_at_call 153;(with_reducible refine gm (Em.c k3 t1 a1 false _ x1.out) fun nd=>?_);(try exact dn)))
       repeat(go_quiet(first|(go_at_call 153;(with_reducible refine gm (Em.c k3 t1 a1 false _ x1.out) fun nd=>?_);(try exact dn)));try go_wp2_with(first|(go_at_call 153;(with_reducible refine gm (Em.c k3 t1 a1 false _ x1.out) fun nd=>?_);(try exact dn))))
       go_roundg k3
       case measure=>have:=HK1.out;have:=n1.out;have:=HK3.out;omega
       case rel=>exact⟨(s1),(wrap64 (t1+1)),(sd),(sd),H',⟨by have:=HK1.out;have:=n1.out;have:=HK3.out;omega⟩,⟨kR b1⟩,⟨bl⟩⟩
     .replace H:=qn H;obtain⟨b2,H⟩:=H;have c2:=qa b2;clear b2;obtain⟨d2,hy_⟩:∃y_:LI,y_=(Y0++[s1]):=⟨_,rfl⟩;replace H:(Am.l0 k3 c0 g0 A0 d2 (wrap64 (a1+1)))=some (j0,n0):=yh;have e2:=qa hy_;clear hy_;have H':=qa H;clear H
      go_wp2_with(first|((with_reducible refine Cw (b:= .append) (xs:=#[.tmp 49,.tmp 51]) rfl ?_);at_builtin;refine Kd.Hc ki (w0:=w) w.heap.size rfl (.tmp 49) (.tmp 51) 22 3 (.int .i64 0) 8 rfl Tryz.underlying22 Je rfl kd_ ko_ u8 Y0 s1 [.int .i64 s1] (fun _=>True) (fun _=>False) rfl rfl ?aP (fun _ hk=>hk.elim) ?aF ?aO ?aB ?aS ?aL ?_;(case aP=>exact rfl);(case aB=>exact(bl));(case aF=>exact(fun _ _=>trivial));(case aO=>exact(kR b1));(case aS=>exact(Cj (bl)));(case aL=>have:=c2.out;omega);intro g2 j2 ho hb hg hat;rw[<-e2.out]at ho;replace HB:=qa (hb);have l2:=qa (ho);clear b1;clear ho hb hg hat))
      repeat(go_quiet(fail);try go_wp2_with(first|((with_reducible refine Cw (b:= .append) (xs:=#[.tmp 49,.tmp 51]) rfl ?_);at_builtin;refine Kd.Hc ki (w0:=w) w.heap.size rfl (.tmp 49) (.tmp 51) 22 3 (.int .i64 0) 8 rfl Tryz.underlying22 Je rfl kd_ ko_ u8 Y0 s1 [.int .i64 s1] (fun _=>True) (fun _=>False) rfl rfl ?aP (fun _ hk=>hk.elim) ?aF ?aO ?aB ?aS ?aL ?_;(case aP=>exact rfl);(case aB=>exact(bl));(case aF=>exact(fun _ _=>trivial));(case aO=>exact(kR b1));(case aS=>exact(Cj (bl)));(case aL=>have:=c2.out;omega);intro g2 j2 ho hb hg hat;rw[<-e2.out]at ho;replace HB:=qa (hb);have l2:=qa (ho);clear b1;clear ho hb hg hat)))
      go_roundg k3
      case measure=>have:=HK1.out;have:=n1.out;have:=HK3.out;omega
      case rel=>exact⟨(d2),(wrap64 (a1+1)),(sd),H',⟨by have:=HK1.out;have:=n1.out;have:=HK3.out;omega⟩,⟨kR l2⟩,⟨bl⟩⟩
   .simp only[Option.some.injEq,Prod.mk.injEq]at H;obtain⟨rfl,rfl⟩:=H;go_wp2
    repeat(go_quiet(fail);try go_wp2)
    go_ret2;exact⟨_,er,kR b1,bl⟩

def Jd.f (k:Nat) (a0:LI):Option (Bool):=(Bi.f k a0).bind fun b0=>(if b0=true then(if 0<(a0.length:Int)then(if(rd a0 0)=1 then(some true)else(some ((rd a0 0)==(-1))))else(none))else(some false))
theorem Jd.c (k:Nat) (a0:OA) (b0:Nat) (c0:LI) (r:Bool) (w:World) (d0:Kd.C ki w a0 c0.length c0) (e0:c0.length<=b0) (h:Jd.f k c0=some r):
  Calls Tryz.prog 179 #[.slice a0 c0.length b0] w fun e w'=>e= .returned (.bool r)/\Drawn0 w w':=by
 have g0:=qa d0;have j0:=qa e0;clear d0 e0;have H:=h;unfold Jd.f at H;clear h;replace H:=qb H;obtain⟨l0,n0,H⟩:=H;replace H:=qc H;obtain⟨rfl,H⟩|⟨rfl,H⟩:=H
 .replace H:=qL 0 H;obtain⟨p0,q0,H⟩:=H;replace H:=qq H;obtain⟨r0,s0,H⟩|⟨t0,r0,s0,H⟩:=H
  .obtain rfl:=sj H
   go_enter Tryz.func179,Tryz.ntmps179
   go_wp2_with(first|(refine gd 4 Tryz.func69 (Bi.c k _ _ c0 true _ (cx g0.out) j0.out n0.out) fun nd=>?_;obtain⟨v0,⟨⟩,w0,qi547,x0,y0⟩:=ain 0 g0.out 0;(try rw[Addr.add_zero']at w0)))
   go_ret;exact⟨sd,dr⟩
  .obtain rfl:=sj H
   go_enter Tryz.func179,Tryz.ntmps179
   go_wp2_with(first|(refine gd 4 Tryz.func69 (Bi.c k _ _ c0 true _ (cx g0.out) j0.out n0.out) fun nd=>?_;obtain⟨v0,⟨⟩,w0,qi547,x0,y0⟩:=ain 0 g0.out 0;(try rw[Addr.add_zero']at w0);obtain⟨A0,qi548,B0,C0⟩:=ajn 0 g0.out 0;(try rw[Addr.add_zero']at A0)))
   go_ret;exact⟨sd,dr⟩
 .obtain rfl:=sj H
  go_enter Tryz.func179,Tryz.ntmps179
  go_wp2_with(first|(refine gd 4 Tryz.func69 (Bi.c k _ _ c0 false _ (cx g0.out) j0.out n0.out) fun nd=>?_))
  go_ret;exact⟨sd,dr⟩

mutual
def Cm.l0:Nat->LI->LI->LI->Int->Option LI
 |0,_,_,_,_=>none
 |k+1,a0,b0,c0,d0=>if d0<=24 then(if 0<=(wrap64 (d0-1))then(if(wrap64 (d0-1))<(a0.length:Int)then(Cm.l1 k a0 b0 c0 d0 (rd a0 (wrap64 (d0-1))) 2)else(none))else(none))else(some c0)
def Cm.l1:Nat->LI->LI->LI->Int->Int->Int->Option LI
 |0,_,_,_,_,_,_=>none
 |k+1,a0,b0,c0,d0,e0,g0=>if g0<=d0 then(if g0=0 then(none)else(if(Int.tmod d0 g0)=0 then(if 0<=(wrap64 (g0-1))then(if(wrap64 (g0-1))<(b0.length:Int)then(if 0<=(wrap64 ((wrap64 (Int.tdiv d0 g0))-1))then(if(wrap64 ((wrap64 (Int.tdiv d0 g0))-1))<(c0.length:Int)then(Cm.l1 k a0 b0 c0 d0 (wrap64 (e0-(wrap64 ((rd b0 (wrap64 (g0-1)))*(rd c0 (wrap64 ((wrap64 (Int.tdiv d0 g0))-1))))))) (wrap64 (g0+1)))else(none))else(none))else(none))else(none))else(Cm.l1 k a0 b0 c0 d0 e0 (wrap64 (g0+1)))))else(if 0<(b0.length:Int)then(if 0<=(wrap64 (d0-1))then(if(wrap64 (d0-1))<(c0.length:Int)then((some (c0.set ((wrap64 (d0-1)):Int).toNat (wrap64 (e0*(rd b0 0))):LI)).bind fun j0=>((Ar.f (rd j0 (wrap64 (d0-1))) (-1000000000) 1000000000).bind fun n0=>(if n0=true then(Cm.l0 k a0 b0 j0 (wrap64 (d0+1)))else(some (([]:LI))))))else(none))else(none))else(none))
end

def Cm.f (k:Nat) (a0:LI) (b0:LI):Option LI:=if 24<=35184372088832 then(Cm.l0 k a0 b0 (List.replicate 24 0) 1)else(none)
theorem Cm.c (k:Nat) (a0:OA) (b0:Nat) (c0:LI) (d0:OA) (e0:Nat) (g0:LI) (r:LI) (w:World) (j0:Kd.C ki w a0 c0.length c0) (n0:c0.length<=b0) (p0:Kd.C ki w d0 g0.length g0) (q0:g0.length<=e0) (h:Cm.f k c0 g0=some r):
  Calls Tryz.prog 180 #[.slice a0 c0.length b0,.slice d0 g0.length e0] w fun e w'=>∃v0_:Value,e= .returned (v0_)/\Kd.R ki 3 w' w.heap.size (fun _=>True) v0_ r/\Below w.heap.size w w':=by
 have r0:=qa j0;have s0:=qa n0;clear j0 n0;have t0:=qa p0;have v0:=qa q0;clear p0 q0;have HB:=qa (Below.refl w.heap.size w);have H:=h;unfold Cm.f at H;clear h
 by_cases w0:24<=35184372088832
 .rw[if_pos w0]at H;have x0:=eq_true w0;have y0:decide (24<=35184372088832)=true:=decide_eq_true w0;clear w0;obtain⟨A0,hy_⟩:∃y_:LI,y_=(List.replicate 24 0):=⟨_,rfl⟩;replace H:(Cm.l0 k c0 g0 A0 1)=some r:=yh;have B0:=qa hy_;clear hy_;have H':=qa H;clear H
  go_enter Tryz.func180,Tryz.ntmps180
  go_wp2_with(first|((with_reducible refine El (N:=9) rfl ?_);refine Kd.R_make ki _ 3 rfl (N:=9) rfl 22 _ _ rfl 24 rfl rfl Tryz.underlying22 (.int .i64 0) 8 Je rfl kd_ ko_ 0 (ok:=fun _=>True) (okp:=fun _=>True) rfl (fun _ hk=>hk) trivial ko_ ko_ (Below.refl _ _) (Nat.le_refl _) ?_;intro C0 D0 E0 hb hg_ hnew_;clear hg_ hnew_;(first|rw[<-B0.out]at E0|(simp only[Int.reduceToNat]at E0;rw[<-B0.out]at E0));have G0:=lR E0;replace HB:=bs hb;clear hb E0))
  repeat(go_quiet(fail);try go_wp2_with(first|((with_reducible refine El (N:=9) rfl ?_);refine Kd.R_make ki _ 3 rfl (N:=9) rfl 22 _ _ rfl 24 rfl rfl Tryz.underlying22 (.int .i64 0) 8 Je rfl kd_ ko_ 0 (ok:=fun _=>True) (okp:=fun _=>True) rfl (fun _ hk=>hk) trivial ko_ ko_ (Below.refl _ _) (Nat.le_refl _) ?_;intro C0 D0 E0 hb hg_ hnew_;clear hg_ hnew_;(first|rw[<-B0.out]at E0|(simp only[Int.reduceToNat]at E0;rw[<-B0.out]at E0));have G0:=lR E0;replace HB:=bs hb;clear hb E0)))
  go_loopg [6] k (fun kq J0 w'=>∃(K0:LI) (L0:Int),J0= .int .i64 L0/\Aside0 (Cm.l0 kq c0 g0 K0 L0=some r)/\Aside0 (kq<=k)/\Aside0 (Kd.R ki 3 w' w.heap.size (fun _=>True) C0 K0)/\Aside0 (Below w.heap.size w w'))
  case atStart=>exact⟨(A0),(1),(sd),H',⟨Nat.le_refl _⟩,⟨kR G0⟩,⟨bl⟩⟩
  case round=>
   clear H';obtain⟨K0,L0,rfl,HA,HK1,M0,HB⟩:=hrel;obtain⟨k1,rfl,H⟩:=kz gk HA;clear HA;simp only[Cm.l0]at H;replace H:=qe H;obtain⟨N0,H⟩|⟨N0,H⟩:=H
   .obtain⟨P0,Q0⟩:∃j_:Int,(wrap64 (L0-1))=j_:=⟨_,rfl⟩;(first|rw[Q0]at H|(try simp only[Q0]at H));have R0:(IntKind.i64.wrap (L0-1))=P0:=(Bv _).trans Q0;replace H:=qd H;obtain⟨U0,H⟩:=H;replace H:=qd H;obtain⟨V0,H⟩:=H;have H':=qa H;clear H;obtain⟨W0,⟨⟩,X0,Y0,a1⟩:=ai r0.out (P0);(try replace X0:=(HB.out.cell (World.block_lt_of_cell? w _ X0)).trans X0);go_wp2
    repeat(go_quiet(fail);try go_wp2)
    go_loopg [7,8] k1 (fun kq b1 c1 w'=>∃(d1:Int) (e1:Int),b1= .int .i64 d1/\c1= .int .i64 e1/\Aside0 (Cm.l1 kq c0 g0 K0 L0 d1 e1=some r)/\Aside0 (kq<=k1)/\Aside0 (Kd.R ki 3 w' w.heap.size (fun _=>True) C0 K0)/\Aside0 (Below w.heap.size w w'))
    case atStart=>exact⟨(rd c0 (P0)),(2),(by first|rfl|(simp;done)|(simp only[<-Q0] <;> (first|rfl|simp))|(simp[*];done)),(sd),H',⟨Nat.le_refl _⟩,⟨kR M0⟩,⟨bl⟩⟩
    case round=>
     clear H';obtain⟨d1,e1,rfl,rfl,HA,HK2,M0,HB⟩:=hrel;obtain⟨k2,rfl,H⟩:=kz gk HA;clear HA;simp only[Cm.l1]at H;replace H:=qe H;obtain⟨g1,H⟩|⟨g1,H⟩:=H
     .by_cases j1:e1=0
      .rw[if_pos j1]at H;exact absurd H (by simp)
      .rw[if_neg j1]at H;have n1:(e1==0)=false:=beq_eq_false_iff_ne.mpr j1;have p1:(e1 != 0)=true:=bne_iff_ne.mpr j1;replace H:=qq H;obtain⟨q1,r1,H⟩|⟨s1,q1,r1,H⟩:=H
       .obtain⟨t1,v1⟩:∃j_:Int,(wrap64 (e1-1))=j_:=⟨_,rfl⟩;(first|rw[v1]at H|(try simp only[v1]at H));have w1:(IntKind.i64.wrap (e1-1))=t1:=(Bv _).trans v1;replace H:=qd H;obtain⟨x1,H⟩:=H;replace H:=qd H;obtain⟨y1,H⟩:=H;obtain⟨A1,B1⟩:∃j_:Int,(wrap64 ((wrap64 (Int.tdiv L0 e1))-1))=j_:=⟨_,rfl⟩;(first|rw[B1]at H|(try simp only[B1]at H));have C1:(IntKind.i64.wrap ((wrap64 (Int.tdiv L0 e1))-1))=A1:=(Bv _).trans B1;replace H:=qd H;obtain⟨D1,H⟩:=H;replace H:=qd H;obtain⟨E1,H⟩:=H;have H':=qa H;clear H;obtain⟨G1,⟨⟩,J1,K1,L1⟩:=ai t0.out (t1);(try replace J1:=(HB.out.cell (World.block_lt_of_cell? w _ J1)).trans J1);obtain⟨M1,N1,rfl⟩:=Kd.An M0.out;obtain⟨P1,⟨⟩,Q1,R1,U1⟩:=ai (Kd.Ab M0.out).2.2 (A1);go_wp2
        repeat(go_quiet(fail);try go_wp2)
        go_roundg k2
        case measure=>have:=HK1.out;have:=HK2.out;omega
        case rel=>exact⟨(wrap64 (d1-(wrap64 ((rd g0 (t1))*(rd K0 (A1)))))),(wrap64 (e1+1)),(by first|rfl|(simp;done)|(simp only[<-v1,<-B1] <;> (first|rfl|simp))|(simp[*];done)),(sd),H',⟨by have:=HK1.out;have:=HK2.out;omega⟩,⟨kR M0⟩,⟨bl⟩⟩
       .have H':=qa H;clear H;go_wp2
        repeat(go_quiet(fail);try go_wp2)
        go_roundg k2
        case measure=>have:=HK1.out;have:=HK2.out;omega
        case rel=>exact⟨(d1),(wrap64 (e1+1)),(sd),(sd),H',⟨by have:=HK1.out;have:=HK2.out;omega⟩,⟨kR M0⟩,⟨bl⟩⟩
     .replace H:=qL 0 H;obtain⟨V1,W1,H⟩:=H;obtain⟨X1,Y1⟩:∃j_:Int,(wrap64 (L0-1))=j_:=⟨_,rfl⟩;(try(have hq_:X1=P0:=Y1.symm.trans Q0;subst hq_));(first|rw[Y1]at H|(try simp only[Y1]at H));have a2:(IntKind.i64.wrap (L0-1))=X1:=(Bv _).trans Y1;replace H:=qd H;obtain⟨b2,H⟩:=H;replace H:=qd H;obtain⟨c2,H⟩:=H;replace H:=qs H;obtain⟨d2,e2,H⟩:=H;replace H:=qb H;obtain⟨g2,j2,H⟩:=H;replace H:=qc H;obtain⟨rfl,H⟩|⟨rfl,H⟩:=H
      .have H':=qa H;clear H;obtain⟨l2,⟨⟩,n2,qi555,p2,q2⟩:=ain 0 t0.out 0;(try rw[Addr.add_zero']at n2);(try replace n2:=(HB.out.cell (World.block_lt_of_cell? w _ n2)).trans n2);have r2:0<=((X1):Int):=qo;have s2:((X1):Int)<((K0.length:Int):Int):=qo;obtain⟨t2,v2,w2,x2,gl24,cl24,HG24⟩:=Kd.R_form M0.out ko_;(first|cases w2|(injection w2 with ea_ en_ ec_;(first|subst ea_|(injection ea_ with ea_;subst ea_));subst ec_;clear en_));have GB24:=qa x2;have GG24:=qa HG24;clear x2 gl24 HG24;obtain⟨y2,A2⟩:=Kd.Jj 0 M0.out ((X1):Int) r2 s2;replace r2:=eq_true r2;replace s2:=eq_true s2;have HP27:=Kd.Ja M0.out ((X1):Int) (wrap64 (d1*(rd g0 0)))
       go_wp2_with(first|((with_reducible refine Gm (t:=3) (p:=51) rfl ?_);(try(rw[Hk wr];generalize hq_:World.drewN wr _=wr;have n0_:=qa (Kd.R_at hq_ M0.out);have n1_:=qa (Kg hq_ HB.out);clear hq_ M0 HB;have M0:=n0_;have HB:=n1_;clear n0_ n1_;(try(have HP27:=Kd.Ja M0.out ((X1):Int) (wrap64 (d1*(rd g0 0)))))));refine Ga (t:=3) (p:=51) (v:=?vo_w28) (w1:=(wr.setCell ⟨t2,((X1):Int).toNat,none⟩ (.int .i64 (wrap64 (d1*(rd g0 0)))))) ?hg ?ho ?hn ?hr ?_;(case ho=>rfl);(case hg=>rfl);(case hn=>rfl);(case hr=>exact gr);intro B2 hw;have hg:wr.grownBy B2 (some t2):=(by rw[hw];exact HP27.2);have hp_:Kd.R ki 3 B2 w.heap.size (fun _=>True) (.slice (some ⟨t2,0,none⟩) K0.length v2) d2:=(by rw[hw,e2.out];exact HP27.1);clear HP27;replace M0:=qa (hp_);replace HB:=qa ((by rw[hw];exact Fw (HB.out) GB24.out:Below w.heap.size w B2));clear hg hw hp_;have ql557:(((X1):Int)<((K0.length:Int):Int))=True:=eq_true (qo);obtain⟨C2,D2,E2⟩:=aj (Kd.Ab M0.out).2.2 (X1) (q:=(by have h_:((X1):Int)<((K0.length:Int):Int):=qo;first|(have e_:=(Kd.Ab M0.out).1;omega)|simpa only[e2.out,List.length_set] using h_));(first|simp only[add_plain]at C2|simp only[Ji]at C2|simp only[Addr.add,Nat.zero_add]at C2|skip))|(go_at_call 84;(with_reducible refine gm (Ar.c (rd d2 (X1)) (-1000000000) 1000000000 true _ j2.out) fun nd=>?_);(try exact dn)))
       repeat(go_quiet(first|(go_at_call 84;(with_reducible refine gm (Ar.c (rd d2 (X1)) (-1000000000) 1000000000 true _ j2.out) fun nd=>?_);(try exact dn)));try go_wp2_with(first|((with_reducible refine Gm (t:=3) (p:=51) rfl ?_);(try(rw[Hk wr];generalize hq_:World.drewN wr _=wr;have n0_:=qa (Kd.R_at hq_ M0.out);have n1_:=qa (Kg hq_ HB.out);clear hq_ M0 HB;have M0:=n0_;have HB:=n1_;clear n0_ n1_;(try(have HP27:=Kd.Ja M0.out ((X1):Int) (wrap64 (d1*(rd g0 0)))))));refine Ga (t:=3) (p:=51) (v:=?vo_w28) (w1:=(wr.setCell ⟨t2,((X1):Int).toNat,none⟩ (.int .i64 (wrap64 (d1*(rd g0 0)))))) ?hg ?ho ?hn ?hr ?_;(case ho=>rfl);(case hg=>rfl);(case hn=>rfl);(case hr=>exact gr);intro B2 hw;have hg:wr.grownBy B2 (some t2):=(by rw[hw];exact HP27.2);have hp_:Kd.R ki 3 B2 w.heap.size (fun _=>True) (.slice (some ⟨t2,0,none⟩) K0.length v2) d2:=(by rw[hw,e2.out];exact HP27.1);clear HP27;replace M0:=qa (hp_);replace HB:=qa ((by rw[hw];exact Fw (HB.out) GB24.out:Below w.heap.size w B2));clear hg hw hp_;have ql557:(((X1):Int)<((K0.length:Int):Int))=True:=eq_true (qo);obtain⟨C2,D2,E2⟩:=aj (Kd.Ab M0.out).2.2 (X1) (q:=(by have h_:((X1):Int)<((K0.length:Int):Int):=qo;first|(have e_:=(Kd.Ab M0.out).1;omega)|simpa only[e2.out,List.length_set] using h_));(first|simp only[add_plain]at C2|simp only[Ji]at C2|simp only[Addr.add,Nat.zero_add]at C2|skip))|(go_at_call 84;(with_reducible refine gm (Ar.c (rd d2 (X1)) (-1000000000) 1000000000 true _ j2.out) fun nd=>?_);(try exact dn))))
       go_roundg k2
       case measure=>have:=HK1.out;have:=HK2.out;omega
       case rel=>exact⟨(d2),(wrap64 (L0+1)),(sd),H',⟨by have:=HK1.out;have:=HK2.out;omega⟩,⟨kR M0⟩,⟨bl⟩⟩
      .obtain⟨G2,hy_⟩:∃y_:LI,y_=(([]:LI)):=⟨_,rfl⟩;replace H:(some G2)=some r:=yh;have J2:=qa hy_;clear hy_;obtain rfl:=sj H;obtain⟨l2,⟨⟩,n2,qi555,p2,q2⟩:=ain 0 t0.out 0;(try rw[Addr.add_zero']at n2);(try replace n2:=(HB.out.cell (World.block_lt_of_cell? w _ n2)).trans n2);have r2:0<=((X1):Int):=qo;have s2:((X1):Int)<((K0.length:Int):Int):=qo;obtain⟨t2,v2,w2,x2,gl24,cl24,HG24⟩:=Kd.R_form M0.out ko_;(first|cases w2|(injection w2 with ea_ en_ ec_;(first|subst ea_|(injection ea_ with ea_;subst ea_));subst ec_;clear en_));have GB24:=qa x2;have GG24:=qa HG24;clear x2 gl24 HG24;obtain⟨y2,A2⟩:=Kd.Jj 0 M0.out ((X1):Int) r2 s2;replace r2:=eq_true r2;replace s2:=eq_true s2;have HP29:=Kd.Ja M0.out ((X1):Int) (wrap64 (d1*(rd g0 0)))
       go_wp2_with(first|((with_reducible refine Gm (t:=3) (p:=51) rfl ?_);(try(rw[Hk wr];generalize hq_:World.drewN wr _=wr;have n0_:=qa (Kd.R_at hq_ M0.out);have n1_:=qa (Kg hq_ HB.out);clear hq_ M0 HB;have M0:=n0_;have HB:=n1_;clear n0_ n1_;(try(have HP29:=Kd.Ja M0.out ((X1):Int) (wrap64 (d1*(rd g0 0)))))));refine Ga (t:=3) (p:=51) (v:=?vo_w30) (w1:=(wr.setCell ⟨t2,((X1):Int).toNat,none⟩ (.int .i64 (wrap64 (d1*(rd g0 0)))))) ?hg ?ho ?hn ?hr ?_;(case ho=>rfl);(case hg=>rfl);(case hn=>rfl);(case hr=>exact gr);intro K2 hw;have hg:wr.grownBy K2 (some t2):=(by rw[hw];exact HP29.2);have hp_:Kd.R ki 3 K2 w.heap.size (fun _=>True) (.slice (some ⟨t2,0,none⟩) K0.length v2) d2:=(by rw[hw,e2.out];exact HP29.1);clear HP29;replace M0:=qa (hp_);replace HB:=qa ((by rw[hw];exact Fw (HB.out) GB24.out:Below w.heap.size w K2));clear hg hw hp_;have ql557:(((X1):Int)<((K0.length:Int):Int))=True:=eq_true (qo);obtain⟨C2,D2,E2⟩:=aj (Kd.Ab M0.out).2.2 (X1) (q:=(by have h_:((X1):Int)<((K0.length:Int):Int):=qo;first|(have e_:=(Kd.Ab M0.out).1;omega)|simpa only[e2.out,List.length_set] using h_));(first|simp only[add_plain]at C2|simp only[Ji]at C2|simp only[Addr.add,Nat.zero_add]at C2|skip))|(go_at_call 84;(with_reducible refine gm (Ar.c (rd d2 (X1)) (-1000000000) 1000000000 false _ j2.out) fun nd=>?_);(try exact dn))|(refine rli .i64 3 59 J2.out fun L2 M2 N2 hb=>?_;have P2:=lR (Kd.Cl N2 (Kd.R_lt (kR M0)));replace M0:=eR M0 (Kd.Av N2) hb;replace HB:=bs hb;clear hb N2))
       repeat(go_quiet(first|(go_at_call 84;(with_reducible refine gm (Ar.c (rd d2 (X1)) (-1000000000) 1000000000 false _ j2.out) fun nd=>?_);(try exact dn)));try go_wp2_with(first|((with_reducible refine Gm (t:=3) (p:=51) rfl ?_);(try(rw[Hk wr];generalize hq_:World.drewN wr _=wr;have n0_:=qa (Kd.R_at hq_ M0.out);have n1_:=qa (Kg hq_ HB.out);clear hq_ M0 HB;have M0:=n0_;have HB:=n1_;clear n0_ n1_;(try(have HP29:=Kd.Ja M0.out ((X1):Int) (wrap64 (d1*(rd g0 0)))))));refine Ga (t:=3) (p:=51) (v:=?vo_w30) (w1:=(wr.setCell ⟨t2,((X1):Int).toNat,none⟩ (.int .i64 (wrap64 (d1*(rd g0 0)))))) ?hg ?ho ?hn ?hr ?_;(case ho=>rfl);(case hg=>rfl);(case hn=>rfl);(case hr=>exact gr);intro K2 hw;have hg:wr.grownBy K2 (some t2):=(by rw[hw];exact HP29.2);have hp_:Kd.R ki 3 K2 w.heap.size (fun _=>True) (.slice (some ⟨t2,0,none⟩) K0.length v2) d2:=(by rw[hw,e2.out];exact HP29.1);clear HP29;replace M0:=qa (hp_);replace HB:=qa ((by rw[hw];exact Fw (HB.out) GB24.out:Below w.heap.size w K2));clear hg hw hp_;have ql557:(((X1):Int)<((K0.length:Int):Int))=True:=eq_true (qo);obtain⟨C2,D2,E2⟩:=aj (Kd.Ab M0.out).2.2 (X1) (q:=(by have h_:((X1):Int)<((K0.length:Int):Int):=qo;first|(have e_:=(Kd.Ab M0.out).1;omega)|simpa only[e2.out,List.length_set] using h_));(first|simp only[add_plain]at C2|simp only[Ji]at C2|simp only[Addr.add,Nat.zero_add]at C2|skip))|(go_at_call 84;(with_reducible refine gm (Ar.c (rd d2 (X1)) (-1000000000) 1000000000 false _ j2.out) fun nd=>?_);(try exact dn))|(refine rli .i64 3 59 J2.out fun L2 M2 N2 hb=>?_;have P2:=lR (Kd.Cl N2 (Kd.R_lt (kR M0)));replace M0:=eR M0 (Kd.Av N2) hb;replace HB:=bs hb;clear hb N2)))
       go_ret;exact⟨_,by first|rfl|(simp[Ca,Bz];exact⟨rfl,rfl⟩)|(simp[Ca,Bz] <;> rfl)|(simp only[<-Q0,<-Y1];first|rfl|(simp[Ca,Bz] <;> rfl))|(simp[*,Ca,Bz] <;> rfl),mR P2 (fun _ hk=>trivial),bl⟩
   .obtain rfl:=sj H;go_wp2
    repeat(go_quiet(fail);try go_wp2)
    go_ret;exact⟨_,er,kR M0,bl⟩
 .rw[if_neg w0]at H;exact absurd H (by simp)
attribute [local go_sem high] eqA55
def Ha.f (k:Nat) (a0:LI) (b0:LI):Option (LI×Bool):=(Ba.f k b0 a0).bind fun c0=>(if c0.2=true then((Jd.f k b0).bind fun d0=>(if d0=true then((Cm.f k a0 b0).bind fun e0=>(some (e0,((e0.length:Int)==24))))else(some ((([]:LI)),false))))else(some ((([]:LI)),false)))
theorem Ha.c (k:Nat) (a0:OA) (b0:Nat) (c0:LI) (d0:OA) (e0:Nat) (g0:LI) (j0:LI) (l0:Bool) (w:World) (n0:Kd.C ki w a0 c0.length c0) (p0:c0.length<=b0) (q0:Kd.C ki w d0 g0.length g0) (r0:g0.length<=e0) (h:Ha.f k c0 g0=some (j0,l0)):
  Calls Tryz.prog 154 #[.slice a0 c0.length b0,.slice d0 g0.length e0] w fun e w'=>∃v0_:Value,e= .returned (.tuple #[v0_,.bool l0])/\Kd.R ki 3 w' w.heap.size (fun _=>True) v0_ j0/\Below w.heap.size w w':=by
 have s0:=qa n0;have t0:=qa p0;clear n0 p0;have v0:=qa q0;have w0:=qa r0;clear q0 r0;have HB:=qa (Below.refl w.heap.size w);have H:=h;unfold Ha.f at H;clear h;replace H:=qb H;obtain⟨⟨x0,y0⟩,A0,H⟩:=H;(try dsimp only at H);replace H:=qc H;obtain⟨rfl,H⟩|⟨rfl,H⟩:=H
 .replace H:=qb H;obtain⟨B0,C0,H⟩:=H;replace H:=qc H;obtain⟨rfl,H⟩|⟨rfl,H⟩:=H
  .replace H:=qb H;obtain⟨D0,E0,H⟩:=H;simp only[Option.some.injEq,Prod.mk.injEq]at H;obtain⟨rfl,rfl⟩:=H
   go_enter Tryz.func154,Tryz.ntmps154
   go_wp2_with(first|(refine ge_ 12 Tryz.func121 (Ba.c k _ _ g0 _ _ c0 x0 true _ (cx v0.out) w0.out (cx s0.out) t0.out A0.out) fun G0 J0 K0 hb=>?_;have L0:=lR K0;replace HB:=bs hb)|(go_at_call 179;(with_reducible refine(Jd.c k _ _ g0 true _ ?M0 ?N0 C0.out).mono ?_);(case M0=>exact cx (Kd.Ai v0.out HB.out));(case N0=>exact w0.out);rintro e w' ⟨rfl,⟨nd,rfl⟩⟩)|(refine ge_ 25 Tryz.func180 (Cm.c k _ _ c0 _ _ g0 D0 _ (cx (Kd.Ai s0.out (bl))) t0.out (cx (Kd.Ai v0.out (bl))) w0.out E0.out) fun P0 Q0 K0 hb=>?_;have R0:=lR (Kd.Cl K0 (Kd.R_lt (kR L0)));replace L0:=eR L0 (Kd.Av K0) hb;replace HB:=bs hb;obtain⟨U0,V0,rfl⟩:=Kd.An R0.out))
   go_ret2;exact⟨_,er,mR R0 (fun _ hk=>trivial),bl⟩
  .obtain⟨W0,hy_⟩:∃y_:LI,y_=(([]:LI)):=⟨_,rfl⟩;replace H:(some (W0,false))=some (j0,l0):=yh;have X0:=qa hy_;clear hy_;simp only[Option.some.injEq,Prod.mk.injEq]at H;obtain⟨rfl,rfl⟩:=H
   go_enter Tryz.func154,Tryz.ntmps154
   go_wp2_with(first|(refine ge_ 12 Tryz.func121 (Ba.c k _ _ g0 _ _ c0 x0 true _ (cx v0.out) w0.out (cx s0.out) t0.out A0.out) fun G0 Y0 K0 hb=>?_;have L0:=lR K0;replace HB:=bs hb)|(go_at_call 179;(with_reducible refine(Jd.c k _ _ g0 false _ ?M0 ?N0 C0.out).mono ?_);(case M0=>exact cx (Kd.Ai v0.out HB.out));(case N0=>exact w0.out);rintro e w' ⟨rfl,⟨nd,rfl⟩⟩)|(refine rli .i64 3 22 X0.out fun a1 b1 c1 hb=>?_;have d1:=lR (Kd.Cl c1 (Kd.R_lt (kR L0)));replace L0:=eR L0 (Kd.Av c1) hb;replace HB:=bs hb;clear hb c1))
   go_ret2;exact⟨_,er,mR d1 (fun _ hk=>trivial),bl⟩
 .obtain⟨e1,hy_⟩:∃y_:LI,y_=(([]:LI)):=⟨_,rfl⟩;replace H:(some (e1,false))=some (j0,l0):=yh;have g1:=qa hy_;clear hy_;simp only[Option.some.injEq,Prod.mk.injEq]at H;obtain⟨rfl,rfl⟩:=H
  go_enter Tryz.func154,Tryz.ntmps154
  go_wp2_with(first|(refine ge_ 12 Tryz.func121 (Ba.c k _ _ g0 _ _ c0 x0 false _ (cx v0.out) w0.out (cx s0.out) t0.out A0.out) fun G0 j1 K0 hb=>?_;have L0:=lR K0;replace HB:=bs hb)|(refine rli .i64 3 22 g1.out fun l1 n1 p1 hb=>?_;have q1:=lR (Kd.Cl p1 (Kd.R_lt (kR L0)));replace L0:=eR L0 (Kd.Av p1) hb;replace HB:=bs hb;clear hb p1))
  go_ret2;exact⟨_,er,mR q1 (fun _ hk=>trivial),bl⟩

def Ia.f (k:Nat) (a0:LI):Option (LI×Bool):=(Bw.f k 0).bind fun b0=>((Ha.f k b0 a0).bind fun c0=>(some (c0.1,c0.2)))
theorem Ia.c (k:Nat) (a0:OA) (b0:Nat) (c0:LI) (d0:LI) (e0:Bool) (w:World) (g0:Kd.C ki w a0 c0.length c0) (j0:c0.length<=b0) (h:Ia.f k c0=some (d0,e0)):
  Calls Tryz.prog 124 #[.slice a0 c0.length b0] w fun e w'=>∃v0_:Value,e= .returned (.tuple #[v0_,.bool e0])/\Kd.R ki 3 w' w.heap.size (fun _=>True) v0_ d0/\Below w.heap.size w w':=by
 have l0:=qa g0;have n0:=qa j0;clear g0 j0;have HB:=qa (Below.refl w.heap.size w);have H:=h;unfold Ia.f at H;clear h;replace H:=qb H;obtain⟨p0,q0,H⟩:=H;replace H:=qb H;obtain⟨⟨r0,s0⟩,t0,H⟩:=H;(try dsimp only at H);simp only[Option.some.injEq,Prod.mk.injEq]at H;obtain⟨rfl,rfl⟩:=H
 go_enter Tryz.func124,Tryz.ntmps124
 go_wp2_with(first|(refine ge_ 4 Tryz.func122 (Bw.c k 0 p0 _ q0.out) fun v0 w0 x0 hb=>?_;have y0:=lR x0;replace HB:=bs hb;obtain⟨A0,B0,rfl⟩:=Kd.An y0.out)|(refine ge_ 6 Tryz.func154 (Ha.c k _ _ p0 _ _ c0 r0 s0 _ (cx (Kd.Ab y0.out).2.2) ((Kd.Ab y0.out).2.1) (cx (Kd.Ai l0.out HB.out)) n0.out t0.out) fun C0 D0 x0 hb=>?_;have E0:=lR (Kd.Cl x0 (Kd.R_lt (kR y0)));replace y0:=eR y0 (Kd.Av x0) hb;replace HB:=bs hb))
 go_ret2;exact⟨_,er,mR E0 (fun _ hk=>trivial),bl⟩

mutual
def Bq.j0:Nat->LI->Bool->Int->Int->Int->Option (LI×Bool)
 |0,_,_,_,_,_=>none
 |k+1,a0,b0,c0,d0,e0=>if b0=true then((Bw.f k d0).bind fun g0=>((Ba.f k a0 g0).bind fun l0=>(some (l0.1,l0.2))))else(if c0=1 then(Bq.j1 k a0 (e0==0) c0 d0 e0)else(Bq.j1 k a0 false c0 d0 e0))
def Bq.j1:Nat->LI->Bool->Int->Int->Int->Option (LI×Bool)
 |0,_,_,_,_,_=>none
 |k+1,a0,n0,c0,d0,e0=>if n0=true then((Bw.f k d0).bind fun p0=>((Am.f k a0 p0).bind fun q0=>(some (q0.1,q0.2))))else(if(c0==2&&(d0==0&&(e0==0)))=true then((Ia.f k a0).bind fun r0=>(some (r0.1,r0.2)))else(if c0=3 then((Ar.f d0 1 24).bind fun s0=>(if s0=true then((Ar.f e0 0 9999).bind fun t0=>(if t0=true then((some (([]:LI):LI)).bind fun v0=>(if v0.length+a0.length<17592186044416 then((some (v0++a0:LI)).bind fun w0=>(if 0<=(wrap64 (d0-1))then(if(wrap64 (d0-1))<(w0.length:Int)then(some ((w0.set ((wrap64 (d0-1)):Int).toNat e0),true))else(none))else(none)))else(none)))else(some ((([]:LI)),false))))else(some ((([]:LI)),false))))else(some ((([]:LI)),false))))
end

def Bq.f (k:Nat) (a0:LI) (b0:Int) (c0:Int) (d0:Int):Option (LI×Bool):=if b0=0 then(Bq.j0 k a0 (d0==0) b0 c0 d0)else(Bq.j0 k a0 false b0 c0 d0)
theorem Bq.c (k:Nat) (a0:OA) (b0:Nat) (c0:LI) (d0:Int) (e0:Int) (g0:Int) (l0:LI) (n0:Bool) (w:World) (p0:Kd.C ki w a0 c0.length c0) (q0:c0.length<=b0) (h:Bq.f k c0 d0 e0 g0=some (l0,n0)):
  Calls Tryz.prog 80 #[.slice a0 c0.length b0,.agg #[.int .i64 d0,.int .i64 e0,.int .i64 g0]] w fun e w'=>∃v0_:Value,e= .returned (.tuple #[v0_,.bool n0])/\Kd.R ki 3 w' w.heap.size (fun _=>True) v0_ l0/\Below w.heap.size w w':=by
 have r0:=Tryz.underlying55;have s0:=qa p0;have t0:=qa q0;clear p0 q0;have HB:=qa (Below.refl w.heap.size w);have H:=h;unfold Bq.f at H;clear h;have v0:=qa H;clear H
 go_enter Tryz.func80,Tryz.ntmps80
 go_upto_region 1 with(go_big_may;first|(refine bx 3 #[.int .i64 d0,.int .i64 e0,.int .i64 g0] 55 ?_;intro w0 hg x0 hbox hb;have y0:=qa (hbox);have A0:=gw hg;replace HB:=bs hb;clear hb hbox hg))
 (try simp only[Act.put,sA,sZ,sS])
 go_cut [7] (fun B0 wc=>∃(kq:Nat) (C0:Bool),B0= .bool C0/\Aside0 (Bq.j0 kq c0 C0 d0 e0 g0=some (l0,n0))/\Aside0 (kq<=k)/\Aside0 (wc.heap[w0]? =some (.cells #[.int .i64 d0,.int .i64 e0,.int .i64 g0] 55 (0,0)))/\Aside0 (Below w.heap.size w wc))
 case first=>
  have H:=v0.out;clear v0;replace H:=qq H;obtain⟨D0,E0,H⟩|⟨G0,D0,E0,H⟩:=H
  ·(first|rw[D0]|(simp only[Bv,Fc];rw[D0])|skip);have H':=qa H;clear H;obtain⟨J0,K0,L0,M0,N0,P0⟩:=qk3 y0;go_wp2;go_meet
   case rel=>exact⟨_,((g0==0)),(sd),H',⟨by first|omega|exact Nat.le_refl _⟩,⟨bk⟩,⟨bl⟩⟩
  ·(first|rw[D0]|(simp only[Bv,Fc];rw[D0])|skip);have H':=qa H;clear H;obtain⟨Q0,R0,U0,V0,W0,X0⟩:=qk3 y0;go_wp2;go_meet
   case rel=>exact⟨_,(false),(sd),H',⟨by first|omega|exact Nat.le_refl _⟩,⟨bk⟩,⟨bl⟩⟩
 case rest=>
  clear v0;obtain⟨kq,C0,rfl,HA,Y0,y0,HB⟩:=hcut;obtain⟨a1,rfl,H⟩:=kz kq HA;clear HA;simp only[Bq.j0]at H;replace H:=qc H;obtain⟨rfl,H⟩|⟨rfl,H⟩:=H
  .replace H:=qb H;obtain⟨b1,c1,H⟩:=H;replace H:=qb H;obtain⟨⟨d1,e1⟩,g1,H⟩:=H;(try dsimp only at H);simp only[Option.some.injEq,Prod.mk.injEq]at H;obtain⟨rfl,rfl⟩:=H;obtain⟨l1,n1,p1,q1,r1,s1⟩:=qk3 y0
   go_wp2_with(first|(refine ge_ 19 Tryz.func122 (Bw.c a1 e0 b1 _ c1.out) fun t1 v1 w1 hb=>?_;have x1:=lR w1;replace y0:=qbb y0 hb;replace HB:=bs hb;obtain⟨y1,A1,rfl⟩:=Kd.An x1.out)|(refine ge_ 20 Tryz.func121 (Ba.c a1 _ _ c0 _ _ b1 d1 e1 _ (cx (Kd.Ai s0.out HB.out)) t0.out (cx (Kd.Ab x1.out).2.2) ((Kd.Ab x1.out).2.1) g1.out) fun B1 C1 w1 hb=>?_;have D1:=lR (Kd.Cl w1 (Kd.R_lt (kR x1)));replace x1:=eR x1 (Kd.Av w1) hb;replace y0:=qbb y0 hb;replace HB:=bs hb))
   go_ret2;exact⟨_,er,mR D1 (fun _ hk=>trivial),bl⟩
  .have E1:=qa H;clear H
   go_upto_region 3 with(fail)
   go_cut [23] (fun G1 wc=>∃(kq:Nat) (J1:Bool),G1= .bool J1/\Aside0 (Bq.j1 kq c0 J1 d0 e0 g0=some (l0,n0))/\Aside0 (kq<=a1)/\Aside0 (wc.heap[w0]? =some (.cells #[.int .i64 d0,.int .i64 e0,.int .i64 g0] 55 (0,0)))/\Aside0 (Below w.heap.size w wc))
   case first=>
    have H:=E1.out;clear E1;replace H:=qq H;obtain⟨K1,L1,H⟩|⟨M1,K1,L1,H⟩:=H
    ·(first|rw[K1]|(simp only[Bv,Fc];rw[K1])|skip);have H':=qa H;clear H;obtain⟨N1,P1,Q1,R1,U1,V1⟩:=qk3 y0;go_wp2;go_meet
     case rel=>exact⟨_,((g0==0)),(sd),H',⟨by have:=Y0.out;first|omega|exact Nat.le_refl _⟩,⟨bk⟩,⟨bl⟩⟩
    ·(first|rw[K1]|(simp only[Bv,Fc];rw[K1])|skip);have H':=qa H;clear H;obtain⟨W1,X1,Y1,a2,b2,c2⟩:=qk3 y0;go_wp2;go_meet
     case rel=>exact⟨_,(false),(sd),H',⟨by have:=Y0.out;first|omega|exact Nat.le_refl _⟩,⟨bk⟩,⟨bl⟩⟩
   case rest=>
    clear E1;obtain⟨kq,J1,rfl,HA,d2,y0,HB⟩:=hcut;obtain⟨e2,rfl,H⟩:=kz kq HA;clear HA;simp only[Bq.j1]at H;replace H:=qc H;obtain⟨rfl,H⟩|⟨rfl,H⟩:=H
    .replace H:=qb H;obtain⟨g2,j2,H⟩:=H;replace H:=qb H;obtain⟨⟨l2,n2⟩,p2,H⟩:=H;(try dsimp only at H);simp only[Option.some.injEq,Prod.mk.injEq]at H;obtain⟨rfl,rfl⟩:=H;obtain⟨q2,r2,s2,t2,v2,w2⟩:=qk3 y0
     go_wp2_with(first|(refine ge_ 35 Tryz.func122 (Bw.c e2 e0 g2 _ j2.out) fun x2 y2 w1 hb=>?_;have A2:=lR w1;replace y0:=qbb y0 hb;replace HB:=bs hb;obtain⟨B2,C2,rfl⟩:=Kd.An A2.out)|(refine ge_ 36 Tryz.func123 (Am.c e2 _ _ c0 _ _ g2 l2 n2 _ (cx (Kd.Ai s0.out HB.out)) t0.out (cx (Kd.Ab A2.out).2.2) ((Kd.Ab A2.out).2.1) p2.out) fun D2 E2 w1 hb=>?_;have G2:=lR (Kd.Cl w1 (Kd.R_lt (kR A2)));replace A2:=eR A2 (Kd.Av w1) hb;replace y0:=qbb y0 hb;replace HB:=bs hb))
     go_ret2;exact⟨_,er,mR G2 (fun _ hk=>trivial),bl⟩
    .by_cases J2:(d0==2&&(e0==0&&(g0==0)))=true
     .rw[if_pos J2]at H;have K2:(d0==2&&(e0==0&&(g0==0)))=true:=J2;(try(have L2:decide (d0=2&&(e0==0&&(g0==0)))=true:=by simpa using J2));(try(have M2:(d0==2&&(e0==0&&(g0==0)))=true:=by simpa using J2));clear J2;replace H:=qb H;obtain⟨⟨N2,P2⟩,Q2,H⟩:=H;(try dsimp only at H);simp only[Option.some.injEq,Prod.mk.injEq]at H;obtain⟨rfl,rfl⟩:=H;obtain⟨R2,U2,V2,W2,X2,Y2⟩:=qk3 y0
      go_wp2_with(first|(refine ge_ 44 Tryz.func124 (Ia.c e2 _ _ c0 N2 P2 _ (cx (Kd.Ai s0.out HB.out)) t0.out Q2.out) fun a3 b3 w1 hb=>?_;have c3:=lR w1;replace y0:=qbb y0 hb;replace HB:=bs hb))
      go_ret2;exact⟨_,er,kR c3,bl⟩
     .rw[if_neg J2]at H;(have K2:(d0==2&&(e0==0&&(g0==0)))=false:=by simpa using J2);(try(have L2:decide (d0=2&&(e0==0&&(g0==0)))=false:=by simpa using J2));(try(have M2:(d0==2&&(e0==0&&(g0==0)))=false:=by simpa using J2));(try(have d3:¬(d0=2&&(e0==0&&(g0==0))):=by simpa using J2));clear J2;replace H:=qq H;obtain⟨e3,g3,H⟩|⟨j3,e3,g3,H⟩:=H
      .replace H:=qb H;obtain⟨l3,n3,H⟩:=H;replace H:=qc H;obtain⟨rfl,H⟩|⟨rfl,H⟩:=H
       .replace H:=qb H;obtain⟨p3,q3,H⟩:=H;replace H:=qc H;obtain⟨rfl,H⟩|⟨rfl,H⟩:=H
        .replace H:=qs H;obtain⟨r3,s3,H⟩:=H;replace H:=qn H;obtain⟨t3,H⟩:=H;have v3:=qa t3;clear t3;replace H:=qs H;obtain⟨w3,x3,H⟩:=H;obtain⟨y3,A3⟩:∃j_:Int,(wrap64 (e0-1))=j_:=⟨_,rfl⟩;(first|rw[A3]at H|(try simp only[A3]at H));(try rw[A3]at n3);(try rw[A3]at q3);have B3:(IntKind.i64.wrap (e0-1))=y3:=(Bv _).trans A3;replace H:=qd H;obtain⟨C3,H⟩:=H;replace H:=qd H;obtain⟨D3,H⟩:=H;obtain⟨E3,hy_⟩:∃y_:LI,y_=(w3.set ((y3):Int).toNat g0):=⟨_,rfl⟩;replace H:(some (E3,true))=some (l0,n0):=yh;have G3:=qa hy_;clear hy_;simp only[Option.some.injEq,Prod.mk.injEq]at H;obtain⟨rfl,rfl⟩:=H;obtain⟨J3,K3,L3,M3,N3,P3⟩:=qk3 y0
         go_wp2_with(first|(go_at_call 84;(with_reducible refine gm (Ar.c e0 1 24 true _ n3.out) fun nd=>?_);(try(rw[Hk wc];generalize hq_:World.drewN wc _=wc;have n0_:Aside0 (wc.heap[w0]? =some (.cells #[.int .i64 d0,.int .i64 e0,.int .i64 g0] 55 (0,0))):=⟨by rw[<-hq_];exact(bk)⟩;have n1_:Aside0 (Below w.heap.size w wc):=⟨by rw[<-hq_];exact(bl)⟩;clear y0 HB hq_;have y0:=n0_;have HB:=n1_;clear n0_ n1_));(try have Q3:wc.cell? ⟨w0,0,none⟩=some (.int .i64 d0):=bc y0 0);(try have R3:wc.cell? ⟨w0,1,none⟩=some (.int .i64 e0):=bc y0 1);(try have U3:wc.cell? ⟨w0,2,none⟩=some (.int .i64 g0):=bc y0 2);(try have V3:=Cn y0.out 0);(try have W3:=Cn y0.out 1);(try have X3:=Cn y0.out 2))|(go_at_call 84;(with_reducible refine gm (Ar.c g0 0 9999 true _ q3.out) fun nd=>?_);(try(rw[Hk wc];generalize hq_:World.drewN wc _=wc;have n0_:Aside0 (wc.heap[w0]? =some (.cells #[.int .i64 d0,.int .i64 e0,.int .i64 g0] 55 (0,0))):=⟨by rw[<-hq_];exact(bk)⟩;have n1_:Aside0 (Below w.heap.size w wc):=⟨by rw[<-hq_];exact(bl)⟩;clear y0 HB hq_;have y0:=n0_;have HB:=n1_;clear n0_ n1_));(try have Q3:wc.cell? ⟨w0,0,none⟩=some (.int .i64 d0):=bc y0 0);(try have R3:wc.cell? ⟨w0,1,none⟩=some (.int .i64 e0):=bc y0 1);(try have U3:wc.cell? ⟨w0,2,none⟩=some (.int .i64 g0):=bc y0 2);(try have V3:=Cn y0.out 0);(try have W3:=Cn y0.out 1);(try have X3:=Cn y0.out 2))|(refine rli .i64 3 61 s3.out fun Y3 a4 b4 hb=>?_;have c4:=lR b4;replace y0:=qbb y0 hb;replace HB:=bs hb;clear hb b4)|((with_reducible refine Cw (b:= .append) (xs:=#[.tmp 61,.tmp 62]) rfl ?_);at_builtin;refine Kd.Jp ki (w0:=w) w.heap.size rfl (.tmp 61) (.tmp 62) 22 3 (.int .i64 0) 8 rfl Tryz.underlying22 Je rfl kd_ ko_ Y3 r3 c0 _ _ _ (fun _=>True) (fun _=>False) rfl rfl ?aO ?aR (fun _ _ h=>h) (fun _ h=>h.elim) ?aF ?aB ?aS ?aL ?_;(case aR=>exact cx (Kd.Ai s0.out HB.out));(case aB=>exact(bl));(case aF=>exact(fun _ _=>trivial));(case aO=>exact(kR c4));(case aS=>exact(Cj (bl)));(case aL=>have:=v3.out;omega);intro d4 e4 ho hb hg hat;rw[<-x3.out]at ho;replace y0:=qa (Bn (g:=w0) (o:= .cells #[.int .i64 d0,.int .i64 e0,.int .i64 g0] 55 (0,0)) (bk) hg (Kd.R_ne c4.out y0.out kd_));replace HB:=qa (hb);have g4:=qa (ho);clear c4;clear ho hb hg hat;obtain⟨j4,l4,n4,p4,q4,r4⟩:=qk3 y0;have s4:0<=((y3):Int):=qo;have t4:((y3):Int)<((w3.length:Int):Int):=qo;obtain⟨v4,w4,x4,y4,gl39,cl39,HG39⟩:=Kd.R_form g4.out ko_;(first|cases x4|(injection x4 with ea_ en_ ec_;(first|subst ea_|(injection ea_ with ea_;subst ea_));subst ec_;clear en_));have GB39:=qa y4;have GG39:=qa HG39;clear y4 gl39 HG39;obtain⟨A4,B4⟩:=Kd.Jj 0 g4.out ((y3):Int) s4 t4;replace s4:=eq_true s4;replace t4:=eq_true t4;obtain⟨hy45_,hz45_⟩:=Kd.Jj 0 g4.out ((y3):Int) (qo) (qo);have HP45:=Kd.Ja g4.out ((y3):Int) g0)|((with_reducible refine Gm (t:=3) (p:=70) rfl ?_);refine Ga (t:=3) (p:=70) (v:=?vo_w46) (w1:=(e4.setCell ⟨v4,((y3):Int).toNat,none⟩ (.int .i64 g0))) ?hg ?ho ?hn ?hr ?_;(case ho=>rfl);(case hg=>rfl);(case hn=>rfl);(case hr=>exact gr);intro C4 hw;have hg:e4.grownBy C4 (some v4):=(by rw[hw];exact HP45.2);have hp_:Kd.R ki 3 C4 w.heap.size (fun _=>True) (.slice (some ⟨v4,0,none⟩) w3.length w4) E3:=(by rw[hw,G3.out];exact HP45.1);clear HP45;replace y0:=qa (Bn (g:=w0) (o:= .cells #[.int .i64 d0,.int .i64 e0,.int .i64 g0] 55 (0,0)) (bk) hg (Kd.R_ne g4.out y0.out kd_));replace g4:=qa (hp_);replace HB:=qa ((by rw[hw];exact Fw (HB.out) GB39.out:Below w.heap.size w C4));clear hg hw hp_))
         go_ret2;exact⟨_,by first|rfl|(simp[Ca,Bz];exact⟨rfl,rfl⟩)|(simp[Ca,Bz] <;> rfl)|(simp only[<-A3];first|rfl|(simp[Ca,Bz] <;> rfl))|(simp[*,Ca,Bz] <;> rfl),kR g4,bl⟩
        .obtain⟨D4,hy_⟩:∃y_:LI,y_=(([]:LI)):=⟨_,rfl⟩;replace H:(some (D4,false))=some (l0,n0):=yh;have E4:=qa hy_;clear hy_;simp only[Option.some.injEq,Prod.mk.injEq]at H;obtain⟨rfl,rfl⟩:=H;obtain⟨G4,J4,K4,L4,M4,N4⟩:=qk3 y0
         go_wp2_with(first|(go_at_call 84;(with_reducible refine gm (Ar.c e0 1 24 true _ n3.out) fun nd=>?_))|(go_at_call 84;(with_reducible refine gm (Ar.c g0 0 9999 false _ q3.out) fun nd=>?_))|(refine rli .i64 3 72 E4.out fun P4 Q4 R4 hb=>?_;have U4:=lR R4;replace y0:=qbb y0 hb;replace HB:=bs hb;clear hb R4))
         go_ret2;exact⟨_,er,kR U4,bl⟩
       .obtain⟨V4,hy_⟩:∃y_:LI,y_=(([]:LI)):=⟨_,rfl⟩;replace H:(some (V4,false))=some (l0,n0):=yh;have W4:=qa hy_;clear hy_;simp only[Option.some.injEq,Prod.mk.injEq]at H;obtain⟨rfl,rfl⟩:=H;obtain⟨X4,Y4,a5,b5,c5,d5⟩:=qk3 y0
        go_wp2_with(first|(go_at_call 84;(with_reducible refine gm (Ar.c e0 1 24 false _ n3.out) fun nd=>?_))|(refine rli .i64 3 72 W4.out fun e5 g5 j5 hb=>?_;have l5:=lR j5;replace y0:=qbb y0 hb;replace HB:=bs hb;clear hb j5))
        go_ret2;exact⟨_,er,kR l5,bl⟩
      .obtain⟨n5,p5⟩:∃y_:LI,y_=(([]:LI)):=⟨_,rfl⟩;(replace H:(some (n5,false))=some (l0,n0):=by first|(rw[p5];with_reducible exact H)|(have H2_:=(Option.bind_some _ _).symm.trans H;rw[p5];with_reducible exact H2_)|(have H2_:=(Option.bind_some _ _).symm.trans H;with_reducible exact H2_)|with_reducible exact H|(rw[p5];exact H)|exact H);have q5:=qa p5;clear p5;simp only[Option.some.injEq,Prod.mk.injEq]at H;obtain⟨rfl,rfl⟩:=H;obtain⟨r5,s5,t5,v5,w5,x5⟩:=qk3 y0
       go_wp2_with(first|(refine rli .i64 3 72 q5.out fun y5 A5 B5 hb=>?_;have C5:=lR B5;replace y0:=qbb y0 hb;replace HB:=bs hb;clear hb B5))
       go_ret2;exact⟨_,er,kR C5,bl⟩

def Gh.l0:Nat->LI->LI->Int->Option (Bool)
 |0,_,_,_=>none
 |k+1,a0,b0,c0=>if c0<24 then(if 0<=c0 then(if c0<(a0.length:Int)then(if c0<(b0.length:Int)then(if(rd a0 c0)=(rd b0 c0)then(Gh.l0 k a0 b0 (wrap64 (c0+1)))else(some false))else(none))else(none))else(none))else(some true)
def Gh.f (k:Nat) (a0:LI) (b0:LI):Option (Bool):=Gh.l0 k a0 b0 0
theorem Gh.c (k:Nat) (a0:OA) (b0:Nat) (c0:LI) (d0:OA) (e0:Nat) (g0:LI) (r:Bool) (w:World) (j0:Kd.C ki w a0 c0.length c0) (n0:c0.length<=b0) (p0:Kd.C ki w d0 g0.length g0) (q0:g0.length<=e0) (h:Gh.f k c0 g0=some r):
  Calls Tryz.prog 81 #[.slice a0 c0.length b0,.slice d0 g0.length e0] w fun e w'=>e= .returned (.bool r)/\Drawn0 w w':=by
 have r0:=qa j0;have s0:=qa n0;clear j0 n0;have t0:=qa p0;have v0:=qa q0;clear p0 q0;have H:=h;unfold Gh.f at H;clear h;have H':=qa H;clear H
 go_enter Tryz.func81,Tryz.ntmps81
 go_wp2
 repeat(go_quiet(fail);try go_wp2)
 go_loopg [5] k (fun kq w0 w'=>∃(x0:Int),w0= .int .i64 x0/\Aside0 (Gh.l0 kq c0 g0 x0=some r)/\Aside0 (kq<=k)/\Drawn0 w w')
 case atStart=>exact⟨(0),(sd),H',⟨Nat.le_refl _⟩,dr⟩
 case round=>
  clear H';obtain⟨x0,rfl,HA,HK1,⟨m1,rfl⟩⟩:=hrel;obtain⟨k1,rfl,H⟩:=kz gk HA;clear HA;simp only[Gh.l0]at H;replace H:=qe H;obtain⟨y0,H⟩|⟨y0,H⟩:=H
  .replace H:=qd H;obtain⟨A0,H⟩:=H;replace H:=qd H;obtain⟨B0,H⟩:=H;replace H:=qd H;obtain⟨C0,H⟩:=H;replace H:=qq H;obtain⟨D0,E0,H⟩|⟨G0,D0,E0,H⟩:=H
   .have H':=qa H;clear H;obtain⟨J0,⟨⟩,K0,L0,M0⟩:=ai r0.out x0;obtain⟨N0,⟨⟩,P0,Q0,R0⟩:=ai t0.out x0;go_wp2
    repeat(go_quiet(fail);try go_wp2)
    go_roundg k1
    case measure=>have:=HK1.out;omega
    case rel=>exact⟨(wrap64 (x0+1)),(sd),H',⟨by have:=HK1.out;omega⟩,dr⟩
   .obtain rfl:=sj H;obtain⟨J0,⟨⟩,K0,L0,M0⟩:=ai r0.out x0;obtain⟨N0,⟨⟩,P0,Q0,R0⟩:=ai t0.out x0;go_wp2
    repeat(go_quiet(fail);try go_wp2)
    go_ret;exact⟨sd,dr⟩
  .obtain rfl:=sj H;go_wp2
   repeat(go_quiet(fail);try go_wp2)
   go_ret;exact⟨sd,dr⟩
end Go.Proofs.YtdmlkjjlgkdnlaaGreatDoor.PFnDeskSay
