import Derived.Test.YtdmlkjjlgkdnlaaGreatDoorPFnDeskSayx6
import Derived.StillTailTactics
namespace Go.Proofs.YtdmlkjjlgkdnlaaGreatDoor.PFnDeskSay
open Go.RowKit Go.Proofs.YtdmlkjjlgkdnlaaGreatDoorW.PrintWords Go.Proofs.YtdmlkjjlgkdnlaaGreatDoorW.PrintLast Go.Proofs.YtdmlkjjlgkdnlaaGreatDoorW.PrintMore
attribute [local go_sem] Iz Ix Jy Jx Hy Hx Iy Iw
set_option linter.unusedVariables false
set_option linter.unusedSimpArgs false
set_option maxHeartbeats 8000000
set_option maxRecDepth 100000
def Db.l0:Nat->Int->LL->Int->Int->Option (Int)
 |0,_,_,_,_=>none
 |k+1,a0,b0,c0,d0=>if d0<c0 then(if 0<=d0 then(if d0<(b0.length:Int)then(if 1<((Bl b0 d0).length :Int)then(if(Int.tmod (rd (Bl b0 d0) 1) 2)=0 then(Db.l0 k a0 b0 c0 (wrap64 (d0+1)))else(Db.l0 k (wrap64 (-a0)) b0 c0 (wrap64 (d0+1))))else(none))else(none))else(none))else(some a0)
def Db.f (k:Nat) (a0:Int) (b0:Int):Option (Int):=if b0=0 then(if a0>1 then(some 0)else(some 1))else(if b0=1 then(some 1)else(if b0=2 then(some a0)else(if b0=3 then((As.f k a0).bind fun c0=>(some (c0.length:Int)))else(if b0=4 then((As.f k a0).bind fun d0=>((Fh.f k d0).bind fun e0=>(some e0)))else(if b0=5 then((Fi.f k a0).bind fun g0=>(some g0))else(if b0=6 then((Fv.f k a0).bind fun j0=>(some j0))else((Al.f k a0).bind fun n0=>(Db.l0 k 1 n0 (n0.length:Int) 0))))))))
theorem Db.mono_l:∀k,(∀a0 b0 c0 d0,LeO (Db.l0 k a0 b0 c0 d0) (Db.l0 (k+1) a0 b0 c0 d0))
 |0=>fun _ _ _ _ r h=>by simp[Db.l0]at h
 |k+1=>by
  have ih0:=Db.mono_l k
  .intro a0 b0 c0 d0;unfold Db.l0;have m0:= @As.mono;have m1:= @Al.mono;have m2:= @Fi.mono;have m3:= @Fv.mono;have m4:= @Fh.mono;exact mz
theorem Db.mono:∀a0 b0 k,LeO (Db.f k a0 b0) (Db.f (k+1) a0 b0):=by
 intro a0 b0 k;have ih0:=Db.mono_l k;unfold Db.f;have m0:= @As.mono;have m1:= @Al.mono;have m2:= @Fi.mono;have m3:= @Fv.mono;have m4:= @Fh.mono;exact mz
theorem Db.c (k:Nat) (a0:Int) (b0:Int) (r:Int) (B:Nat) (w:World) (hcap:w.cell? ⟨B,0,none⟩=some (.int .i64 b0)) (h:Db.f k a0 b0=some r):
  Calls Tryz.prog 135 #[.int .i64 a0,.pointer (some ⟨B,0,none⟩)] w fun e w'=>e= .returned (.int .i64 r)/\Below w.heap.size w w':=by
 have HB:=qa (Below.refl w.heap.size w);have H:=h;unfold Db.f at H;clear h;replace H:=qq H;obtain⟨c0,d0,H⟩|⟨e0,c0,d0,H⟩:=H
 .replace H:=qg H;obtain⟨g0,H⟩|⟨g0,H⟩:=H
  .obtain rfl:=sj H
   go_enter Tryz.func135,Tryz.ntmps135
   go_wp2;go_ret;exact⟨er,bl⟩
  .obtain rfl:=sj H
   go_enter Tryz.func135,Tryz.ntmps135
   go_wp2;go_ret;exact⟨er,bl⟩
 .replace H:=qq H;obtain⟨j0,n0,H⟩|⟨p0,j0,n0,H⟩:=H
  .obtain rfl:=sj H
   go_enter Tryz.func135,Tryz.ntmps135
   go_wp2;go_ret;exact⟨er,bl⟩
  .replace H:=qq H;obtain⟨q0,r0,H⟩|⟨s0,q0,r0,H⟩:=H
   .obtain rfl:=sj H
    go_enter Tryz.func135,Tryz.ntmps135
    go_wp2;go_ret;exact⟨er,bl⟩
   .replace H:=qq H;obtain⟨t0,v0,H⟩|⟨w0,t0,v0,H⟩:=H
    .replace H:=qb H;obtain⟨x0,y0,H⟩:=H;obtain rfl:=sj H
     go_enter Tryz.func135,Tryz.ntmps135
     go_wp2_with(first|(refine ge_ 20 Tryz.func109 (As.c k a0 x0 _ y0.out) fun A0 B0 C0 hb=>?_;have D0:=lR C0;replace HB:=bs hb;obtain⟨E0,G0,rfl⟩:=Kd.An D0.out))
     go_ret;exact⟨er,bl⟩
    .replace H:=qq H;obtain⟨J0,K0,H⟩|⟨L0,J0,K0,H⟩:=H
     .replace H:=qb H;obtain⟨M0,N0,H⟩:=H;replace H:=qb H;obtain⟨P0,Q0,H⟩:=H;obtain rfl:=sj H
      go_enter Tryz.func135,Tryz.ntmps135
      go_wp2_with(first|(refine ge_ 25 Tryz.func109 (As.c k a0 M0 _ N0.out) fun R0 U0 C0 hb=>?_;have V0:=lR C0;replace HB:=bs hb;obtain⟨W0,X0,rfl⟩:=Kd.An V0.out)|(refine gd 26 Tryz.func136 (Fh.c k _ _ M0 P0 _ (cx (Kd.Ab V0.out).2.2) ((Kd.Ab V0.out).2.1) Q0.out) fun nd=>?_))
      go_ret;exact⟨er,bl⟩
     .replace H:=qq H;obtain⟨Y0,a1,H⟩|⟨b1,Y0,a1,H⟩:=H
      .replace H:=qb H;obtain⟨c1,d1,H⟩:=H;obtain rfl:=sj H
       go_enter Tryz.func135,Tryz.ntmps135
       go_wp2_with(first|(refine gb 30 Tryz.func113 (Fi.c k a0 c1 _ d1.out) fun e1 hb=>?_;replace HB:=bs hb))
       go_ret;exact⟨er,bl⟩
      .replace H:=qq H;obtain⟨g1,j1,H⟩|⟨l1,g1,j1,H⟩:=H
       .replace H:=qb H;obtain⟨n1,p1,H⟩:=H;obtain rfl:=sj H
        go_enter Tryz.func135,Tryz.ntmps135
        go_wp2_with(first|(refine gb 34 Tryz.func137 (Fv.c k a0 n1 _ p1.out) fun q1 hb=>?_;replace HB:=bs hb))
        go_ret;exact⟨er,bl⟩
       .replace H:=qb H;obtain⟨r1,s1,H⟩:=H;have H':=qa H;clear H
        go_enter Tryz.func135,Tryz.ntmps135
        go_wp2_with(first|(refine ge_ 36 Tryz.func138 (Al.c k a0 r1 _ s1.out) fun t1 v1 C0 hb=>?_;have w1:=lS C0;replace HB:=bs hb;obtain⟨x1,y1,rfl⟩:=Kd.Ft w1.out))
        go_loopg [4,38] k (fun kq A1 B1 w'=>∃(C1:Int) (D1:Int),A1= .int .i64 C1/\B1= .int .i64 D1/\Aside0 (Db.l0 kq C1 r1 (r1.length:Int) D1=some r)/\Aside0 (kq<=k)/\Aside0 (Kd.S (Kd.slice 3 ki) 22 w' w.heap.size (fun _=>True) (.slice x1 r1.length y1) r1)/\Aside0 (Below w.heap.size w w'))
        case atStart=>exact⟨(1),(0),(sd),(sd),H',⟨Nat.le_refl _⟩,⟨kS w1⟩,⟨bl⟩⟩
        case round=>
         clear H';obtain⟨C1,D1,rfl,rfl,HA,HK1,E1,HB⟩:=hrel;obtain⟨k1,rfl,H⟩:=kz gk HA;clear HA;simp only[Db.l0]at H;replace H:=qe H;obtain⟨G1,H⟩|⟨G1,H⟩:=H
         .replace H:=qd H;obtain⟨J1,H⟩:=H;replace H:=qd H;obtain⟨K1,H⟩:=H;replace H:=qL 1 H;obtain⟨L1,M1,H⟩:=H;replace H:=qq H;obtain⟨N1,P1,H⟩|⟨Q1,N1,P1,H⟩:=H
          .have H':=qa H;clear H;obtain⟨R1,U1,V1,⟨⟩,W1,HL202_0,X1,Y1,a2,b2⟩:=sg_L1 E1.out D1;have c2:0<=(1:Int):=ko_;have d2:1<((Bl r1 D1).length :Int):=qo;obtain⟨e2,g2,j2⟩:=Kd.Fx (cw X1) 1 c2 d2;cases g2;(try simp only[show(1:Int).toNat =1 from rfl,Nat.reduceMul,Nat.reduceEqDiff,Go.Addr.add,↓reduceIte]at j2);have qi203:(1<(Bl r1 D1).length)=True:=eq_true ko_;(try rw[show((1:Int)).toNat =1 from rfl]at j2);replace c2:=eq_true c2;replace d2:=eq_true d2;go_wp2
           go_roundg k1
           case measure=>have:=HK1.out;omega
           case rel=>exact⟨(C1),(wrap64 (D1+1)),(sd),(sd),H',⟨by have:=HK1.out;omega⟩,⟨kS E1⟩,⟨bl⟩⟩
          .have H':=qa H;clear H;obtain⟨R1,U1,V1,⟨⟩,W1,HL202_0,X1,Y1,a2,b2⟩:=sg_L1 E1.out D1;have c2:0<=(1:Int):=ko_;have d2:1<((Bl r1 D1).length :Int):=qo;obtain⟨e2,g2,j2⟩:=Kd.Fx (cw X1) 1 c2 d2;cases g2;(try simp only[show(1:Int).toNat =1 from rfl,Nat.reduceMul,Nat.reduceEqDiff,Go.Addr.add,↓reduceIte]at j2);have qi203:(1<(Bl r1 D1).length)=True:=eq_true ko_;(try rw[show((1:Int)).toNat =1 from rfl]at j2);replace c2:=eq_true c2;replace d2:=eq_true d2;go_wp2
           go_roundg k1
           case measure=>have:=HK1.out;omega
           case rel=>exact⟨(wrap64 (-C1)),(wrap64 (D1+1)),(sd),(sd),H',⟨by have:=HK1.out;omega⟩,⟨kS E1⟩,⟨bl⟩⟩
         .obtain rfl:=sj H;go_wp2;go_ret;exact⟨er,bl⟩

-- CALLS: impl.NamedRow$1
def Ck.l0:Nat->Int->LI->Int->Option LI
 |0,_,_,_=>none
 |k+1,a0,b0,c0=>if c0<24 then(if 0<=c0 then((Db.f k (wrap64 (c0+1)) a0).bind fun t=>(if c0<(b0.length:Int)then(Ck.l0 k a0 (b0.set (c0:Int).toNat t) (wrap64 (c0+1)))else(none)))else(none))else(some b0)
theorem Ck.mono_l:∀k,∀z0 a0 b0,LeO (Ck.l0 k z0 a0 b0) (Ck.l0 (k+1) z0 a0 b0)
 |0=>fun _ _ _ r h=>by simp[Ck.l0]at h
 |k+1=>by
  have ih:=Ck.mono_l k;intro z0 a0 b0;unfold Ck.l0;refine LeO.ite (LeO.ite (LeO.bind (Db.mono _ _ _) (fun _=>LeO.ite (ih _ _ _) (LeO.refl _))) (LeO.refl _)) (LeO.refl _)
theorem Ck.len:∀k z0 (x:LI) i r,Ck.l0 k z0 x i=some r->r.length=x.length
 |0,_,_,_,_,h=>by simp[Ck.l0]at h
 |k+1,z0,x,i,r,h=>by
  simp only[Ck.l0]at h
  split at h
  .split at h
   .obtain⟨t,_,h⟩:=Option.bind_eq_some_iff.mp h;replace h:(if i<(x.length:Int)then(Ck.l0 k z0 (x.set (i:Int).toNat t) (wrap64 (i+1)))else(none))=some r:=h
    split at h
    .rw[Ck.len k _ _ _ _ h,List.length_set]
    .simp at h
   .simp at h
  .obtain rfl:=Option.some.inj h
   rfl
theorem Ck.c (k:Nat) (a0:Int) (r:LI) (B:Nat) (w:World) (h0:B<w.heap.size) (h1:w.cell? ⟨B,0,none⟩=some (.int .i64 a0)) (H:Ck.l0 k a0 (List.replicate (24:Int).toNat 0) 0=some r):
  Calls Tryz.prog 133 #[.func (.func 135) #[] #[.pointer (some ⟨B,0,none⟩)]] w fun e w'=>∃v0_:Value,e= .returned (v0_)/\Kd.R ki 3 w' w.heap.size (fun _=>True) v0_ r/\Below w.heap.size w w':=by
 have HH0:=qa h0;have HH1:=qa h1;clear h0 h1;have HB:=qa (Below.refl w.heap.size w);have H':=qa H;clear H
 go_enter Tryz.func133,Tryz.ntmps133
 go_wp2_with(first|((with_reducible refine El (N:=5) rfl ?_);refine Kd.R_make ki _ 3 rfl (N:=5) rfl 22 _ _ rfl (24:Int) rfl rfl Tryz.underlying22 (.int .i64 0) 8 Je rfl kd_ ko_ 0 (ok:=fun _=>True) (okp:=fun _=>True) rfl (fun _ hk=>hk) trivial kd_ kd_ (Below.refl _ _) (Nat.le_refl _) ?_;intro b0 c0 d0 hb hg_ hnew_;clear hg_ hnew_;have e0:=lR d0;replace HB:=bs hb;clear hb d0;obtain⟨g0,j0,n0,p0,gl4,cl4,HG4⟩:=Kd.R_form e0.out (by simp);rw[List.length_replicate,show(24:Int).toNat =24 from rfl]at n0;subst n0;clear p0 gl4 HG4))
 go_loopg [8] k (fun kq q0 w'=>∃(r0:LI) (s0:Int),q0= .int .i64 s0/\Aside0 (r0.length=24)/\Aside0 (Ck.l0 kq a0 r0 s0=some r)/\Aside0 (kq<=k)/\Aside0 (Kd.R ki 3 w' w.heap.size (fun _=>True) (.slice (some ⟨g0,0,none⟩) 24 j0) r0)/\Aside0 (Below w.heap.size w w'))
 case atStart=>exact⟨_,(0),(sd),⟨List.length_replicate ..⟩,H',⟨Nat.le_refl _⟩,⟨kR e0⟩,⟨bl⟩⟩
 case round=>
  clear H' e0;obtain⟨r0,s0,rfl,HL,HA,HK1,t0,HB⟩:=hrel;obtain⟨k1,rfl,H⟩:=kz gk HA;clear HA;simp only[Ck.l0]at H
  by_cases v0:s0<24
  .rw[if_pos v0]at H;have w0:decide (s0<24)=true:=decide_eq_true v0;replace H:=qn H;obtain⟨x0,H⟩:=H;replace H:=qb H;obtain⟨y0,A0,H⟩:=H;(have q9':s0<(r0.length:Int):=by have:=HL.out;omega);rw[if_pos q9']at H;have H':=qa H;clear H;have c7b:decide (0<=s0)=true:=decide_eq_true x0;have C7:=qa x0;have C6:=qa v0;have Q9:=qa q9';clear q9';replace x0:=eq_true x0;replace v0:=eq_true v0
   go_wp2_with(first|(go_at_call 135;(with_reducible refine(Db.c k1 (wrap64 (s0+1)) a0 y0 B _ ((HB.out.cell (p:=⟨B,0,none⟩) HH0.out).trans HH1.out) A0.out).mono ?_);rintro e B0 ⟨rfl,hb⟩;replace t0:=qa (Kd.Ey t0.out hb);replace HB:=bs hb;clear hb;obtain⟨C0,D0⟩:=Kd.Jj 0 t0.out (s0:Int) C7.out (by have:=C6.out;omega);have GB9:=qa (Kd.Av t0.out g0 rfl);have HP10:=Kd.Ja t0.out (s0:Int) y0)|((with_reducible refine Gm (t:=3) (p:=17) rfl ?_);refine Ga (t:=3) (p:=17) (v:=?vo_w11) (w1:=(B0.setCell ⟨g0,(s0:Int).toNat,none⟩ (.int .i64 y0))) ?hg ?ho ?hn ?hr ?_;(case ho=>rfl);(case hg=>rfl);(case hn=>rfl);(case hr=>exact gr);intro E0 hw;have hp_:Kd.R ki 3 E0 w.heap.size (fun _=>True) (.slice (some ⟨g0,0,none⟩) 24 j0) (r0.set (s0:Int).toNat y0):=(by rw[hw];exact HP10.1);clear HP10;replace t0:=qa (hp_);replace HB:=qa ((by rw[hw];exact Fw (HB.out) GB9.out:Below w.heap.size w E0));clear hw hp_))
   go_roundg k1
   case measure=>have:=HK1.out;omega
   case rel=>exact⟨_,(wrap64 (s0+1)),(sd),⟨by rw[List.length_set];exact HL.out⟩,H',⟨by have:=HK1.out;omega⟩,⟨kR t0⟩,⟨bl⟩⟩
  .rw[if_neg v0]at H;have w0:decide (s0<24)=false:=decide_eq_false v0;clear v0;obtain rfl:=sj H;go_wp2;go_ret;exact⟨_,sd,kR t0,bl⟩
def Dx.f (k:Nat) (a0:Int):Option LI:=if a0<0 then(some [])else(if a0>=8 then(some [])else(Ck.l0 k a0 (List.replicate (24:Int).toNat 0) 0))
theorem Dx.mono:∀a0 k,LeO (Dx.f k a0) (Dx.f (k+1) a0):=by
 intro a0 k;unfold Dx.f;exact LeO.ite (LeO.refl _) (LeO.ite (LeO.refl _) (Ck.mono_l k _ _ _))
theorem Dx.calls2 (k:Nat) (a0:Int) (r:LI) (w:World) (h:Dx.f k a0=some r):
  Calls Tryz.prog 96 #[.int .i64 a0] w fun e w'=>∃v0_:Value,e= .returned (v0_)/\Kd.R ki 3 w' w.heap.size (fun _=>True) v0_ r/\Below w.heap.size w w'/\(r=[]->v0_= .slice none 0 0):=by
 (have hmf:∀(fn:Fn) (first cap:Array Value) (w:World),(Instr.makeFunc fn first cap).run Tryz.prog w= .ok (.func fn first cap) w:=fun _ _ _ _=>rfl);unfold Dx.f at h
 by_cases b0:a0<0
 .rw[if_pos b0]at h;have c1b:decide (a0<0)=true:=decide_eq_true b0;clear b0;obtain rfl:=Option.some.inj h;clear h
  go_enter Tryz.func96,Tryz.ntmps96
  go_wp2_with fail
  go_ret;exact⟨_,sd,Kd.R_nil _ _ _ _ _,z11_,fun _=>rfl⟩
 .rw[if_neg b0]at h;have c1b:decide (a0<0)=false:=decide_eq_false b0;clear b0
  by_cases c0:a0>=8
  .rw[if_pos c0]at h;have c2b:decide (a0>=8)=true:=decide_eq_true c0;have c2c:decide (8<=a0)=true:=decide_eq_true c0;clear c0;obtain rfl:=Option.some.inj h;clear h
   go_enter Tryz.func96,Tryz.ntmps96
   go_wp2_with fail
   go_ret;exact⟨_,sd,Kd.R_nil _ _ _ _ _,z11_,fun _=>rfl⟩
  .rw[if_neg c0]at h;have c2b:decide (a0>=8)=false:=decide_eq_false c0;have c2c:decide (8<=a0)=false:=decide_eq_false c0;clear c0;have H':=qa h;clear h
   go_enter Tryz.func96,Tryz.ntmps96
   go_wp2_with(first|(go_at_call 133;(with_reducible refine(Ck.c k a0 r _ _ ?b0 ?c0 H'.out).mono ?_)))
   case b0=>simp
   case c0=>simp[World.cell?_alloc_at]
   rintro e d0 ⟨e0,rfl,ho,hb⟩;have HO:=qa (Kd.Gr ho (Cj z8_));have HB:=qa (Ir z8_ hb);have hl:=Ck.len k _ _ _ _ H'.out;rw[List.length_replicate]at hl;have HL:=qa hl;clear hl ho hb H';go_wp2;go_ret;exact⟨_,sd,z17_,bl,fun h0=>by have:=HL.out;rw[h0]at this;simp at this⟩
theorem Dx.c (k:Nat) (a0:Int) (r:LI) (w:World) (h:Dx.f k a0=some r):
  Calls Tryz.prog 96 #[.int .i64 a0] w fun e w'=>∃v0_:Value,e= .returned (v0_)/\Kd.R ki 3 w' w.heap.size (fun _=>True) v0_ r/\Below w.heap.size w w':=
 (Dx.calls2 k a0 r w h).mono fun e w' ⟨v,h1,h2,h3,_⟩=>⟨v,h1,h2,h3⟩

def Du.l0:Nat->Int->Int->Option (Int)
 |0,_,_=>none
 |k+1,a0,b0=>if b0=0 then(some a0)else(Du.l0 k b0 (Int.tmod a0 b0))
def Du.f (k:Nat) (a0:Int) (b0:Int):Option (Int):=Du.l0 k a0 b0
theorem Du.mono_l:∀k,(∀a0 b0,LeO (Du.l0 k a0 b0) (Du.l0 (k+1) a0 b0))
 |0=>fun _ _ r h=>by simp[Du.l0]at h
 |k+1=>by
  have ih0:=Du.mono_l k
  .intro a0 b0;unfold Du.l0;exact mz
theorem Du.mono:∀a0 b0 k,LeO (Du.f k a0 b0) (Du.f (k+1) a0 b0):=by
 intro a0 b0 k;have ih0:=Du.mono_l k;unfold Du.f;exact mz
theorem Du.c (k:Nat) (a0:Int) (b0:Int) (r:Int) (w:World) (h:Du.f k a0 b0=some r):
  Calls Tryz.prog 163 #[.int .i64 a0,.int .i64 b0] w fun e w'=>e= .returned (.int .i64 r)/\Drawn0 w w':=by
 have H:=h;unfold Du.f at H;clear h;have H':=qa H;clear H
 go_enter Tryz.func163,Tryz.ntmps163
 go_wp2
 repeat(go_quiet(fail);try go_wp2)
 go_loopg [0,1] k (fun kq c0 d0 w'=>∃(e0:Int) (g0:Int),c0= .int .i64 e0/\d0= .int .i64 g0/\Aside0 (Du.l0 kq e0 g0=some r)/\Aside0 (kq<=k)/\Drawn0 w w')
 case atStart=>exact⟨(a0),(b0),(sd),(sd),H',⟨Nat.le_refl _⟩,dr⟩
 case round=>
  clear H';obtain⟨e0,g0,rfl,rfl,HA,HK1,⟨m1,rfl⟩⟩:=hrel;obtain⟨k1,rfl,H⟩:=kz gk HA;clear HA;simp only[Du.l0]at H;replace H:=qq H;obtain⟨j0,n0,H⟩|⟨p0,j0,n0,H⟩:=H
  .obtain rfl:=sj H;go_wp2
   repeat(go_quiet(fail);try go_wp2)
   go_ret;exact⟨sd,dr⟩
  .have H':=qa H;clear H;go_wp2
   repeat(go_quiet(fail);try go_wp2)
   go_roundg k1
   case measure=>have:=HK1.out;omega
   case rel=>exact⟨(g0),(Int.tmod e0 g0),(sd),(sd),H',⟨by have:=HK1.out;omega⟩,dr⟩

def Dp.l0:Nat->Int->LI->LI->Int->Int->Option LI
 |0,_,_,_,_,_=>none
 |k+1,a0,b0,c0,d0,e0=>if e0<d0 then(if 0<=e0 then(if e0<(c0.length:Int)then(if(rd c0 e0)=0 then(none)else((Du.f k (rd c0 e0) (wrap64 (Int.tdiv a0 (rd c0 e0)))).bind fun g0=>(if g0=1 then(if b0.length<17592186044416 then(Dp.l0 k a0 (b0++[rd c0 e0]) c0 d0 (wrap64 (e0+1)))else(none))else(Dp.l0 k a0 b0 c0 d0 (wrap64 (e0+1))))))else(none))else(none))else(some b0)
def Dp.f (k:Nat) (a0:Int):Option LI:=(As.f k a0).bind fun b0=>(Dp.l0 k a0 (([]:LI)) b0 (b0.length:Int) 0)
theorem Dp.mono_l:∀k,(∀a0 b0 c0 d0 e0,LeO (Dp.l0 k a0 b0 c0 d0 e0) (Dp.l0 (k+1) a0 b0 c0 d0 e0))
 |0=>fun _ _ _ _ _ r h=>by simp[Dp.l0]at h
 |k+1=>by
  have ih0:=Dp.mono_l k
  .intro a0 b0 c0 d0 e0;unfold Dp.l0;have m0:= @As.mono;have m1:= @Du.mono;exact mz
theorem Dp.mono:∀a0 k,LeO (Dp.f k a0) (Dp.f (k+1) a0):=by
 intro a0 k;have ih0:=Dp.mono_l k;unfold Dp.f;have m0:= @As.mono;have m1:= @Du.mono;exact mz
theorem Dp.c (k:Nat) (a0:Int) (r:LI) (w:World) (h:Dp.f k a0=some r):
  Calls Tryz.prog 140 #[.int .i64 a0] w fun e w'=>∃v0_:Value,e= .returned (v0_)/\Kd.R ki 3 w' w.heap.size (fun _=>True) v0_ r/\Below w.heap.size w w':=by
 have HB:=qa (Below.refl w.heap.size w);have H:=h;unfold Dp.f at H;clear h;obtain⟨b0,hy_⟩:∃y_:LI,y_=(([]:LI)):=⟨_,rfl⟩;replace H:((As.f k a0).bind fun c0=>(Dp.l0 k a0 b0 c0 (c0.length:Int) 0))=some r:=yh;have d0:=qa hy_;clear hy_;replace H:=qb H;obtain⟨c0,e0,H⟩:=H;have H':=qa H;clear H
 go_enter Tryz.func140,Tryz.ntmps140
 go_wp2_with(first|(refine rli .i64 3 6 d0.out fun g0 j0 n0 hb=>?_;have p0:=lR n0;replace HB:=bs hb;clear hb n0)|(refine ge_ 8 Tryz.func109 (As.c k a0 c0 _ e0.out) fun q0 r0 s0 hb=>?_;have t0:=lR (Kd.Cl s0 (Kd.R_lt (kR p0)));replace p0:=eR p0 (Kd.Av s0) hb;replace HB:=bs hb;obtain⟨v0,w0,rfl⟩:=Kd.An t0.out))
 go_loopg [3,10] k (fun kq x0 y0 w'=>∃(A0:LI) (B0:Int),y0= .int .i64 B0/\Aside0 (Dp.l0 kq a0 A0 c0 (c0.length:Int) B0=some r)/\Aside0 (kq<=k)/\Aside0 (Kd.R ki 3 w' w.heap.size (N1 (sv v0 c0 w0)) x0 A0)/\Aside0 (Kd.R ki 3 w' w.heap.size (N1 x0) (.slice v0 c0.length w0) c0)/\Aside0 (Below w.heap.size w w'))
 case atStart=>exact⟨(b0),(0),(sd),H',⟨Nat.le_refl _⟩,⟨mR p0 (fun _ hk=>hk.2)⟩,⟨mR t0 (fun _ hk=>hk.2)⟩,⟨bl⟩⟩
 case round=>
  clear H';obtain⟨A0,B0,rfl,HA,HK1,C0,D0,HB⟩:=hrel;obtain⟨k1,rfl,H⟩:=kz gk HA;clear HA;simp only[Dp.l0]at H;replace H:=qe H;obtain⟨E0,H⟩|⟨E0,H⟩:=H
  .replace H:=qd H;obtain⟨G0,H⟩:=H;replace H:=qd H;obtain⟨J0,H⟩:=H
   by_cases K0:(rd c0 B0)=0
   .rw[if_pos K0]at H;exact absurd H (by simp)
   .rw[if_neg K0]at H;have L0:((rd c0 B0)==0)=false:=beq_eq_false_iff_ne.mpr K0;have M0:((rd c0 B0) != 0)=true:=bne_iff_ne.mpr K0;replace H:=qb H;obtain⟨N0,P0,H⟩:=H;replace H:=qq H;obtain⟨Q0,R0,H⟩|⟨U0,Q0,R0,H⟩:=H
    .replace H:=qn H;obtain⟨V0,H⟩:=H;have W0:=qa V0;clear V0;obtain⟨X0,hy_⟩:∃y_:LI,y_=(A0++[rd c0 B0]):=⟨_,rfl⟩;replace H:(Dp.l0 k1 a0 X0 c0 (c0.length:Int) (wrap64 (B0+1)))=some r:=yh;have Y0:=qa hy_;clear hy_;have H':=qa H;clear H;obtain⟨a1,⟨⟩,b1,c1,d1⟩:=ai (Kd.Ab D0.out).2.2 B0
     go_wp2_with(first|(refine gd 18 Tryz.func163 (Du.c k1 (rd c0 B0) (wrap64 (Int.tdiv a0 (rd c0 B0))) N0 _ P0.out) fun nd=>?_)|((with_reducible refine Cw (b:= .append) (xs:=#[.tmp 20,.tmp 22]) rfl ?_);at_builtin;refine Kd.Hc ki (w0:=w) w.heap.size rfl (.tmp 20) (.tmp 22) 22 3 (.int .i64 0) 8 rfl Tryz.underlying22 Je rfl kd_ ko_ u3 A0 (rd c0 B0) [.int .i64 (rd c0 B0)] (fun k_=>some k_≠(.slice (some a1) c0.length w0:Value).ownBlock) (fun _=>False) rfl rfl ?aP (fun _ hk=>hk.elim) ?aF ?aO ?aB ?aS ?aL ?_;(case aP=>exact rfl);(case aB=>exact(bl));(case aF=>exact(fun k_ hk=>Kd.Ii (Kd.R_lt (kR D0)) k_ hk));(case aO=>exact(kR C0));(case aS=>exact(Cj (bl)));(case aL=>have:=W0.out;omega);intro e1 g1 ho hb hg hat;rw[<-Y0.out]at ho;replace D0:=qa (Kd.Hd (ok:=(fun _=>True)) (mR D0 (fun _ hk=>⟨trivial,hk⟩)) hg hat);replace HB:=qa (hb);have j1:=qa (ho);clear C0;clear ho hb hg hat))
     go_roundg k1
     case measure=>have:=HK1.out;omega
     case rel=>exact⟨(X0),(wrap64 (B0+1)),(sd),H',⟨by have:=HK1.out;omega⟩,⟨kR j1⟩,⟨mR D0 (fun _ hk=>hk.2)⟩,⟨bl⟩⟩
    .have H':=qa H;clear H;obtain⟨a1,⟨⟩,b1,c1,d1⟩:=ai (Kd.Ab D0.out).2.2 B0
     go_wp2_with(first|(refine gd 18 Tryz.func163 (Du.c k1 (rd c0 B0) (wrap64 (Int.tdiv a0 (rd c0 B0))) N0 _ P0.out) fun nd=>?_))
     go_roundg k1
     case measure=>have:=HK1.out;omega
     case rel=>exact⟨(A0),(wrap64 (B0+1)),(sd),H',⟨by have:=HK1.out;omega⟩,⟨kR C0⟩,⟨kR D0⟩,⟨bl⟩⟩
  .obtain rfl:=sj H;go_wp2;go_ret;exact⟨_,er,mR C0 (fun _ hk=>trivial),bl⟩
-- CALLS: impl.unitary impl.small
def Cb.l0:Nat->Int->LI->LI->LI->Int->Int->Option Int
 |0,_,_,_,_,_,_=>none
 |k+1,n,f,g,ds,a0,b0=>if b0<(ds.length:Int)then(if 0<=b0 then(if(rd ds b0)=0 then(none)else(if 0<=(wrap64 ((rd ds b0)-1))then(if(wrap64 ((rd ds b0)-1))<(f.length:Int)then(if 0<=(wrap64 ((wrap64 (Int.tdiv n (rd ds b0)))-1))then(if(wrap64 ((wrap64 (Int.tdiv n (rd ds b0)))-1))<(g.length:Int)then(Cb.l0 k n f g ds (wrap64 (a0+(wrap64 ((rd f (wrap64 ((rd ds b0)-1)))*(rd g (wrap64 ((wrap64 (Int.tdiv n (rd ds b0)))-1))))))) (wrap64 (b0+1)))else(none))else(none))else(none))else(none)))else(none))else(some a0)
def Cb.f (k:Nat) (n:Int) (f g:LI):Option Int:=(Dp.f k n).bind fun ds=>Cb.l0 k n f g ds 0 0
theorem Cb.mono_l:∀k,∀a0 b0 c0 d0 e0 g0,LeO (Cb.l0 k a0 b0 c0 d0 e0 g0) (Cb.l0 (k+1) a0 b0 c0 d0 e0 g0)
 |0=>fun _ _ _ _ _ _ r h=>by simp[Cb.l0]at h
 |k+1=>by
  have ih:=Cb.mono_l k;intro a0 b0 c0 d0 e0 g0;unfold Cb.l0;exact LeO.ite (LeO.ite (LeO.ite (LeO.refl _) (LeO.ite (LeO.ite (LeO.ite (LeO.ite (ih _ _ _ _ _ _) (LeO.refl _)) (LeO.refl _)) (LeO.refl _)) (LeO.refl _))) (LeO.refl _)) (LeO.refl _)
theorem Cb.mono:∀n f g k,LeO (Cb.f k n f g) (Cb.f (k+1) n f g):=by
 intro n f g k;unfold Cb.f;exact LeO.bind (Dp.mono _ _) (fun _=>Cb.mono_l k _ _ _ _ _ _)
theorem Cb.c (k:Nat) (n:Int) (a0 b0:LI) (r:Int) (B1 B2:Nat) (c0 d0:OA) (e0 g0:Nat) (w:World) (j0:w.cell? ⟨B1,0,none⟩=some (.slice c0 a0.length e0)) (n0:w.cell? ⟨B2,0,none⟩=some (.slice d0 b0.length g0)) (p0:Kd.C ki w c0 a0.length a0) (q0:Kd.C ki w d0 b0.length b0) (h:Cb.f k n a0 b0=some r):
  Calls Tryz.prog 139 #[.int .i64 n,.pointer (some ⟨B1,0,none⟩),.pointer (some ⟨B2,0,none⟩)] w fun e w'=>e= .returned (.int .i64 r)/\Below w.heap.size w w':=by
 have HB:=qa (Below.refl w.heap.size w);have H:=h;clear h;unfold Cb.f at H;replace H:=qb H;obtain⟨r0,s0,H⟩:=H;have H':=qa H;clear H;have CAP1:=qa j0;have CAP2:=qa n0;have t0:=qa p0;have v0:=qa q0;clear j0 n0 p0 q0
 go_enter Tryz.func139,Tryz.ntmps139
 go_wp2_with(first|(refine ge_ 9 Tryz.func140 (Dp.c k n r0 _ s0.out) fun w0 x0 y0 hb=>?_;have A0:=lR y0;replace HB:=bs hb;obtain⟨B0,C0,rfl⟩:=Kd.An A0.out))
 go_loopg [5,11] k (fun kq D0 E0 w'=>∃(G0:Int) (J0:Int),D0= .int .i64 G0/\E0= .int .i64 J0/\Aside0 (Cb.l0 kq n a0 b0 r0 G0 J0=some r)/\Aside0 (kq<=k)/\Aside0 (Kd.R ki 3 w' w.heap.size (fun _=>True) (.slice B0 r0.length C0) r0)/\Aside0 (Below w.heap.size w w'))
 case atStart=>exact⟨(0),(0),(sd),(sd),H',⟨Nat.le_refl _⟩,⟨kR A0⟩,⟨bl⟩⟩
 case round=>
  clear H';obtain⟨G0,J0,rfl,rfl,HA,HK1,K0,HB⟩:=hrel;obtain⟨k1,rfl,H⟩:=kz gk HA;clear HA;simp only[Cb.l0]at H
  by_cases L0:J0<(r0.length:Int)
  .rw[if_pos L0]at H;have M0:decide (J0<(r0.length:Int))=true:=decide_eq_true L0;replace H:=qn H;obtain⟨N0,H⟩:=H
   by_cases P0:(rd r0 J0)=0
   .rw[if_pos P0]at H;exact absurd H (by simp)
   .rw[if_neg P0]at H;have Q0:((rd r0 J0)==0)=false:=beq_eq_false_iff_ne.mpr P0;have R0:((rd r0 J0) != 0)=true:=bne_iff_ne.mpr P0
    split at H
    .rename_i d1
     split at H
     .rename_i d2
      split at H
      .rename_i d3
       split at H
       .rename_i d4
        have H':=qa H;clear H;obtain⟨U0,V0,W0⟩:=Kd.Fx (Kd.Ab K0.out).2.2 J0 N0 L0;cases V0;obtain⟨X0,Y0,a1⟩:=Kd.Fx (Kd.Ai t0.out HB.out) _ d1 d2;obtain⟨b1,c1,e1⟩:=Kd.Fx (Kd.Ai v0.out HB.out) _ d3 d4;(have g1:wr.cell? ⟨B1,0,none⟩=some (.slice (some X0) a0.length e0):=by rw[<-Y0];exact(HB.out.cell (World.block_lt_of_cell? w _ CAP1.out)).trans CAP1.out);(have j1:wr.cell? ⟨B2,0,none⟩=some (.slice (some b1) b0.length g0):=by rw[<-c1];exact(HB.out.cell (World.block_lt_of_cell? w _ CAP2.out)).trans CAP2.out);clear Y0 c1;simp only[<-Bv]at a1 e1 d1 d2 d3 d4;replace L0:=eq_true L0;replace N0:=eq_true N0;replace d1:=eq_true d1;replace d2:=eq_true d2;replace d3:=eq_true d3;replace d4:=eq_true d4
        go_wp2_with fail
        go_quiet(fail)
        go_wp2
        go_roundg k1
        case measure=>have:=HK1.out;omega
        case rel=>exact⟨(wrap64 (G0+(wrap64 ((rd a0 (wrap64 ((rd r0 J0)-1)))*(rd b0 (wrap64 ((wrap64 (Int.tdiv n (rd r0 J0)))-1))))))),(wrap64 (J0+1)),z19_,z19_,H',⟨by have:=HK1.out;omega⟩,⟨kR K0⟩,⟨bl⟩⟩
       .exact absurd H (by simp)
      .exact absurd H (by simp)
     .exact absurd H (by simp)
    .exact absurd H (by simp)
  .rw[if_neg L0]at H;have M0:decide (J0<(r0.length:Int))=false:=decide_eq_false L0;clear L0;obtain rfl:=sj H;go_wp2;go_ret;exact⟨sd,bl⟩
def Ay.l0:Nat->LI->LI->LI->Int->Option LI
 |0,_,_,_,_=>none
 |k+1,a0,b0,c0,d0=>if d0<24 then(if 0<=d0 then((Cb.f k (wrap64 (d0+1)) a0 b0).bind fun t=>(if d0<(c0.length:Int)then(Ay.l0 k a0 b0 (c0.set (d0:Int).toNat t) (wrap64 (d0+1)))else(none)))else(none))else(some c0)
theorem Ay.mono_l:∀k,∀z0 z1 a0 b0,LeO (Ay.l0 k z0 z1 a0 b0) (Ay.l0 (k+1) z0 z1 a0 b0)
 |0=>fun _ _ _ _ r h=>by simp[Ay.l0]at h
 |k+1=>by
  have ih:=Ay.mono_l k;intro z0 z1 a0 b0;unfold Ay.l0;refine LeO.ite (LeO.ite (LeO.bind (Cb.mono _ _ _ _) (fun _=>LeO.ite (ih _ _ _ _) (LeO.refl _))) (LeO.refl _)) (LeO.refl _)
theorem Ay.len:∀k z0 z1 (x:LI) i r,Ay.l0 k z0 z1 x i=some r->r.length=x.length
 |0,_,_,_,_,_,h=>by simp[Ay.l0]at h
 |k+1,z0,z1,x,i,r,h=>by
  simp only[Ay.l0]at h
  split at h
  .split at h
   .obtain⟨t,_,h⟩:=Option.bind_eq_some_iff.mp h;replace h:(if i<(x.length:Int)then(Ay.l0 k z0 z1 (x.set (i:Int).toNat t) (wrap64 (i+1)))else(none))=some r:=h
    split at h
    .rw[Ay.len k _ _ _ _ _ h,List.length_set]
    .simp at h
   .simp at h
  .obtain rfl:=Option.some.inj h
   rfl
theorem Ay.c (k:Nat) (a0:LI) (b0:LI) (r:LI) (B1 B2:Nat) (c0 d0:OA) (e0 g0:Nat) (w:World) (h0:w.cell? ⟨B1,0,none⟩=some (.slice c0 a0.length e0)) (h1:w.cell? ⟨B2,0,none⟩=some (.slice d0 b0.length g0)) (h2:Kd.C ki w c0 a0.length a0) (h3:Kd.C ki w d0 b0.length b0) (H:Ay.l0 k a0 b0 (List.replicate (24:Int).toNat 0) 0=some r):
  Calls Tryz.prog 133 #[.func (.func 139) #[] #[.pointer (some ⟨B1,0,none⟩),.pointer (some ⟨B2,0,none⟩)]] w fun e w'=>∃v0_:Value,e= .returned (v0_)/\Kd.R ki 3 w' w.heap.size (fun _=>True) v0_ r/\Below w.heap.size w w':=by
 have HH0:=qa h0;have HH1:=qa h1;have HH2:=qa h2;have HH3:=qa h3;clear h0 h1 h2 h3;have HB:=qa (Below.refl w.heap.size w);have H':=qa H;clear H
 go_enter Tryz.func133,Tryz.ntmps133
 go_wp2_with(first|((with_reducible refine El (N:=5) rfl ?_);refine Kd.R_make ki _ 3 rfl (N:=5) rfl 22 _ _ rfl (24:Int) rfl rfl Tryz.underlying22 (.int .i64 0) 8 Je rfl kd_ ko_ 0 (ok:=fun _=>True) (okp:=fun _=>True) rfl (fun _ hk=>hk) trivial kd_ kd_ (Below.refl _ _) (Nat.le_refl _) ?_;intro j0 n0 p0 hb hg_ hnew_;clear hg_ hnew_;have q0:=lR p0;replace HB:=bs hb;clear hb p0;obtain⟨r0,s0,t0,v0,gl4,cl4,HG4⟩:=Kd.R_form q0.out (by simp);rw[List.length_replicate,show(24:Int).toNat =24 from rfl]at t0;subst t0;clear v0 gl4 HG4))
 go_loopg [8] k (fun kq w0 w'=>∃(x0:LI) (y0:Int),w0= .int .i64 y0/\Aside0 (x0.length=24)/\Aside0 (Ay.l0 kq a0 b0 x0 y0=some r)/\Aside0 (kq<=k)/\Aside0 (Kd.R ki 3 w' w.heap.size (fun _=>True) (.slice (some ⟨r0,0,none⟩) 24 s0) x0)/\Aside0 (Below w.heap.size w w'))
 case atStart=>exact⟨_,(0),(sd),⟨List.length_replicate ..⟩,H',⟨Nat.le_refl _⟩,⟨kR q0⟩,⟨bl⟩⟩
 case round=>
  clear H' q0;obtain⟨x0,y0,rfl,HL,HA,HK1,A0,HB⟩:=hrel;obtain⟨k1,rfl,H⟩:=kz gk HA;clear HA;simp only[Ay.l0]at H
  by_cases B0:y0<24
  .rw[if_pos B0]at H;have C0:decide (y0<24)=true:=decide_eq_true B0;replace H:=qn H;obtain⟨D0,H⟩:=H;replace H:=qb H;obtain⟨E0,G0,H⟩:=H;(have q9':y0<(x0.length:Int):=by have:=HL.out;omega);rw[if_pos q9']at H;have H':=qa H;clear H;have c7b:decide (0<=y0)=true:=decide_eq_true D0;have C7:=qa D0;have C6:=qa B0;have Q9:=qa q9';clear q9';replace D0:=eq_true D0;replace B0:=eq_true B0
   go_wp2_with(first|(go_at_call 139;(with_reducible refine(Cb.c k1 (wrap64 (y0+1)) a0 b0 E0 B1 B2 c0 d0 e0 g0 _ ((HB.out.cell (World.block_lt_of_cell? w _ HH0.out)).trans HH0.out) ((HB.out.cell (World.block_lt_of_cell? w _ HH1.out)).trans HH1.out) (Kd.Ai HH2.out HB.out) (Kd.Ai HH3.out HB.out) G0.out).mono ?_);rintro e J0 ⟨rfl,hb⟩;replace A0:=qa (Kd.Ey A0.out hb);replace HB:=bs hb;clear hb;obtain⟨K0,L0⟩:=Kd.Jj 0 A0.out (y0:Int) C7.out (by have:=C6.out;omega);have GB9:=qa (Kd.Av A0.out r0 rfl);have HP10:=Kd.Ja A0.out (y0:Int) E0)|((with_reducible refine Gm (t:=3) (p:=17) rfl ?_);refine Ga (t:=3) (p:=17) (v:=?vo_w11) (w1:=(J0.setCell ⟨r0,(y0:Int).toNat,none⟩ (.int .i64 E0))) ?hg ?ho ?hn ?hr ?_;(case ho=>rfl);(case hg=>rfl);(case hn=>rfl);(case hr=>exact gr);intro M0 hw;have hp_:Kd.R ki 3 M0 w.heap.size (fun _=>True) (.slice (some ⟨r0,0,none⟩) 24 s0) (x0.set (y0:Int).toNat E0):=(by rw[hw];exact HP10.1);clear HP10;replace A0:=qa (hp_);replace HB:=qa ((by rw[hw];exact Fw (HB.out) GB9.out:Below w.heap.size w M0));clear hw hp_))
   go_roundg k1
   case measure=>have:=HK1.out;omega
   case rel=>exact⟨_,(wrap64 (y0+1)),(sd),⟨by rw[List.length_set];exact HL.out⟩,H',⟨by have:=HK1.out;omega⟩,⟨kR A0⟩,⟨bl⟩⟩
  .rw[if_neg B0]at H;have C0:decide (y0<24)=false:=decide_eq_false B0;clear B0;obtain rfl:=sj H;go_wp2;go_ret;exact⟨_,sd,kR A0,bl⟩
def Gi.f (k:Nat) (a0 b0:LI):Option (LI×Bool):=(Dn.f k a0).bind fun s=>(if s=true then((Dn.f k b0).bind fun s2=>(if s2=true then((Ay.l0 k a0 b0 (List.replicate (24:Int).toNat 0) 0).bind fun t=>some (t,true))else some (([]:LI),false)))else some (([]:LI),false))
theorem Gi.c (k:Nat) (a0:OA) (b0:Nat) (c0:LI) (d0:OA) (e0:Nat) (g0:LI) (j0:LI) (n0:Bool) (w:World) (p0:Kd.C ki w a0 c0.length c0) (q0:c0.length<=b0) (r0:Kd.C ki w d0 g0.length g0) (t0:g0.length<=e0) (h:Gi.f k c0 g0=some (j0,n0)):
  Calls Tryz.prog 97 #[.slice a0 c0.length b0,.slice d0 g0.length e0] w fun e w'=>∃v0_:Value,e= .returned (.tuple #[v0_,.bool n0])/\Kd.R ki 3 w' w.heap.size (fun _=>True) v0_ j0/\Below w.heap.size w w':=by
 (have hmf:∀(fn:Fn) (first cap:Array Value) (w:World),(Instr.makeFunc fn first cap).run Tryz.prog w= .ok (.func fn first cap) w:=fun _ _ _ _=>rfl);have v0:=qa p0;have w0:=qa q0;have x0:=qa r0;have y0:=qa t0;clear p0 q0 r0 t0;have H:=h;clear h;unfold Gi.f at H;replace H:=Option.bind_eq_some_iff.mp H;obtain⟨s,S00,H⟩:=H;have S0:=qa S00;clear S00
 cases s with
 |false=>
  have H2:(([]:LI),false)=(j0,n0):=sj H;obtain⟨rfl,rfl⟩:=Prod.mk.inj H2;clear H H2
  go_enter Tryz.func97,Tryz.ntmps97
  go_wp2_with(first|(go_at_call 132;(with_reducible refine(Dn.c k a0 b0 c0 false _ ?s0 w0.out S0.out).mono ?_);(case s0=>exact cx v0.out);rintro e w' ⟨rfl,⟨nd0,rfl⟩⟩))
  go_ret2;exact⟨_,sd,Kd.R_nil _ _ _ _ _,z11_⟩
 |true=>
  replace H:((Dn.f k g0).bind fun s2=>(if s2=true then((Ay.l0 k c0 g0 (List.replicate (24:Int).toNat 0) 0).bind fun t=>some (t,true))else some (([]:LI),false)))=some (j0,n0):=H;replace H:=Option.bind_eq_some_iff.mp H;obtain⟨s2,S10,H⟩:=H;have S1:=qa S10;clear S10
  cases s2 with
  |false=>
   have H2:(([]:LI),false)=(j0,n0):=sj H;obtain⟨rfl,rfl⟩:=Prod.mk.inj H2;clear H H2
   go_enter Tryz.func97,Tryz.ntmps97
   go_wp2_with(first|(go_at_call 132;(with_reducible refine(Dn.c k a0 b0 c0 true _ ?s0 w0.out S0.out).mono ?_);(case s0=>exact cx v0.out);rintro e w' ⟨rfl,⟨nd0,rfl⟩⟩)|(go_at_call 132;(with_reducible refine(Dn.c k d0 e0 g0 false _ ?s1 y0.out S1.out).mono ?_);(case s1=>exact cx x0.out);rintro e w' ⟨rfl,⟨nd1,rfl⟩⟩))
   go_ret2;exact⟨_,sd,Kd.R_nil _ _ _ _ _,z11_⟩
  |true=>
   replace H:((Ay.l0 k c0 g0 (List.replicate (24:Int).toNat 0) 0).bind fun t=>some (t,true))=some (j0,n0):=H;replace H:=Option.bind_eq_some_iff.mp H;obtain⟨t,T0,H⟩:=H;obtain⟨rfl,rfl⟩:=Prod.mk.inj (Option.some.inj H);clear H;have H':=qa T0;clear T0
   go_enter Tryz.func97,Tryz.ntmps97
   go_wp2_with(first|(go_at_call 132;(with_reducible refine(Dn.c k a0 b0 c0 true _ ?s0 w0.out S0.out).mono ?_);(case s0=>exact cx v0.out);rintro e w' ⟨rfl,⟨nd0,rfl⟩⟩)|(go_at_call 132;(with_reducible refine(Dn.c k d0 e0 g0 true _ ?s1 y0.out S1.out).mono ?_);(case s1=>exact cx x0.out);rintro e w' ⟨rfl,⟨nd1,rfl⟩⟩)|(go_at_call 133;(with_reducible refine(Ay.c k c0 g0 t _ _ a0 d0 b0 e0 _ ?e0 ?A0 ?B0 ?C0 H'.out).mono ?_)))
   case e0=>first|(simp[World.cell?_alloc_at];done)|(simp[World.cell?_alloc_at,World.cell?_alloc_lt];done)|(simp;done)
   case A0=>first|(simp[World.cell?_alloc_at];done)|(simp;done)
   case B0=>exact cx v0.out
   case C0=>exact cx x0.out
   rintro e D0 ⟨E0,rfl,ho,hb⟩;have HO:=qa (Kd.Gr ho (Cj z8_));have HB:=qa (Ir z8_ hb);clear ho hb H';go_wp2;go_ret2;exact⟨_,sd,z17_,bl⟩

def Gk.f (k:Nat) (a0:LI):Option (Bool):=(Ff.f k a0).bind fun b0=>(if b0=true then(if 0<(a0.length:Int)then(if(rd a0 0)=1 then(some true)else(some ((rd a0 0)==(-1))))else(none))else(some false))
theorem Gk.c (k:Nat) (a0:OA) (b0:Nat) (c0:LI) (r:Bool) (w:World) (d0:Kd.C ki w a0 c0.length c0) (e0:c0.length<=b0) (h:Gk.f k c0=some r):
  Calls Tryz.prog 164 #[.slice a0 c0.length b0] w fun e w'=>e= .returned (.bool r)/\Drawn0 w w':=by
 have g0:=qa d0;have j0:=qa e0;clear d0 e0;have H:=h;unfold Gk.f at H;clear h;replace H:=qb H;obtain⟨l0,n0,H⟩:=H;replace H:=qc H;obtain⟨rfl,H⟩|⟨rfl,H⟩:=H
 .replace H:=qL 0 H;obtain⟨p0,q0,H⟩:=H;replace H:=qq H;obtain⟨r0,s0,H⟩|⟨t0,r0,s0,H⟩:=H
  .obtain rfl:=sj H
   go_enter Tryz.func164,Tryz.ntmps164
   go_wp2_with(first|(refine gd 4 Tryz.func78 (Ff.c k _ _ c0 true _ (cx g0.out) j0.out n0.out) fun nd=>?_;obtain⟨v0,⟨⟩,w0,qi216,x0,y0⟩:=ain 0 g0.out 0;(try rw[Addr.add_zero']at w0)))
   go_ret;exact⟨sd,dr⟩
  .obtain rfl:=sj H
   go_enter Tryz.func164,Tryz.ntmps164
   go_wp2_with(first|(refine gd 4 Tryz.func78 (Ff.c k _ _ c0 true _ (cx g0.out) j0.out n0.out) fun nd=>?_;obtain⟨v0,⟨⟩,w0,qi216,x0,y0⟩:=ain 0 g0.out 0;(try rw[Addr.add_zero']at w0);obtain⟨A0,qi217,B0,C0⟩:=ajn 0 g0.out 0;(try rw[Addr.add_zero']at A0)))
   go_ret;exact⟨sd,dr⟩
 .obtain rfl:=sj H
  go_enter Tryz.func164,Tryz.ntmps164
  go_wp2_with(first|(refine gd 4 Tryz.func78 (Ff.c k _ _ c0 false _ (cx g0.out) j0.out n0.out) fun nd=>?_))
  go_ret;exact⟨sd,dr⟩

mutual
def Bg.j0:Nat->LI->LI->Bool->Option (LI×Bool)
 |0,_,_,_=>none
 |k+1,a0,b0,c0=>if c0=true then(some (([]:LI),false))else(if 24<=35184372088832 then(Bg.l0 k a0 b0 (List.replicate 24 0) 1)else(none))
def Bg.l0:Nat->LI->LI->LI->Int->Option (LI×Bool)
 |0,_,_,_,_=>none
 |k+1,a0,b0,d0,e0=>if e0<=24 then(if 0<=(wrap64 (e0-1))then(if(wrap64 (e0-1))<(a0.length:Int)then((As.f k e0).bind fun g0=>(Bg.l1 k a0 b0 d0 e0 (rd a0 (wrap64 (e0-1))) g0 (g0.length:Int) 0))else(none))else(none))else(some (d0,true))
def Bg.l1:Nat->LI->LI->LI->Int->Int->LI->Int->Int->Option (LI×Bool)
 |0,_,_,_,_,_,_,_,_=>none
 |k+1,a0,b0,d0,e0,n0,p0,q0,r0=>if r0<q0 then(if 0<=r0 then(if r0<(p0.length:Int)then(if(rd p0 r0)<e0 then(if 0<=(wrap64 ((rd p0 r0)-1))then(if(wrap64 ((rd p0 r0)-1))<(d0.length:Int)then(if(rd p0 r0)=0 then(none)else(if 0<=(wrap64 ((wrap64 (Int.tdiv e0 (rd p0 r0)))-1))then(if(wrap64 ((wrap64 (Int.tdiv e0 (rd p0 r0)))-1))<(b0.length:Int)then(Bg.l1 k a0 b0 d0 e0 (wrap64 (n0-(wrap64 ((rd d0 (wrap64 ((rd p0 r0)-1)))*(rd b0 (wrap64 ((wrap64 (Int.tdiv e0 (rd p0 r0)))-1))))))) p0 q0 (wrap64 (r0+1)))else(none))else(none)))else(none))else(none))else(Bg.l1 k a0 b0 d0 e0 n0 p0 q0 (wrap64 (r0+1))))else(none))else(none))else(if 0<(b0.length:Int)then(if 0<=(wrap64 (e0-1))then(if(wrap64 (e0-1))<(d0.length:Int)then((some (d0.set ((wrap64 (e0-1)):Int).toNat (wrap64 (n0*(rd b0 0))):LI)).bind fun s0=>(if(rd s0 (wrap64 (e0-1)))<(-1000000000)then(some (([]:LI),false))else(if(rd s0 (wrap64 (e0-1)))>1000000000 then(some (([]:LI),false))else(Bg.l0 k a0 b0 s0 (wrap64 (e0+1))))))else(none))else(none))else(none))
end

def Bg.f (k:Nat) (a0:LI) (b0:LI):Option (LI×Bool):=(Gk.f k b0).bind fun c0=>(if c0=true then((Dn.f k b0).bind fun d0=>(if d0=true then((Dn.f k a0).bind fun e0=>(Bg.j0 k a0 b0 (!e0)))else(Bg.j0 k a0 b0 true)))else(Bg.j0 k a0 b0 true))
theorem Bg.c (k:Nat) (a0:OA) (b0:Nat) (c0:LI) (d0:OA) (e0:Nat) (g0:LI) (n0:LI) (p0:Bool) (w:World) (q0:Kd.C ki w a0 c0.length c0) (r0:c0.length<=b0) (s0:Kd.C ki w d0 g0.length g0) (t0:g0.length<=e0) (h:Bg.f k c0 g0=some (n0,p0)):
  Calls Tryz.prog 141 #[.slice a0 c0.length b0,.slice d0 g0.length e0] w fun e w'=>∃v0_:Value,e= .returned (.tuple #[v0_,.bool p0])/\Kd.R ki 3 w' w.heap.size (fun _=>True) v0_ n0/\Below w.heap.size w w':=by
 have v0:=qa q0;have w0:=qa r0;clear q0 r0;have x0:=qa s0;have y0:=qa t0;clear s0 t0;have HB:=qa (Below.refl w.heap.size w);have H:=h;unfold Bg.f at H;clear h;have A0:=qa H;clear H
 go_enter Tryz.func141,Tryz.ntmps141
 go_upto_region 1 with(fail)
 repeat(go_quiet(fail);go_upto_region 1 with(fail))
 go_cut [23] (fun B0 wc=>∃(kq:Nat) (C0:Bool),B0= .bool C0/\Aside0 (Bg.j0 kq c0 g0 C0=some (n0,p0))/\Aside0 (kq<=k)/\Aside0 (Below w.heap.size w wc))
 case first=>
  have H:=A0.out;clear A0;replace H:=qb H;obtain⟨D0,E0,H⟩:=H;replace H:=qc H;obtain⟨rfl,H⟩|⟨rfl,H⟩:=H
  .replace H:=qb H;obtain⟨G0,J0,H⟩:=H;replace H:=qc H;obtain⟨rfl,H⟩|⟨rfl,H⟩:=H
   .replace H:=qb H;obtain⟨K0,L0,H⟩:=H;have H':=qa H;clear H
    go_wp2_with(first|(go_at_call 164;(with_reducible refine(Gk.c k _ _ g0 true _ ?M0 ?N0 E0.out).mono ?_);(case M0=>exact cx (Kd.Ai x0.out HB.out));(case N0=>exact y0.out);rintro e w' ⟨rfl,⟨nd,rfl⟩⟩;(try exact dn))|(go_at_call 132;(with_reducible refine(Dn.c k _ _ g0 true _ ?M0 ?N0 J0.out).mono ?_);(case M0=>exact cx (Kd.Ai x0.out (bl)));(case N0=>exact y0.out);rintro e w' ⟨rfl,⟨nd,rfl⟩⟩;(try exact dn))|(go_at_call 132;(with_reducible refine(Dn.c k _ _ c0 K0 _ ?M0 ?N0 L0.out).mono ?_);(case M0=>exact cx (Kd.Ai v0.out (bl)));(case N0=>exact w0.out);rintro e w' ⟨rfl,⟨nd,rfl⟩⟩;(try exact dn)))
    repeat(go_quiet(first|(go_at_call 164;(with_reducible refine(Gk.c k _ _ g0 true _ ?M0 ?N0 E0.out).mono ?_);(case M0=>exact cx (Kd.Ai x0.out HB.out));(case N0=>exact y0.out);rintro e w' ⟨rfl,⟨nd,rfl⟩⟩;(try exact dn))|(go_at_call 132;(with_reducible refine(Dn.c k _ _ g0 true _ ?M0 ?N0 J0.out).mono ?_);(case M0=>exact cx (Kd.Ai x0.out (bl)));(case N0=>exact y0.out);rintro e w' ⟨rfl,⟨nd,rfl⟩⟩;(try exact dn))|(go_at_call 132;(with_reducible refine(Dn.c k _ _ c0 K0 _ ?M0 ?N0 L0.out).mono ?_);(case M0=>exact cx (Kd.Ai v0.out (bl)));(case N0=>exact w0.out);rintro e w' ⟨rfl,⟨nd,rfl⟩⟩;(try exact dn)));try go_wp2_with(first|(go_at_call 164;(with_reducible refine(Gk.c k _ _ g0 true _ ?M0 ?N0 E0.out).mono ?_);(case M0=>exact cx (Kd.Ai x0.out HB.out));(case N0=>exact y0.out);rintro e w' ⟨rfl,⟨nd,rfl⟩⟩;(try exact dn))|(go_at_call 132;(with_reducible refine(Dn.c k _ _ g0 true _ ?M0 ?N0 J0.out).mono ?_);(case M0=>exact cx (Kd.Ai x0.out (bl)));(case N0=>exact y0.out);rintro e w' ⟨rfl,⟨nd,rfl⟩⟩;(try exact dn))|(go_at_call 132;(with_reducible refine(Dn.c k _ _ c0 K0 _ ?M0 ?N0 L0.out).mono ?_);(case M0=>exact cx (Kd.Ai v0.out (bl)));(case N0=>exact w0.out);rintro e w' ⟨rfl,⟨nd,rfl⟩⟩;(try exact dn))))
    go_meet
    case rel=>exact⟨_,(!K0),(sd),H',⟨by first|omega|exact Nat.le_refl _⟩,⟨bl⟩⟩
   .have H':=qa H;clear H
    go_wp2_with(first|(go_at_call 164;(with_reducible refine(Gk.c k _ _ g0 true _ ?M0 ?N0 E0.out).mono ?_);(case M0=>exact cx (Kd.Ai x0.out HB.out));(case N0=>exact y0.out);rintro e w' ⟨rfl,⟨nd,rfl⟩⟩;(try exact dn))|(go_at_call 132;(with_reducible refine(Dn.c k _ _ g0 false _ ?M0 ?N0 J0.out).mono ?_);(case M0=>exact cx (Kd.Ai x0.out (bl)));(case N0=>exact y0.out);rintro e w' ⟨rfl,⟨nd,rfl⟩⟩;(try exact dn)))
    repeat(go_quiet(first|(go_at_call 164;(with_reducible refine(Gk.c k _ _ g0 true _ ?M0 ?N0 E0.out).mono ?_);(case M0=>exact cx (Kd.Ai x0.out HB.out));(case N0=>exact y0.out);rintro e w' ⟨rfl,⟨nd,rfl⟩⟩;(try exact dn))|(go_at_call 132;(with_reducible refine(Dn.c k _ _ g0 false _ ?M0 ?N0 J0.out).mono ?_);(case M0=>exact cx (Kd.Ai x0.out (bl)));(case N0=>exact y0.out);rintro e w' ⟨rfl,⟨nd,rfl⟩⟩;(try exact dn)));try go_wp2_with(first|(go_at_call 164;(with_reducible refine(Gk.c k _ _ g0 true _ ?M0 ?N0 E0.out).mono ?_);(case M0=>exact cx (Kd.Ai x0.out HB.out));(case N0=>exact y0.out);rintro e w' ⟨rfl,⟨nd,rfl⟩⟩;(try exact dn))|(go_at_call 132;(with_reducible refine(Dn.c k _ _ g0 false _ ?M0 ?N0 J0.out).mono ?_);(case M0=>exact cx (Kd.Ai x0.out (bl)));(case N0=>exact y0.out);rintro e w' ⟨rfl,⟨nd,rfl⟩⟩;(try exact dn))))
    go_meet
    case rel=>exact⟨_,(true),(sd),H',⟨by first|omega|exact Nat.le_refl _⟩,⟨bl⟩⟩
  .have H':=qa H;clear H
   go_wp2_with(first|(go_at_call 164;(with_reducible refine(Gk.c k _ _ g0 false _ ?M0 ?N0 E0.out).mono ?_);(case M0=>exact cx (Kd.Ai x0.out HB.out));(case N0=>exact y0.out);rintro e w' ⟨rfl,⟨nd,rfl⟩⟩;(try exact dn)))
   repeat(go_quiet(first|(go_at_call 164;(with_reducible refine(Gk.c k _ _ g0 false _ ?M0 ?N0 E0.out).mono ?_);(case M0=>exact cx (Kd.Ai x0.out HB.out));(case N0=>exact y0.out);rintro e w' ⟨rfl,⟨nd,rfl⟩⟩;(try exact dn)));try go_wp2_with(first|(go_at_call 164;(with_reducible refine(Gk.c k _ _ g0 false _ ?M0 ?N0 E0.out).mono ?_);(case M0=>exact cx (Kd.Ai x0.out HB.out));(case N0=>exact y0.out);rintro e w' ⟨rfl,⟨nd,rfl⟩⟩;(try exact dn))))
   go_meet
   case rel=>exact⟨_,(true),(sd),H',⟨by first|omega|exact Nat.le_refl _⟩,⟨bl⟩⟩
 case rest=>
  clear A0;obtain⟨kq,C0,rfl,HA,P0,HB⟩:=hcut;obtain⟨Q0,rfl,H⟩:=kz kq HA;clear HA;simp only[Bg.j0]at H;replace H:=qc H;obtain⟨rfl,H⟩|⟨rfl,H⟩:=H
  .simp only[Option.some.injEq,Prod.mk.injEq]at H;obtain⟨rfl,rfl⟩:=H;go_wp2
   repeat(go_quiet(fail);try go_wp2)
   go_ret2;exact⟨_,er,z2_,bl⟩
  .by_cases R0:24<=35184372088832
   .rw[if_pos R0]at H;have U0:=eq_true R0;have V0:decide (24<=35184372088832)=true:=decide_eq_true R0;clear R0;obtain⟨W0,hy_⟩:∃y_:LI,y_=(List.replicate 24 0):=⟨_,rfl⟩;replace H:(Bg.l0 Q0 c0 g0 W0 1)=some (n0,p0):=yh;have X0:=qa hy_;clear hy_;have H':=qa H;clear H
    go_wp2_with(first|((with_reducible refine El (N:=24) rfl ?_);refine Kd.R_make ki _ 3 rfl (N:=24) rfl 22 _ _ rfl 24 rfl rfl Tryz.underlying22 (.int .i64 0) 8 Je rfl kd_ ko_ 0 (ok:=fun _=>True) (okp:=fun _=>True) rfl (fun _ hk=>hk) trivial ko_ ko_ (Below.refl _ _) (Nat.le_refl _) ?_;intro Y0 a1 b1 hb hg_ hnew_;clear hg_ hnew_;(first|rw[<-X0.out]at b1|(simp only[Int.reduceToNat]at b1;rw[<-X0.out]at b1));have c1:=lR b1;replace HB:=bs hb;clear hb b1))
    repeat(go_quiet(fail);try go_wp2_with(first|((with_reducible refine El (N:=24) rfl ?_);refine Kd.R_make ki _ 3 rfl (N:=24) rfl 22 _ _ rfl 24 rfl rfl Tryz.underlying22 (.int .i64 0) 8 Je rfl kd_ ko_ 0 (ok:=fun _=>True) (okp:=fun _=>True) rfl (fun _ hk=>hk) trivial ko_ ko_ (Below.refl _ _) (Nat.le_refl _) ?_;intro Y0 a1 b1 hb hg_ hnew_;clear hg_ hnew_;(first|rw[<-X0.out]at b1|(simp only[Int.reduceToNat]at b1;rw[<-X0.out]at b1));have c1:=lR b1;replace HB:=bs hb;clear hb b1)))
    go_loopg [7] Q0 (fun kq d1 w'=>∃(e1:LI) (g1:Int),d1= .int .i64 g1/\Aside0 (Bg.l0 kq c0 g0 e1 g1=some (n0,p0))/\Aside0 (kq<=Q0)/\Aside0 (Kd.R ki 3 w' w.heap.size (fun _=>True) Y0 e1)/\Aside0 (Below w.heap.size w w'))
    case atStart=>exact⟨(W0),(1),(sd),H',⟨Nat.le_refl _⟩,⟨kR c1⟩,⟨bl⟩⟩
    case round=>
     clear H';obtain⟨e1,g1,rfl,HA,HK2,j1,HB⟩:=hrel;obtain⟨k2,rfl,H⟩:=kz gk HA;clear HA;simp only[Bg.l0]at H;replace H:=qe H;obtain⟨n1,H⟩|⟨n1,H⟩:=H
     .obtain⟨p1,q1⟩:∃j_:Int,(wrap64 (g1-1))=j_:=⟨_,rfl⟩;(first|rw[q1]at H|(try simp only[q1]at H));have r1:(IntKind.i64.wrap (g1-1))=p1:=(Bv _).trans q1;replace H:=qd H;obtain⟨s1,H⟩:=H;replace H:=qd H;obtain⟨t1,H⟩:=H;replace H:=qb H;obtain⟨v1,w1,H⟩:=H;have H':=qa H;clear H;obtain⟨x1,⟨⟩,y1,A1,B1⟩:=ai v0.out (p1);(try replace y1:=(HB.out.cell (World.block_lt_of_cell? w _ y1)).trans y1)
      go_wp2_with(first|(go_at_call 109;(with_reducible refine(As.c k2 g1 v1 _ w1.out).mono ?_);rintro e C1 ⟨D1,rfl,E1,hb⟩;have G1:=lR (Kd.Cl E1 (Kd.R_lt (kR j1)));replace j1:=eR j1 (Kd.Av E1) hb;replace HB:=bs hb;obtain⟨J1,K1,rfl⟩:=Kd.An G1.out))
      repeat(go_quiet(fail);try go_wp2_with(first|(go_at_call 109;(with_reducible refine(As.c k2 g1 v1 _ w1.out).mono ?_);rintro e C1 ⟨D1,rfl,E1,hb⟩;have G1:=lR (Kd.Cl E1 (Kd.R_lt (kR j1)));replace j1:=eR j1 (Kd.Av E1) hb;replace HB:=bs hb;obtain⟨J1,K1,rfl⟩:=Kd.An G1.out)))
      go_loopg [8,37] k2 (fun kq L1 M1 w'=>∃(P1:Int) (Q1:Int),L1= .int .i64 P1/\M1= .int .i64 Q1/\Aside0 (Bg.l1 kq c0 g0 e1 g1 P1 v1 (v1.length:Int) Q1=some (n0,p0))/\Aside0 (kq<=k2)/\Aside0 (Kd.R ki 3 w' w.heap.size (N1 (sv J1 v1 K1)) Y0 e1)/\Aside0 (Kd.R ki 3 w' w.heap.size (N1 Y0) (.slice J1 v1.length K1) v1)/\Aside0 (Below w.heap.size w w'))
      case atStart=>exact⟨(rd c0 (p1)),(0),(by first|rfl|(simp;done)|(simp only[<-q1] <;> (first|rfl|simp))|(simp[*];done)),(sd),H',⟨Nat.le_refl _⟩,⟨mR j1 (fun _ hk=>hk.2)⟩,⟨mR G1 (fun _ hk=>hk.2)⟩,⟨bl⟩⟩
      case round=>
       clear H';obtain⟨P1,Q1,rfl,rfl,HA,HK3,j1,R1,HB⟩:=hrel;obtain⟨k3,rfl,H⟩:=kz gk HA;clear HA;simp only[Bg.l1]at H;replace H:=qe H;obtain⟨U1,H⟩|⟨U1,H⟩:=H
       .replace H:=qd H;obtain⟨V1,H⟩:=H;replace H:=qd H;obtain⟨W1,H⟩:=H;replace H:=qe H;obtain⟨X1,H⟩|⟨X1,H⟩:=H
        .obtain⟨Y1,a2⟩:∃j_:Int,(wrap64 ((rd v1 Q1)-1))=j_:=⟨_,rfl⟩;(first|rw[a2]at H|(try simp only[a2]at H));have b2:(IntKind.i64.wrap ((rd v1 Q1)-1))=Y1:=(Bv _).trans a2;replace H:=qd H;obtain⟨c2,H⟩:=H;replace H:=qd H;obtain⟨d2,H⟩:=H
         by_cases e2:(rd v1 Q1)=0
         .rw[if_pos e2]at H;exact absurd H (by simp)
         .rw[if_neg e2]at H;have g2:((rd v1 Q1)==0)=false:=beq_eq_false_iff_ne.mpr e2;have j2:((rd v1 Q1) != 0)=true:=bne_iff_ne.mpr e2;obtain⟨l2,n2⟩:∃j_:Int,(wrap64 ((wrap64 (Int.tdiv g1 (rd v1 Q1)))-1))=j_:=⟨_,rfl⟩;(first|rw[n2]at H|(try simp only[n2]at H));have p2:(IntKind.i64.wrap ((wrap64 (Int.tdiv g1 (rd v1 Q1)))-1))=l2:=(Bv _).trans n2;replace H:=qd H;obtain⟨q2,H⟩:=H;replace H:=qd H;obtain⟨r2,H⟩:=H;have H':=qa H;clear H;obtain⟨s2,⟨⟩,t2,v2,w2⟩:=ai (Kd.Ab R1.out).2.2 Q1;obtain⟨x2,y2,rfl⟩:=Kd.An j1.out;obtain⟨A2,⟨⟩,B2,C2,D2⟩:=ai (Kd.Ab j1.out).2.2 (Y1);obtain⟨E2,⟨⟩,G2,J2,K2⟩:=ai x0.out (l2);(try replace G2:=(HB.out.cell (World.block_lt_of_cell? w _ G2)).trans G2);go_wp2
          repeat(go_quiet(fail);try go_wp2)
          go_roundg k3
          case measure=>have:=P0.out;have:=HK2.out;have:=HK3.out;omega
          case rel=>exact⟨(wrap64 (P1-(wrap64 ((rd e1 (Y1))*(rd g0 (l2)))))),(wrap64 (Q1+1)),(by first|rfl|(simp;done)|(simp only[<-a2,<-n2] <;> (first|rfl|simp))|(simp[*];done)),(sd),H',⟨by have:=P0.out;have:=HK2.out;have:=HK3.out;omega⟩,⟨kR j1⟩,⟨kR R1⟩,⟨bl⟩⟩
        .have H':=qa H;clear H;obtain⟨s2,⟨⟩,t2,v2,w2⟩:=ai (Kd.Ab R1.out).2.2 Q1;go_wp2
         repeat(go_quiet(fail);try go_wp2)
         go_roundg k3
         case measure=>have:=P0.out;have:=HK2.out;have:=HK3.out;omega
         case rel=>exact⟨(P1),(wrap64 (Q1+1)),(sd),(sd),H',⟨by have:=P0.out;have:=HK2.out;have:=HK3.out;omega⟩,⟨kR j1⟩,⟨kR R1⟩,⟨bl⟩⟩
       .replace H:=qL 0 H;obtain⟨L2,M2,H⟩:=H;obtain⟨N2,P2⟩:∃j_:Int,(wrap64 (g1-1))=j_:=⟨_,rfl⟩;(try(have hq_:N2=p1:=P2.symm.trans q1;subst hq_));(first|rw[P2]at H|(try simp only[P2]at H));have Q2:(IntKind.i64.wrap (g1-1))=N2:=(Bv _).trans P2;replace H:=qd H;obtain⟨R2,H⟩:=H;replace H:=qd H;obtain⟨U2,H⟩:=H;replace H:=qs H;obtain⟨V2,W2,H⟩:=H;replace H:=qe H;obtain⟨X2,H⟩|⟨X2,H⟩:=H
        .simp only[Option.some.injEq,Prod.mk.injEq]at H;obtain⟨rfl,rfl⟩:=H;obtain⟨Y2,⟨⟩,a3,qi231,b3,c3⟩:=ain 0 x0.out 0;(try rw[Addr.add_zero']at a3);(try replace a3:=(HB.out.cell (World.block_lt_of_cell? w _ a3)).trans a3);have d3:0<=((N2):Int):=qo;have e3:((N2):Int)<((e1.length:Int):Int):=qo;obtain⟨g3,j3,l3,n3,gl36,cl36,HG36⟩:=Kd.R_form j1.out ko_;(first|cases l3|(injection l3 with ea_ en_ ec_;(first|subst ea_|(injection ea_ with ea_;subst ea_));subst ec_;clear en_));have GB36:=qa n3;have GG36:=qa HG36;clear n3 gl36 HG36;obtain⟨p3,q3⟩:=Kd.Jj 0 j1.out ((N2):Int) d3 e3;replace d3:=eq_true d3;replace e3:=eq_true e3;have HP38:=Kd.Ja j1.out ((N2):Int) (wrap64 (P1*(rd g0 0)))
         go_wp2_with(first|((with_reducible refine Gm (t:=3) (p:=68) rfl ?_);(try(rw[Hk wr];generalize hq_:World.drewN wr _=wr;have n0_:=qa (Kd.R_at hq_ j1.out);have n1_:=qa (Kd.R_at hq_ R1.out);have n2_:=qa (Kg hq_ HB.out);clear hq_ j1 R1 HB;have j1:=n0_;have R1:=n1_;have HB:=n2_;clear n0_ n1_ n2_;(try(have HP38:=Kd.Ja j1.out ((N2):Int) (wrap64 (P1*(rd g0 0)))))));refine Ga (t:=3) (p:=68) (v:=?vo_w39) (w1:=(wr.setCell ⟨g3,((N2):Int).toNat,none⟩ (.int .i64 (wrap64 (P1*(rd g0 0)))))) ?hg ?ho ?hn ?hr ?_;(case ho=>rfl);(case hg=>rfl);(case hn=>rfl);(case hr=>exact gr);intro r3 hw;have hg:wr.grownBy r3 (some g3):=(by rw[hw];exact HP38.2);have hp_:Kd.R ki 3 r3 w.heap.size (N1 (sv J1 v1 K1)) (.slice (some ⟨g3,0,none⟩) e1.length j3) V2:=(by rw[hw,W2.out];exact HP38.1);clear HP38;replace j1:=qa (hp_);replace R1:=qa (Kd.Hd (v:=(.slice (some ⟨g3,0,none⟩) e1.length j3)) (v1:=(.slice (some ⟨g3,0,none⟩) e1.length j3)) (ok:=(fun _=>True)) (mR R1 (fun _ hk=>⟨trivial,hk⟩)) hg (.inl rfl));replace HB:=qa ((by rw[hw];exact Fw (HB.out) GB36.out:Below w.heap.size w r3));clear hg hw hp_;have ql233:(((N2):Int)<((e1.length:Int):Int))=True:=eq_true (qo);obtain⟨s3,t3,v3⟩:=aj (Kd.Ab j1.out).2.2 (N2) (q:=(by have h_:((N2):Int)<((e1.length:Int):Int):=qo;first|(have e_:=(Kd.Ab j1.out).1;omega)|simpa only[W2.out,List.length_set] using h_));(first|simp only[add_plain]at s3|simp only[Ji]at s3|simp only[Addr.add,Nat.zero_add]at s3|skip)))
         repeat(go_quiet(fail);try go_wp2_with(first|((with_reducible refine Gm (t:=3) (p:=68) rfl ?_);(try(rw[Hk wr];generalize hq_:World.drewN wr _=wr;have n0_:=qa (Kd.R_at hq_ j1.out);have n1_:=qa (Kd.R_at hq_ R1.out);have n2_:=qa (Kg hq_ HB.out);clear hq_ j1 R1 HB;have j1:=n0_;have R1:=n1_;have HB:=n2_;clear n0_ n1_ n2_;(try(have HP38:=Kd.Ja j1.out ((N2):Int) (wrap64 (P1*(rd g0 0)))))));refine Ga (t:=3) (p:=68) (v:=?vo_w39) (w1:=(wr.setCell ⟨g3,((N2):Int).toNat,none⟩ (.int .i64 (wrap64 (P1*(rd g0 0)))))) ?hg ?ho ?hn ?hr ?_;(case ho=>rfl);(case hg=>rfl);(case hn=>rfl);(case hr=>exact gr);intro r3 hw;have hg:wr.grownBy r3 (some g3):=(by rw[hw];exact HP38.2);have hp_:Kd.R ki 3 r3 w.heap.size (N1 (sv J1 v1 K1)) (.slice (some ⟨g3,0,none⟩) e1.length j3) V2:=(by rw[hw,W2.out];exact HP38.1);clear HP38;replace j1:=qa (hp_);replace R1:=qa (Kd.Hd (v:=(.slice (some ⟨g3,0,none⟩) e1.length j3)) (v1:=(.slice (some ⟨g3,0,none⟩) e1.length j3)) (ok:=(fun _=>True)) (mR R1 (fun _ hk=>⟨trivial,hk⟩)) hg (.inl rfl));replace HB:=qa ((by rw[hw];exact Fw (HB.out) GB36.out:Below w.heap.size w r3));clear hg hw hp_;have ql233:(((N2):Int)<((e1.length:Int):Int))=True:=eq_true (qo);obtain⟨s3,t3,v3⟩:=aj (Kd.Ab j1.out).2.2 (N2) (q:=(by have h_:((N2):Int)<((e1.length:Int):Int):=qo;first|(have e_:=(Kd.Ab j1.out).1;omega)|simpa only[W2.out,List.length_set] using h_));(first|simp only[add_plain]at s3|simp only[Ji]at s3|simp only[Addr.add,Nat.zero_add]at s3|skip))))
         go_ret2;exact⟨_,z15_,z2_,bl⟩
        .replace H:=qg H;obtain⟨w3,H⟩|⟨w3,H⟩:=H
         .simp only[Option.some.injEq,Prod.mk.injEq]at H;obtain⟨rfl,rfl⟩:=H;obtain⟨Y2,⟨⟩,a3,qi231,b3,c3⟩:=ain 0 x0.out 0;(try rw[Addr.add_zero']at a3);(try replace a3:=(HB.out.cell (World.block_lt_of_cell? w _ a3)).trans a3);have d3:0<=((N2):Int):=qo;have e3:((N2):Int)<((e1.length:Int):Int):=qo;obtain⟨g3,j3,l3,n3,gl36,cl36,HG36⟩:=Kd.R_form j1.out ko_;(first|cases l3|(injection l3 with ea_ en_ ec_;(first|subst ea_|(injection ea_ with ea_;subst ea_));subst ec_;clear en_));have GB36:=qa n3;have GG36:=qa HG36;clear n3 gl36 HG36;obtain⟨p3,q3⟩:=Kd.Jj 0 j1.out ((N2):Int) d3 e3;replace d3:=eq_true d3;replace e3:=eq_true e3;have HP41:=Kd.Ja j1.out ((N2):Int) (wrap64 (P1*(rd g0 0)))
          go_wp2_with(first|((with_reducible refine Gm (t:=3) (p:=68) rfl ?_);(try(rw[Hk wr];generalize hq_:World.drewN wr _=wr;have n0_:=qa (Kd.R_at hq_ j1.out);have n1_:=qa (Kd.R_at hq_ R1.out);have n2_:=qa (Kg hq_ HB.out);clear hq_ j1 R1 HB;have j1:=n0_;have R1:=n1_;have HB:=n2_;clear n0_ n1_ n2_;(try(have HP41:=Kd.Ja j1.out ((N2):Int) (wrap64 (P1*(rd g0 0)))))));refine Ga (t:=3) (p:=68) (v:=?vo_w42) (w1:=(wr.setCell ⟨g3,((N2):Int).toNat,none⟩ (.int .i64 (wrap64 (P1*(rd g0 0)))))) ?hg ?ho ?hn ?hr ?_;(case ho=>rfl);(case hg=>rfl);(case hn=>rfl);(case hr=>exact gr);intro x3 hw;have hg:wr.grownBy x3 (some g3):=(by rw[hw];exact HP41.2);have hp_:Kd.R ki 3 x3 w.heap.size (N1 (sv J1 v1 K1)) (.slice (some ⟨g3,0,none⟩) e1.length j3) V2:=(by rw[hw,W2.out];exact HP41.1);clear HP41;replace j1:=qa (hp_);replace R1:=qa (Kd.Hd (v:=(.slice (some ⟨g3,0,none⟩) e1.length j3)) (v1:=(.slice (some ⟨g3,0,none⟩) e1.length j3)) (ok:=(fun _=>True)) (mR R1 (fun _ hk=>⟨trivial,hk⟩)) hg (.inl rfl));replace HB:=qa ((by rw[hw];exact Fw (HB.out) GB36.out:Below w.heap.size w x3));clear hg hw hp_;have ql233:(((N2):Int)<((e1.length:Int):Int))=True:=eq_true (qo);obtain⟨s3,t3,v3⟩:=aj (Kd.Ab j1.out).2.2 (N2) (q:=(by have h_:((N2):Int)<((e1.length:Int):Int):=qo;first|(have e_:=(Kd.Ab j1.out).1;omega)|simpa only[W2.out,List.length_set] using h_));(first|simp only[add_plain]at s3|simp only[Ji]at s3|simp only[Addr.add,Nat.zero_add]at s3|skip);have ql234:(((N2):Int)<((e1.length:Int):Int))=True:=eq_true (qo);obtain⟨y3,A3,B3⟩:=aj (Kd.Ab j1.out).2.2 (N2) (q:=(by have h_:((N2):Int)<((e1.length:Int):Int):=qo;first|(have e_:=(Kd.Ab j1.out).1;omega)|simpa only[W2.out,List.length_set] using h_));(first|simp only[add_plain]at y3|simp only[Ji]at y3|simp only[Addr.add,Nat.zero_add]at y3|skip)))
          repeat(go_quiet(fail);try go_wp2_with(first|((with_reducible refine Gm (t:=3) (p:=68) rfl ?_);(try(rw[Hk wr];generalize hq_:World.drewN wr _=wr;have n0_:=qa (Kd.R_at hq_ j1.out);have n1_:=qa (Kd.R_at hq_ R1.out);have n2_:=qa (Kg hq_ HB.out);clear hq_ j1 R1 HB;have j1:=n0_;have R1:=n1_;have HB:=n2_;clear n0_ n1_ n2_;(try(have HP41:=Kd.Ja j1.out ((N2):Int) (wrap64 (P1*(rd g0 0)))))));refine Ga (t:=3) (p:=68) (v:=?vo_w42) (w1:=(wr.setCell ⟨g3,((N2):Int).toNat,none⟩ (.int .i64 (wrap64 (P1*(rd g0 0)))))) ?hg ?ho ?hn ?hr ?_;(case ho=>rfl);(case hg=>rfl);(case hn=>rfl);(case hr=>exact gr);intro x3 hw;have hg:wr.grownBy x3 (some g3):=(by rw[hw];exact HP41.2);have hp_:Kd.R ki 3 x3 w.heap.size (N1 (sv J1 v1 K1)) (.slice (some ⟨g3,0,none⟩) e1.length j3) V2:=(by rw[hw,W2.out];exact HP41.1);clear HP41;replace j1:=qa (hp_);replace R1:=qa (Kd.Hd (v:=(.slice (some ⟨g3,0,none⟩) e1.length j3)) (v1:=(.slice (some ⟨g3,0,none⟩) e1.length j3)) (ok:=(fun _=>True)) (mR R1 (fun _ hk=>⟨trivial,hk⟩)) hg (.inl rfl));replace HB:=qa ((by rw[hw];exact Fw (HB.out) GB36.out:Below w.heap.size w x3));clear hg hw hp_;have ql233:(((N2):Int)<((e1.length:Int):Int))=True:=eq_true (qo);obtain⟨s3,t3,v3⟩:=aj (Kd.Ab j1.out).2.2 (N2) (q:=(by have h_:((N2):Int)<((e1.length:Int):Int):=qo;first|(have e_:=(Kd.Ab j1.out).1;omega)|simpa only[W2.out,List.length_set] using h_));(first|simp only[add_plain]at s3|simp only[Ji]at s3|simp only[Addr.add,Nat.zero_add]at s3|skip);have ql234:(((N2):Int)<((e1.length:Int):Int))=True:=eq_true (qo);obtain⟨y3,A3,B3⟩:=aj (Kd.Ab j1.out).2.2 (N2) (q:=(by have h_:((N2):Int)<((e1.length:Int):Int):=qo;first|(have e_:=(Kd.Ab j1.out).1;omega)|simpa only[W2.out,List.length_set] using h_));(first|simp only[add_plain]at y3|simp only[Ji]at y3|simp only[Addr.add,Nat.zero_add]at y3|skip))))
          go_ret2;exact⟨_,z15_,z2_,bl⟩
         .have H':=qa H;clear H;obtain⟨Y2,⟨⟩,a3,qi231,b3,c3⟩:=ain 0 x0.out 0;(try rw[Addr.add_zero']at a3);(try replace a3:=(HB.out.cell (World.block_lt_of_cell? w _ a3)).trans a3);have d3:0<=((N2):Int):=qo;have e3:((N2):Int)<((e1.length:Int):Int):=qo;obtain⟨g3,j3,l3,n3,gl36,cl36,HG36⟩:=Kd.R_form j1.out ko_;(first|cases l3|(injection l3 with ea_ en_ ec_;(first|subst ea_|(injection ea_ with ea_;subst ea_));subst ec_;clear en_));have GB36:=qa n3;have GG36:=qa HG36;clear n3 gl36 HG36;obtain⟨p3,q3⟩:=Kd.Jj 0 j1.out ((N2):Int) d3 e3;replace d3:=eq_true d3;replace e3:=eq_true e3;have HP43:=Kd.Ja j1.out ((N2):Int) (wrap64 (P1*(rd g0 0)))
          go_wp2_with(first|((with_reducible refine Gm (t:=3) (p:=68) rfl ?_);(try(rw[Hk wr];generalize hq_:World.drewN wr _=wr;have n0_:=qa (Kd.R_at hq_ j1.out);have n1_:=qa (Kd.R_at hq_ R1.out);have n2_:=qa (Kg hq_ HB.out);clear hq_ j1 R1 HB;have j1:=n0_;have R1:=n1_;have HB:=n2_;clear n0_ n1_ n2_;(try(have HP43:=Kd.Ja j1.out ((N2):Int) (wrap64 (P1*(rd g0 0)))))));refine Ga (t:=3) (p:=68) (v:=?vo_w44) (w1:=(wr.setCell ⟨g3,((N2):Int).toNat,none⟩ (.int .i64 (wrap64 (P1*(rd g0 0)))))) ?hg ?ho ?hn ?hr ?_;(case ho=>rfl);(case hg=>rfl);(case hn=>rfl);(case hr=>exact gr);intro C3 hw;have hg:wr.grownBy C3 (some g3):=(by rw[hw];exact HP43.2);have hp_:Kd.R ki 3 C3 w.heap.size (N1 (sv J1 v1 K1)) (.slice (some ⟨g3,0,none⟩) e1.length j3) V2:=(by rw[hw,W2.out];exact HP43.1);clear HP43;replace j1:=qa (hp_);replace R1:=qa (Kd.Hd (v:=(.slice (some ⟨g3,0,none⟩) e1.length j3)) (v1:=(.slice (some ⟨g3,0,none⟩) e1.length j3)) (ok:=(fun _=>True)) (mR R1 (fun _ hk=>⟨trivial,hk⟩)) hg (.inl rfl));replace HB:=qa ((by rw[hw];exact Fw (HB.out) GB36.out:Below w.heap.size w C3));clear hg hw hp_;have ql233:(((N2):Int)<((e1.length:Int):Int))=True:=eq_true (qo);obtain⟨s3,t3,v3⟩:=aj (Kd.Ab j1.out).2.2 (N2) (q:=(by have h_:((N2):Int)<((e1.length:Int):Int):=qo;first|(have e_:=(Kd.Ab j1.out).1;omega)|simpa only[W2.out,List.length_set] using h_));(first|simp only[add_plain]at s3|simp only[Ji]at s3|simp only[Addr.add,Nat.zero_add]at s3|skip);have ql234:(((N2):Int)<((e1.length:Int):Int))=True:=eq_true (qo);obtain⟨y3,A3,B3⟩:=aj (Kd.Ab j1.out).2.2 (N2) (q:=(by have h_:((N2):Int)<((e1.length:Int):Int):=qo;first|(have e_:=(Kd.Ab j1.out).1;omega)|simpa only[W2.out,List.length_set] using h_));(first|simp only[add_plain]at y3|simp only[Ji]at y3|simp only[Addr.add,Nat.zero_add]at y3|skip)))
          repeat(go_quiet(fail);try go_wp2_with(first|((with_reducible refine Gm (t:=3) (p:=68) rfl ?_);(try(rw[Hk wr];generalize hq_:World.drewN wr _=wr;have n0_:=qa (Kd.R_at hq_ j1.out);have n1_:=qa (Kd.R_at hq_ R1.out);have n2_:=qa (Kg hq_ HB.out);clear hq_ j1 R1 HB;have j1:=n0_;have R1:=n1_;have HB:=n2_;clear n0_ n1_ n2_;(try(have HP43:=Kd.Ja j1.out ((N2):Int) (wrap64 (P1*(rd g0 0)))))));refine Ga (t:=3) (p:=68) (v:=?vo_w44) (w1:=(wr.setCell ⟨g3,((N2):Int).toNat,none⟩ (.int .i64 (wrap64 (P1*(rd g0 0)))))) ?hg ?ho ?hn ?hr ?_;(case ho=>rfl);(case hg=>rfl);(case hn=>rfl);(case hr=>exact gr);intro C3 hw;have hg:wr.grownBy C3 (some g3):=(by rw[hw];exact HP43.2);have hp_:Kd.R ki 3 C3 w.heap.size (N1 (sv J1 v1 K1)) (.slice (some ⟨g3,0,none⟩) e1.length j3) V2:=(by rw[hw,W2.out];exact HP43.1);clear HP43;replace j1:=qa (hp_);replace R1:=qa (Kd.Hd (v:=(.slice (some ⟨g3,0,none⟩) e1.length j3)) (v1:=(.slice (some ⟨g3,0,none⟩) e1.length j3)) (ok:=(fun _=>True)) (mR R1 (fun _ hk=>⟨trivial,hk⟩)) hg (.inl rfl));replace HB:=qa ((by rw[hw];exact Fw (HB.out) GB36.out:Below w.heap.size w C3));clear hg hw hp_;have ql233:(((N2):Int)<((e1.length:Int):Int))=True:=eq_true (qo);obtain⟨s3,t3,v3⟩:=aj (Kd.Ab j1.out).2.2 (N2) (q:=(by have h_:((N2):Int)<((e1.length:Int):Int):=qo;first|(have e_:=(Kd.Ab j1.out).1;omega)|simpa only[W2.out,List.length_set] using h_));(first|simp only[add_plain]at s3|simp only[Ji]at s3|simp only[Addr.add,Nat.zero_add]at s3|skip);have ql234:(((N2):Int)<((e1.length:Int):Int))=True:=eq_true (qo);obtain⟨y3,A3,B3⟩:=aj (Kd.Ab j1.out).2.2 (N2) (q:=(by have h_:((N2):Int)<((e1.length:Int):Int):=qo;first|(have e_:=(Kd.Ab j1.out).1;omega)|simpa only[W2.out,List.length_set] using h_));(first|simp only[add_plain]at y3|simp only[Ji]at y3|simp only[Addr.add,Nat.zero_add]at y3|skip))))
          go_roundg k3
          case measure=>have:=P0.out;have:=HK2.out;have:=HK3.out;omega
          case rel=>exact⟨(V2),(wrap64 (g1+1)),(sd),H',⟨by have:=P0.out;have:=HK2.out;have:=HK3.out;omega⟩,⟨mR j1 (fun _ hk=>trivial)⟩,⟨bl⟩⟩
     .simp only[Option.some.injEq,Prod.mk.injEq]at H;obtain⟨rfl,rfl⟩:=H;go_wp2
      repeat(go_quiet(fail);try go_wp2)
      go_ret2;exact⟨_,er,kR j1,bl⟩
   .rw[if_neg R0]at H;exact absurd H (by simp)
def Ie.f (k:Nat) (a0:LI):Option (LI×Bool):=(Dx.f k 0).bind fun b0=>((Bg.f k b0 a0).bind fun c0=>(some (c0.1,c0.2)))
theorem Ie.c (k:Nat) (a0:OA) (b0:Nat) (c0:LI) (d0:LI) (e0:Bool) (w:World) (g0:Kd.C ki w a0 c0.length c0) (j0:c0.length<=b0) (h:Ie.f k c0=some (d0,e0)):
  Calls Tryz.prog 98 #[.slice a0 c0.length b0] w fun e w'=>∃v0_:Value,e= .returned (.tuple #[v0_,.bool e0])/\Kd.R ki 3 w' w.heap.size (fun _=>True) v0_ d0/\Below w.heap.size w w':=by
 have l0:=qa g0;have n0:=qa j0;clear g0 j0;have HB:=qa (Below.refl w.heap.size w);have H:=h;unfold Ie.f at H;clear h;replace H:=qb H;obtain⟨p0,q0,H⟩:=H;replace H:=qb H;obtain⟨⟨r0,s0⟩,t0,H⟩:=H;(try dsimp only at H);simp only[Option.some.injEq,Prod.mk.injEq]at H;obtain⟨rfl,rfl⟩:=H
 go_enter Tryz.func98,Tryz.ntmps98
 go_wp2_with(first|(refine ge_ 4 Tryz.func96 (Dx.c k 0 p0 _ q0.out) fun v0 w0 x0 hb=>?_;have y0:=lR x0;replace HB:=bs hb;obtain⟨A0,B0,rfl⟩:=Kd.An y0.out)|(refine ge_ 6 Tryz.func141 (Bg.c k _ _ p0 _ _ c0 r0 s0 _ (cx (Kd.Ab y0.out).2.2) ((Kd.Ab y0.out).2.1) (cx (Kd.Ai l0.out HB.out)) n0.out t0.out) fun C0 D0 x0 hb=>?_;have E0:=lR (Kd.Cl x0 (Kd.R_lt (kR y0)));replace y0:=eR y0 (Kd.Av x0) hb;replace HB:=bs hb))
 go_ret2;exact⟨_,er,mR E0 (fun _ hk=>trivial),bl⟩

def slices_Clip_int_int.f (a0:LL):Option LL:=some a0
-- IMPORT Derived.StillTailTactics
theorem slices_Clip_int_int.calls (A:OA) (n c:Nat) (w:World) (hn:n<=c):
  Calls Tryz.prog 100 #[.slice A n c] w fun e w'=>e= .returned (.slice A n n)/\w'=w:=by
 obtain⟨i0,a0,_,hsz,_⟩:=info_parts info22
 have hcut:∀W:World,(Instr.slice 23 (.slice A n c) none (some (.int .i64 (n:Int))) (some (.int .i64 (n:Int)))).run Tryz.prog W= .ok (.slice A n n) W:=by
  intro W;(have hel:Tryz.prog.elem 23=22:=by simp[Program.elem,Tryz.underlying23]);(have hu:Tryz.prog.underlying 23=some (.slice (Tryz.prog.elem 23)):=by rw[hel];exact Tryz.underlying23);(have ha:(A.map fun x=>x.add 0)=A:=by cases A <;> simp[Addr.add]);rw[run_slice_hm W 23 A n c hu .i64 .i64 n n ko_ ko_ ko_,hel]
  simp[sizeOf,typeInfo,a0,sliced,Result.andThen,ha]
 clear a0 hsz
 go_enter Tryz.func100,Tryz.ntmps100
 go_wp2;go_ret;exact⟨rfl,rfl⟩

def Df.l0:Nat->LI->LI->Int->Int->Option (Bool)
 |0,_,_,_,_=>none
 |k+1,a0,b0,c0,d0=>if d0<c0 then(if 0<=d0 then(if d0<(a0.length:Int)then(if d0<(b0.length:Int)then(if(rd a0 d0)=(rd b0 d0)then(Df.l0 k a0 b0 c0 (wrap64 (d0+1)))else(some false))else(none))else(none))else(none))else(some true)
def Df.f (k:Nat) (a0:LI) (b0:LI):Option (Bool):=if(a0.length:Int)=(b0.length:Int)then(Df.l0 k a0 b0 (a0.length:Int) 0)else(some false)
theorem Df.c (k:Nat) (a0:OA) (b0:Nat) (c0:LI) (d0:OA) (e0:Nat) (g0:LI) (r:Bool) (w:World) (j0:Kd.C ki w a0 c0.length c0) (n0:c0.length<=b0) (p0:Kd.C ki w d0 g0.length g0) (q0:g0.length<=e0) (h:Df.f k c0 g0=some r):
  Calls Tryz.prog 101 #[.slice a0 c0.length b0,.slice d0 g0.length e0] w fun e w'=>e= .returned (.bool r)/\Drawn0 w w':=by
 have r0:=qa j0;have s0:=qa n0;clear j0 n0;have t0:=qa p0;have v0:=qa q0;clear p0 q0;have H:=h;unfold Df.f at H;clear h
 by_cases w0:(c0.length:Int)=(g0.length:Int)
 .rw[if_pos w0]at H;have x0:((c0.length:Int)==(g0.length:Int))=true:=beq_iff_eq.mpr w0;have y0:((c0.length:Int) != (g0.length:Int))=false:=bne_eq_false_iff_eq.mpr w0;(have A0:(c0.length==g0.length)=true:=by first|simpa using w0|(simp at w0 ⊢;omega));clear w0;have H':=qa H;clear H
  go_enter Tryz.func101,Tryz.ntmps101
  go_wp2
  repeat(go_quiet(fail);try go_wp2)
  go_loopg [13] k (fun kq B0 w'=>∃(C0:Int),B0= .int .i64 C0/\Aside0 (Df.l0 kq c0 g0 (c0.length:Int) C0=some r)/\Aside0 (kq<=k)/\Drawn0 w w')
  case atStart=>exact⟨(0),(sd),H',⟨Nat.le_refl _⟩,dr⟩
  case round=>
   clear H';obtain⟨C0,rfl,HA,HK1,⟨m1,rfl⟩⟩:=hrel;obtain⟨k1,rfl,H⟩:=kz gk HA;clear HA;simp only[Df.l0]at H;replace H:=qe H;obtain⟨D0,H⟩|⟨D0,H⟩:=H
   .replace H:=qd H;obtain⟨E0,H⟩:=H;replace H:=qd H;obtain⟨G0,H⟩:=H;replace H:=qd H;obtain⟨J0,H⟩:=H;replace H:=qq H;obtain⟨K0,L0,H⟩|⟨M0,K0,L0,H⟩:=H
    .have H':=qa H;clear H;obtain⟨N0,⟨⟩,P0,Q0,R0⟩:=ai r0.out C0;obtain⟨U0,⟨⟩,V0,W0,X0⟩:=ai t0.out C0;go_wp2
     repeat(go_quiet(fail);try go_wp2)
     go_roundg k1
     case measure=>have:=HK1.out;omega
     case rel=>exact⟨(wrap64 (C0+1)),(sd),H',⟨by have:=HK1.out;omega⟩,dr⟩
    .obtain rfl:=sj H;obtain⟨N0,⟨⟩,P0,Q0,R0⟩:=ai r0.out C0;obtain⟨U0,⟨⟩,V0,W0,X0⟩:=ai t0.out C0;go_wp2
     repeat(go_quiet(fail);try go_wp2)
     go_ret;exact⟨sd,dr⟩
   .obtain rfl:=sj H;go_wp2
    repeat(go_quiet(fail);try go_wp2)
    go_ret;exact⟨sd,dr⟩
 .rw[if_neg w0]at H;have x0:((c0.length:Int)==(g0.length:Int))=false:=beq_eq_false_iff_ne.mpr w0;have y0:((c0.length:Int) != (g0.length:Int))=true:=bne_iff_ne.mpr w0;(have A0:(c0.length==g0.length)=false:=by first|simpa using w0|(simp at w0 ⊢;omega));obtain rfl:=sj H
  go_enter Tryz.func101,Tryz.ntmps101
  go_wp2
  repeat(go_quiet(fail);try go_wp2)
  go_ret;exact⟨sd,dr⟩
end Go.Proofs.YtdmlkjjlgkdnlaaGreatDoor.PFnDeskSay
