import Derived.Test.YtdmlkjjlgkdnlaaGreatDoorPFnDeskSayx29
namespace Go.Proofs.YtdmlkjjlgkdnlaaGreatDoor.PFnDeskSay
open Go.RowKit Go.Proofs.YtdmlkjjlgkdnlaaGreatDoorW.PrintWords Go.Proofs.YtdmlkjjlgkdnlaaGreatDoorW.PrintLast Go.Proofs.YtdmlkjjlgkdnlaaGreatDoorW.PrintMore
attribute [local go_sem] Iz Ix Jy Jx Hy Hx Iy Iw
set_option linter.unusedVariables false
set_option linter.unusedSimpArgs false
set_option maxHeartbeats 8000000
set_option maxRecDepth 100000
mutual
def Ap.j0:Nat->BA->LB->List (S55)->Option (Int×Int×Int×Bool)
 |0,_,_,_=>none
 |k+1,a0,b0,c0=>if(b0.length:Int)=3 then(if 1<(b0.length:Int)then((Bj.f k (rdOf ByteArray.empty b0 1)).bind fun d0=>(if 2<(b0.length:Int)then((Bj.f k (rdOf ByteArray.empty b0 2)).bind fun e0=>(if c0.length<5864062014805 then(Ap.j1 k a0 (c0++[(⟨3,d0,e0⟩:S55)]))else(none)))else(none)))else(none))else(Ap.j1 k a0 c0)
def Ap.j1:Nat->BA->List (S55)->Option (Int×Int×Int×Bool)
 |0,_,_=>none
 |k+1,a0,c0=>Ap.l0 k a0 c0 0
def Ap.l0:Nat->BA->List (S55)->Int->Option (Int×Int×Int×Bool)
 |0,_,_,_=>none
 |k+1,a0,c0,g0=>if g0<(c0.length:Int)then(if a0.toList=([]:List UInt8)then(Ap.l0 k a0 c0 (wrap64 (g0+1)))else(if 0<=g0 then((Au.f k ((Iv c0 g0).f0) ((Iv c0 g0).f1) ((Iv c0 g0).f2)).bind fun n0=>(if n0.toList=a0.toList then(some ((Iv c0 g0).f0,(Iv c0 g0).f1,(Iv c0 g0).f2,true))else(Ap.l0 k a0 c0 (wrap64 (g0+1)))))else(none)))else(some (0,0,0,false))
end

def Ap.f (k:Nat) (a0:BA):Option (Int×Int×Int×Bool):=(Fl.f k a0 32).bind fun b0=>((some (([(⟨2,0,0⟩:S55),(⟨4,0,0⟩:S55)]:List (S55)):List (S55))).bind fun c0=>(if(b0.length:Int)=2 then(if 1<(b0.length:Int)then((Bj.f k (rdOf ByteArray.empty b0 1)).bind fun d0=>((Bj.f k (rdOf ByteArray.empty b0 1)).bind fun e0=>((some (([(⟨0,d0,0⟩:S55),(⟨1,e0,0⟩:S55)]:List (S55)):List (S55))).bind fun g0=>(if c0.length+g0.length<5864062014805 then(Ap.j0 k a0 b0 (c0++g0))else(none)))))else(none))else(Ap.j0 k a0 b0 c0)))
def Ap.T4:Bool×List (List Nat×List Nat):=(true,[([],[]),([],[]),([1],[1]),([2],[2]),([3],[3]),([4],[4]),([],[]),([6],[6]),([7],[7]),([8,4],[8]),([9],[9]),([5,10],[5,10]),([0,11,9],[0,11]),([12,12,0,1,2,3,4,5,6,7,8,9,10,11,12],[0,12])])
def Ap.B4:List Nat:=[0,0,2,6,14,30,0,64,192,478,990,2046,4095,8191]
theorem Ap.tab4:rtab .any (opsOf Tryz.f41 4)=Ap.T4:=by kernel_rfl
theorem Ap.bits4:Gg Ap.T4.2 Ap.B4=true:=by kernel_rfl
def Ap.T6:Bool×List (List Nat×List Nat):=(true,[([],[]),([],[]),([1],[1]),([2],[2]),([3],[3]),([],[]),([5],[5]),([6],[6]),([7,4],[7]),([4,8],[4,8]),([9],[9]),([0,10,8],[0,10]),([11,11,0,1,2,3,4,5,6,7,8,9,10,11],[0,11])])
def Ap.B6:List Nat:=[0,0,2,6,14,0,32,96,254,510,1022,2047,4095]
theorem Ap.tab6:rtab .any (opsOf Tryz.f41 6)=Ap.T6:=by kernel_rfl
theorem Ap.bits6:Gg Ap.T6.2 Ap.B6=true:=by kernel_rfl
theorem Ap.c (k:Nat) (a0:BA) (b0:Int) (c0:Int) (d0:Int) (e0:Bool) (w:World) (h:Ap.f k a0=some (b0,c0,d0,e0)):
  Calls Tryz.prog 41 #[.string a0] w fun e w'=>e= .returned (.tuple #[.agg #[.int .i64 b0,.int .i64 c0,.int .i64 d0],.bool e0])/\Below w.heap.size w w':=by
 have g0:=Tryz.underlying55;have HB:=qa (Below.refl w.heap.size w);have H:=h;unfold Ap.f at H;clear h;replace H:=qb H;obtain⟨n0,p0,H⟩:=H;replace H:=qs H;obtain⟨q0,r0,H⟩:=H;have s0:=qa H;clear H
 go_enter Tryz.func41,Tryz.ntmps41
 go_upto_if 14 with(go_big_may;first|(refine bx 2 #[.int .i64 0,.int .i64 0,.int .i64 0] 55 ?_;intro t0 hg v0 hbox hb;have w0:=qa (hbox);have x0:=gw hg;replace HB:=bs hb;clear hb hbox hg)|(refine ge_ 8 Tryz.func47 (Fl.c k a0 32 n0 _ p0.out) fun y0 A0 B0 hb=>?_;have C0:=lR B0;replace w0:=qbb w0 hb;replace HB:=bs hb)|((with_reducible refine El (N:=11) rfl ?_);refine Kd.R_lit k55 _ 55 ?hg (N:=11) ?hd (xs:=([(⟨2,0,0⟩:S55),(⟨4,0,0⟩:S55)]:List (S55))) (inner:=[.int .i64 2,.int .i64 0,.int .i64 0,.int .i64 4,.int .i64 0,.int .i64 0]) (ok:=fun _=>True) (okp:=fun _=>True) ?hr ?hp (fun _ hk=>hk) trivial (Below.refl _ _) (Nat.le_refl _) (by simp) ?_;(case hd=>rfl);(case hg=>rfl);(case hr=>exact gr);(case hp=>exact(Reps.c3 (show Kd.M k55 _ _ _ (⟨2,0,0⟩:S55) [.int .i64 2,.int .i64 0,.int .i64 0]from(k55_mkM _ _ _ (⟨2,0,0⟩:S55))) (Reps.c3 (show Kd.M k55 _ _ _ (⟨4,0,0⟩:S55) [.int .i64 4,.int .i64 0,.int .i64 0]from(k55_mkM _ _ _ (⟨4,0,0⟩:S55))) (Reps.none _ _))));intro D0 E0 G0 hb hg_ hnew_;clear hg_ hnew_;(first|rw[<-r0.out]at G0|(simp only[Int.reduceToNat]at G0;rw[<-r0.out]at G0));replace C0:=bR C0 hb;have J0:=lR (Kd.R_newB G0 (g:=t0) (o:= .cells #[.int .i64 0,.int .i64 0,.int .i64 0] 55 (0,0)) (bk));replace w0:=qbb w0 hb;replace HB:=bs hb;clear hb G0;obtain⟨K0,L0,rfl⟩:=Kd.An C0.out))
 (try simp only[Act.put,sA,sZ,sS])
 go_cut [5] (fun M0 wc=>∃(kq:Nat) (N0:List (S55)),Aside0 (Ap.j0 kq a0 n0 N0=some (b0,c0,d0,e0))/\Aside0 (kq<=k)/\Aside0 (Kd.R Kd.string 9 wc w.heap.size (fun _=>True) (.slice K0 n0.length L0) n0)/\Aside0 (Kd.R k55 55 wc w.heap.size (fun k_=>k_≠t0) M0 N0)/\Aside0 (wc.heap[t0]? =some (.cells #[.int .i64 0,.int .i64 0,.int .i64 0] 55 (0,0)))/\Aside0 (Below w.heap.size w wc))
 case first=>
  have H:=s0.out;clear s0;replace H:=qq H;obtain⟨P0,Q0,H⟩|⟨R0,P0,Q0,H⟩:=H
  ·(first|rw[P0]|(simp only[Bv,Fc];rw[P0])|skip);replace H:=qL 1 H;obtain⟨U0,V0,H⟩:=H;replace H:=qb H;obtain⟨W0,X0,H⟩:=H;replace H:=qb H;obtain⟨Y0,a1,H⟩:=H;replace H:=qs H;obtain⟨b1,c1,H⟩:=H;replace H:=qn H;obtain⟨d1,H⟩:=H;have e1:=qa d1;clear d1;obtain⟨g1,hy_⟩:∃y_:List (S55),y_=(q0++b1):=⟨_,rfl⟩;replace H:(Ap.j0 k a0 n0 g1)=some (b0,c0,d0,e0):=yh;have l1:=qa hy_;clear hy_;have H':=qa H;clear H
   try go_wp2
   replace C0:=qa (Kd.Fp C0.out);replace J0:=qa (Kd.Fp J0.out);replace w0:=qa (Ak w0.out);replace HB:=qa (Dd HB.out);have n1:0<=(1:Int):=ko_;have p1:1<(n0.length:Int):=qo;obtain⟨q1,r1,s1⟩:=Kd.Hz (Kd.Ab C0.out).2.2 1 n1 p1;cases r1;(try simp only[show(1:Int).toNat =1 from rfl,Nat.reduceMul,Nat.reduceEqDiff,Go.Addr.add,↓reduceIte]at s1);have qi850:(1<n0.length)=True:=eq_true ko_;(try rw[show((1:Int)).toNat =1 from rfl]at s1);replace n1:=eq_true n1;replace p1:=eq_true p1;have t1:0<=(1:Int):=ko_;have v1:1<(n0.length:Int):=qo;obtain⟨w1,x1,y1⟩:=Kd.Hz (Kd.Ab C0.out).2.2 1 t1 v1;obtain rfl:q1=w1:=(by injection x1);(try simp only[show(1:Int).toNat =1 from rfl,Nat.reduceMul,Nat.reduceEqDiff,Go.Addr.add,↓reduceIte]at y1);have qi852:(1<n0.length)=True:=eq_true ko_;(try rw[show((1:Int)).toNat =1 from rfl]at y1);replace t1:=eq_true t1;replace v1:=eq_true v1;refine Hq (n:=14) (S:=fun w'=>w'.cell? ⟨q1.block,q1.off+1,none⟩=some (.string (rdOf ByteArray.empty n0 1))/\w'.cell? ⟨q1.block,q1.off+1,none⟩=some (.string (rdOf ByteArray.empty n0 1))) (ds:=[12]) _ kr_ rfl rfl ⟨s1,y1⟩ (fun hHeld=>?_);refine Gd Ap.tab4 Ap.bits4 (fun HT_ HW_=>?_);generalize E0.drew=A1 at C0 J0 w0 HB s1 y1 hHeld ⊢;refine pur 0 15 (bz 14 1) HT_ ?_;refine pur 1 16 (bz 14 3) HT_ ?_;refine pur 2 17 (bz 14 7) HT_ ?_;refine pur 6 21 (bz 14 71) HT_ ?_;refine pur 7 22 (bz 14 199) HT_ ?_;refine tk 3 18 (bz 14 207) hHeld (Ez HT_.out HW_.out kr_) ?_;refine tk 8 23 (bz 14 463) hHeld (Ez HT_.out HW_.out kr_) ?_;(refine o1 4 (some 19) (bz 14 479) (Dr HT_.out kr_) fun K hK=>?_);(refine gsd Tryz.func48 (Bj.c k (rdOf ByteArray.empty n0 1) W0 _ X0.out) fun nd=>?_);refine hK.out _ _ ⟨hHeld.1,hHeld.2⟩ (fun hHeld=>?_);clear hK K;refine nm 19 ?_;refine pur 5 20 (bz 14 511) HT_ ?_;(refine o1 9 (some 24) (bz 14 1023) (Dr HT_.out kr_) fun K hK=>?_);(refine gsd Tryz.func48 (Bj.c k (rdOf ByteArray.empty n0 1) Y0 _ a1.out) fun nd=>?_);refine hK.out _ _ ⟨hHeld.1,hHeld.2⟩ (fun hHeld=>?_);clear hK K;refine nm 24 ?_;refine pur 10 25 (bz 14 2047) HT_ ?_;(refine o1 11 (some 26) (bz 14 4095) (Dr HT_.out kr_) fun K hK=>?_);refine Kd.Hl k55 _ 55 ?hg (N:=26) ?hd (xs:=([(⟨0,W0,0⟩:S55),(⟨1,Y0,0⟩:S55)]:List (S55))) (inner:=[.int .i64 0,.int .i64 W0,.int .i64 0,.int .i64 1,.int .i64 Y0,.int .i64 0]) (ok:=fun _=>True) (okp:=fun _=>True) ?hr ?hp (fun _ hk=>hk) trivial (Below.refl _ _) (Nat.le_refl _) (by simp) ?_;(case hd=>rfl);(case hg=>rfl);(case hr=>exact gr);(case hp=>exact(Reps.c3 (show Kd.M k55 _ _ _ (⟨0,W0,0⟩:S55) [.int .i64 0,.int .i64 W0,.int .i64 0]from(k55_mkM _ _ _ (⟨0,W0,0⟩:S55))) (Reps.c3 (show Kd.M k55 _ _ _ (⟨1,Y0,0⟩:S55) [.int .i64 1,.int .i64 Y0,.int .i64 0]from(k55_mkM _ _ _ (⟨1,Y0,0⟩:S55))) (Reps.none _ _))));intro B1 C1 D1 hb hg_ hnew_;have HS0_:=(hb.cell (World.block_lt_of_cell? _ _ (hHeld.1))).trans (hHeld.1);have HS1_:=(hb.cell (World.block_lt_of_cell? _ _ (hHeld.2))).trans (hHeld.2);clear hg_ hnew_;(first|rw[<-c1.out]at D1|(simp only[Int.reduceToNat]at D1;rw[<-c1.out]at D1));replace C0:=bR C0 hb;have E1:=lR (Kd.R_newB (Kd.Cl D1 (Kd.R_lt (kR J0))) (g:=t0) (o:= .cells #[.int .i64 0,.int .i64 0,.int .i64 0] 55 (0,0)) (bk));replace J0:=eR J0 (Kd.Av D1) hb;replace w0:=qbb w0 hb;replace HB:=bs hb;clear hb D1;obtain⟨G1,J1,K1⟩:=Kd.An E1.out;(first|subst K1|(injection K1 with f1_ f2_ f3_;have f4_:=f1_.symm;have f5_:=f3_.symm;clear f1_ f2_ f3_;subst f4_;subst f5_));refine hK.out _ _ ⟨HS0_,HS1_⟩ (fun hHeld=>?_);clear hK K;refine nm 26 ?_;refine last_ (i:=12) (N:=some 27) (bz 14 8191) rfl rfl (Dr HT_.out kr_) kd_ (fun K hK=>?_);refine Kd.R_append_rows_step k55 (w0:=w) w.heap.size (by rfl) (.tmp 15) (.tmp 26) 47 55 (.agg #[(.int .i64 0),(.int .i64 0),(.int .i64 0)]) 24 rfl Tryz.underlying47 info55 rfl kd_ ko_ D0 q0 b1 _ _ _ (fun k_=>some k_≠(sv G1 b1 J1).ownBlock /\k_≠t0) (fun _=>False) rfl rfl ?aO ?aR (fun _ _ h=>h) (fun _ h=>h.elim) ?aF ?aB ?aS ?aL ?_;(case aR=>exact cx (Kd.Ab E1.out).2.2);(case aB=>exact(bl));(case aF=>exact(fun k_ hk=>⟨Kd.Ii (Kd.R_lt (kR E1)) k_ hk,Kd.freshB (g:=t0) (o:= .cells #[.int .i64 0,.int .i64 0,.int .i64 0] 55 (0,0)) (bk) k_ hk⟩));(case aO=>exact(mR J0 (fun _ hk=>⟨hk.2,hk.1.2⟩)));(case aS=>exact(Cj (bl)));(case aL=>have:=e1.out;omega);intro L1 M1 ho hb hg hat;rw[<-l1.out]at ho;replace w0:=qa (Bn (g:=t0) (o:= .cells #[.int .i64 0,.int .i64 0,.int .i64 0] 55 (0,0)) (bk) hg (Kd.R_away J0.out (fun _ hk=>hk.1.2)));replace C0:=qa (Kd.Hu (kR C0) (Kd.Ef (kR J0)) kd_ hg);replace E1:=qa (Kd.Hd (ok:=(fun k_=>k_≠t0)) (mR E1 (fun _ hk=>⟨hk.2,hk.1.2⟩)) hg hat);replace HB:=qa (hb);have N1:=qa (ho);clear J0;clear ho hb hg hat;refine hK.out _ _ ?_;clear hK K;refine nm 27 ?_;refine pur 13 5 (bz 14 16383) HT_ ?_;refine Ka (Hs HT_.out kr_) ?_
   try go_wp2
   go_meet
   case rel=>exact⟨_,(g1),H',⟨by first|omega|exact Nat.le_refl _⟩,⟨kR C0⟩,⟨mR N1 (fun _ hk=>hk.2)⟩,⟨bk⟩,⟨bl⟩⟩
  ·(first|rw[P0]|(simp only[Bv,Fc];rw[P0])|skip);have H':=qa H;clear H;go_wp2;go_meet
   case rel=>exact⟨_,(q0),H',⟨by first|omega|exact Nat.le_refl _⟩,⟨kR C0⟩,⟨mR J0 (fun _ hk=>hk.2)⟩,⟨bk⟩,⟨bl⟩⟩
 case rest=>
  clear s0;obtain⟨kq,N0,HA,P1,Q1,R1,w0,HB⟩:=hcut;obtain⟨U1,rfl,H⟩:=kz kq HA;clear HA;simp only[Ap.j0]at H;have V1:=qa H;clear H
  go_upto_if 30 with(fail)
  go_cut [5] (fun M0 wc=>∃(kq:Nat) (W1:List (S55)),Aside0 (Ap.j1 kq a0 W1=some (b0,c0,d0,e0))/\Aside0 (kq<=U1)/\Aside0 (Kd.R k55 55 wc w.heap.size (fun k_=>k_≠t0) M0 W1)/\Aside0 (wc.heap[t0]? =some (.cells #[.int .i64 0,.int .i64 0,.int .i64 0] 55 (0,0)))/\Aside0 (Below w.heap.size w wc))
  case first=>
   have H:=V1.out;clear V1;replace H:=qq H;obtain⟨X1,Y1,H⟩|⟨a2,X1,Y1,H⟩:=H
   ·(first|rw[X1]|(simp only[Bv,Fc];rw[X1])|skip);replace H:=qL 1 H;obtain⟨b2,c2,H⟩:=H;replace H:=qb H;obtain⟨d2,e2,H⟩:=H;replace H:=qL 2 H;obtain⟨g2,j2,H⟩:=H;replace H:=qb H;obtain⟨l2,n2,H⟩:=H;replace H:=qn H;obtain⟨p2,H⟩:=H;have q2:=qa p2;clear p2;obtain⟨r2,hy_⟩:∃y_:List (S55),y_=(N0++[(⟨3,d2,l2⟩:S55)]):=⟨_,rfl⟩;replace H:(Ap.j1 U1 a0 r2)=some (b0,c0,d0,e0):=yh;have s2:=qa hy_;clear hy_;have H':=qa H;clear H
    try go_wp2
    replace Q1:=qa (Kd.Fp Q1.out);replace R1:=qa (Kd.Fp R1.out);replace w0:=qa (Ak w0.out);replace HB:=qa (Dd HB.out);have t2:0<=(1:Int):=ko_;have v2:1<(n0.length:Int):=qo;obtain⟨w2,x2,y2⟩:=Kd.Hz (Kd.Ab Q1.out).2.2 1 t2 v2;cases x2;(try simp only[show(1:Int).toNat =1 from rfl,Nat.reduceMul,Nat.reduceEqDiff,Go.Addr.add,↓reduceIte]at y2);have qi860:(1<n0.length)=True:=eq_true ko_;(try rw[show((1:Int)).toNat =1 from rfl]at y2);replace t2:=eq_true t2;replace v2:=eq_true v2;have A2:0<=(2:Int):=ko_;have B2:2<(n0.length:Int):=qo;obtain⟨C2,D2,E2⟩:=Kd.Hz (Kd.Ab Q1.out).2.2 2 A2 B2;obtain rfl:w2=C2:=(by injection D2);(try simp only[show(2:Int).toNat =2 from rfl,Nat.reduceMul,Nat.reduceEqDiff,Go.Addr.add,↓reduceIte]at E2);have qi862:(2<n0.length)=True:=eq_true ko_;(try rw[show((2:Int)).toNat =2 from rfl]at E2);replace A2:=eq_true A2;replace B2:=eq_true B2;refine Hq (n:=13) (S:=fun w'=>w'.cell? ⟨w2.block,w2.off+1,none⟩=some (.string (rdOf ByteArray.empty n0 1))/\w'.cell? ⟨w2.block,w2.off+2,none⟩=some (.string (rdOf ByteArray.empty n0 2))) (ds:=[10,11]) _ kr_ rfl rfl ⟨y2,E2⟩ (fun hHeld=>?_);refine Gd Ap.tab6 Ap.bits6 (fun HT_ HW_=>?_);generalize wc.drew=G2 at Q1 R1 w0 HB y2 E2 hHeld ⊢;refine pur 0 31 (bz 13 1) HT_ ?_;refine pur 1 32 (bz 13 3) HT_ ?_;refine pur 2 33 (bz 13 7) HT_ ?_;refine pur 5 36 (bz 13 39) HT_ ?_;refine pur 6 37 (bz 13 103) HT_ ?_;refine tk 3 34 (bz 13 111) hHeld (Ez HT_.out HW_.out kr_) ?_;refine tk 7 38 (bz 13 239) hHeld (Ez HT_.out HW_.out kr_) ?_;(refine o1 4 (some 35) (bz 13 255) (Dr HT_.out kr_) fun K hK=>?_);(refine gsd Tryz.func48 (Bj.c U1 (rdOf ByteArray.empty n0 1) d2 _ e2.out) fun nd=>?_);refine hK.out _ _ ⟨hHeld.1,hHeld.2⟩ (fun hHeld=>?_);clear hK K;refine nm 35 ?_;(refine o1 8 (some 39) (bz 13 511) (Dr HT_.out kr_) fun K hK=>?_);(refine gsd Tryz.func48 (Bj.c U1 (rdOf ByteArray.empty n0 2) l2 _ n2.out) fun nd=>?_);refine hK.out _ _ ⟨hHeld.1,hHeld.2⟩ (fun hHeld=>?_);clear hK K;refine nm 39 ?_;refine pur 9 40 (bz 13 1023) HT_ ?_;refine last_ (i:=10) (N:=some 41) (bz 13 2047) rfl rfl (Dr HT_.out kr_) kd_ (fun K hK=>?_);refine Gz (w1:=?_) (v:=?_) (by rfl) rfl ?_ ?_;rotate_left 2
    .go_simp
     constructor
     .rfl
     .rfl
    refine hK.out _ _ ?_;clear hK K;refine nm 41 ?_;refine last_ (i:=11) (N:=some 42) (bz 13 4095) rfl rfl (Dr HT_.out kr_) kd_ (fun K hK=>?_);refine Kd.R_append_step k55 (w0:=w) w.heap.size (by rfl) (.tmp 31) (.tmp 41) 47 55 (.agg #[(.int .i64 0),(.int .i64 0),(.int .i64 0)]) 24 rfl Tryz.underlying47 info55 rfl kd_ ko_ u5 N0 (⟨3,d2,l2⟩:S55) [.int .i64 3,.int .i64 d2,.int .i64 l2] (fun k_=>k_≠t0) (fun _=>False) rfl rfl ?aP (fun _ hk=>hk.elim) ?aF ?aO ?aB ?aS ?aL ?_;(case aP=>exact k55_mkM _ _ _ (⟨3,d2,l2⟩:S55));(case aB=>exact(bl));(case aF=>exact(fun k_ hk=>Kd.freshB (g:=t0) (o:= .cells #[.int .i64 0,.int .i64 0,.int .i64 0] 55 (0,0)) (bk) k_ hk));(case aO=>exact(kR R1));(case aS=>exact(Cj (bl)));(case aL=>have:=q2.out;omega);intro J2 K2 ho hb hg hat;rw[<-s2.out]at ho;replace Q1:=qa (Kd.Hu (kR Q1) (Kd.Ef (kR R1)) kd_ hg);replace w0:=qa (Bn (g:=t0) (o:= .cells #[.int .i64 0,.int .i64 0,.int .i64 0] 55 (0,0)) (bk) hg (Kd.R_away R1.out (fun _ hk=>hk)));replace HB:=qa (hb);have L2:=qa (ho);clear R1;clear ho hb hg hat;refine hK.out _ _ ?_;clear hK K;refine nm 42 ?_;refine pur 12 5 (bz 13 8191) HT_ ?_;refine Ka (Hs HT_.out kr_) ?_
    try go_wp2
    go_meet
    case rel=>exact⟨_,(r2),H',⟨by have:=P1.out;first|omega|exact Nat.le_refl _⟩,⟨kR L2⟩,⟨bk⟩,⟨bl⟩⟩
   ·(first|rw[X1]|(simp only[Bv,Fc];rw[X1])|skip);have H':=qa H;clear H;go_wp2;go_meet
    case rel=>exact⟨_,(N0),H',⟨by have:=P1.out;first|omega|exact Nat.le_refl _⟩,⟨kR R1⟩,⟨bk⟩,⟨bl⟩⟩
  case rest=>
   clear V1;obtain⟨kq,W1,HA,M2,R1,w0,HB⟩:=hcut;obtain⟨N2,rfl,H⟩:=kz kq HA;clear HA;simp only[Ap.j1]at H;have H':=qa H;clear H;go_wp2
   go_loopg [6] N2 (fun kq P2 w'=>∃(Q2:Int) (R2:Int) (U2:Int) (V2:Int),P2= .int .i64 Q2/\Aside0 (Ap.l0 kq a0 W1 Q2=some (b0,c0,d0,e0))/\Aside0 (kq<=N2)/\Aside0 (Kd.R k55 55 w' w.heap.size (fun k_=>k_≠t0) u5 W1)/\Aside0 (w'.heap[t0]? =some (.cells #[.int .i64 R2,.int .i64 U2,.int .i64 V2] 55 (0,0)))/\Aside0 (Below w.heap.size w w'))
   case atStart=>exact⟨(0),(0),(0),(0),(sd),H',⟨Nat.le_refl _⟩,⟨kR R1⟩,⟨bk⟩,⟨bl⟩⟩
   case round=>
    clear H';obtain⟨Q2,R2,U2,V2,rfl,HA,HK3,R1,w0,HB⟩:=hrel;obtain⟨k3,rfl,H⟩:=kz gk HA;clear HA;simp only[Ap.l0]at H;replace H:=qe H;obtain⟨W2,H⟩|⟨W2,H⟩:=H
    .replace H:=qq H;obtain⟨X2,Y2,H⟩|⟨a3,X2,Y2,H⟩:=H
     .have H':=qa H;clear H;obtain⟨b3,d3,rfl⟩:=Kd.An R1.out;go_wp2
      go_roundg k3
      case measure=>have:=P1.out;have:=M2.out;have:=HK3.out;omega
      case rel=>exact⟨(wrap64 (Q2+1)),(R2),(U2),(V2),(sd),H',⟨by have:=P1.out;have:=M2.out;have:=HK3.out;omega⟩,⟨kR R1⟩,⟨bk⟩,⟨bl⟩⟩
     .replace H:=qd H;obtain⟨e3,H⟩:=H;replace H:=qb H;obtain⟨g3,j3,H⟩:=H;replace H:=qq H;obtain⟨l3,n3,H⟩|⟨p3,l3,n3,H⟩:=H
      .simp only[Option.some.injEq,Prod.mk.injEq]at H;obtain⟨rfl,rfl,rfl,rfl⟩:=H;obtain⟨q3,r3,rfl⟩:=Kd.An R1.out;have s3:0<=(Q2:Int):=qo;have t3:Q2<(W1.length:Int):=qo;obtain⟨v3,w3,x3,y3,A3⟩:=at_T55 (Kd.Ab R1.out).2.2 Q2 s3 t3;cases w3;replace s3:=eq_true s3;replace t3:=eq_true t3
       go_wp2_with(first|(go_at_call 79;(with_reducible refine(Au.c k3 ((Iv W1 Q2).f0) ((Iv W1 Q2).f1) ((Iv W1 Q2).f2) g3 _ j3.out).mono ?_);rintro e B3 ⟨rfl,hb⟩;replace R1:=bR R1 hb;replace w0:=qbb w0 hb;replace HB:=bs hb;have C3:0<=(Q2:Int):=qo;have D3:Q2<(W1.length:Int):=qo;obtain⟨E3,G3,J3,K3,L3⟩:=at_T55 (Kd.Ab R1.out).2.2 Q2 C3 D3;obtain rfl:v3=E3:=(by injection G3);replace C3:=eq_true C3;replace D3:=eq_true D3;obtain⟨M3,N3,P3,Q3,R3,U3⟩:=qk3 w0))
       refine bodyPost_ret (Da rfl _ _ t0 55 #[.int .i64 ((Iv W1 Q2).f0),.int .i64 ((Iv W1 Q2).f1),.int .i64 ((Iv W1 Q2).f2)] (0,0) _ rfl (kP w0) Tryz.underlying55 rfl kr_) rfl ?_;exact⟨er,bl⟩
      .have H':=qa H;clear H;obtain⟨V3,W3,rfl⟩:=Kd.An R1.out;have s3:0<=(Q2:Int):=qo;have t3:Q2<(W1.length:Int):=qo;obtain⟨v3,w3,x3,y3,A3⟩:=at_T55 (Kd.Ab R1.out).2.2 Q2 s3 t3;cases w3;replace s3:=eq_true s3;replace t3:=eq_true t3
       go_wp2_with(first|(go_at_call 79;(with_reducible refine(Au.c k3 ((Iv W1 Q2).f0) ((Iv W1 Q2).f1) ((Iv W1 Q2).f2) g3 _ j3.out).mono ?_);rintro e X3 ⟨rfl,hb⟩;replace R1:=bR R1 hb;replace w0:=qbb w0 hb;replace HB:=bs hb))
       go_roundg k3
       case measure=>have:=P1.out;have:=M2.out;have:=HK3.out;omega
       case rel=>exact⟨(wrap64 (Q2+1)),(R2),(U2),(V2),(sd),H',⟨by have:=P1.out;have:=M2.out;have:=HK3.out;omega⟩,⟨kR R1⟩,⟨bk⟩,⟨bl⟩⟩
    .simp only[Option.some.injEq,Prod.mk.injEq]at H;obtain⟨rfl,rfl,rfl,rfl⟩:=H;obtain⟨Y3,a4,rfl⟩:=Kd.An R1.out;obtain⟨b4,c4,d4,e4,g4,j4⟩:=qk3 w0;go_wp2;refine bodyPost_ret (Da rfl _ _ t0 55 #[.int .i64 0,.int .i64 0,.int .i64 0] (0,0) _ rfl (kP w0) Tryz.underlying55 rfl kr_) rfl ?_;exact⟨er,bl⟩
def Ee.l0:Nat->LI->BA->Int->Option (BA)
 |0,_,_,_=>none
 |k+1,a0,b0,c0=>if c0<(a0.length:Int)then(if c0>0 then(if b0.size+1<=9223372036854775807 then(if 0<=c0 then((Af.f k (rd a0 c0)).bind fun d0=>(if(b0++(⟨#[44]⟩:BA)).size +d0.size<=9223372036854775807 then(Ee.l0 k a0 ((b0++(⟨#[44]⟩:BA))++d0) (wrap64 (c0+1)))else(none)))else(none))else(none))else(if 0<=c0 then((Af.f k (rd a0 c0)).bind fun e0=>(if b0.size+e0.size<=9223372036854775807 then(Ee.l0 k a0 (b0++e0) (wrap64 (c0+1)))else(none)))else(none)))else(if(a0.length:Int)=0 then(some (⟨#[110,111,110,101]⟩:BA))else(some b0))
def Ee.f (k:Nat) (a0:LI):Option (BA):=Ee.l0 k a0 (⟨#[]⟩:BA) 0
theorem Ee.c (k:Nat) (a0:OA) (b0:Nat) (c0:LI) (r:BA) (w:World) (d0:Kd.C ki w a0 c0.length c0) (e0:c0.length<=b0) (h:Ee.f k c0=some r):
  Calls Tryz.prog 43 #[.slice a0 c0.length b0] w fun e w'=>e= .returned (.string r)/\Below w.heap.size w w':=by
 have g0:=qa d0;have j0:=qa e0;clear d0 e0;have HB:=qa (Below.refl w.heap.size w);have H:=h;unfold Ee.f at H;clear h;have H':=qa H;clear H
 go_enter Tryz.func43,Tryz.ntmps43
 go_wp2
 go_loopg [3,4] k (fun kq n0 p0 w'=>∃(q0:BA) (r0:Int),n0= .string q0/\p0= .int .i64 r0/\Aside0 (Ee.l0 kq c0 q0 r0=some r)/\Aside0 (kq<=k)/\Aside0 (Below w.heap.size w w'))
 case atStart=>exact⟨((⟨#[]⟩:BA)),(0),(sd),(sd),H',⟨Nat.le_refl _⟩,⟨bl⟩⟩
 case round=>
  clear H';obtain⟨q0,r0,rfl,rfl,HA,HK1,HB⟩:=hrel;obtain⟨k1,rfl,H⟩:=kz gk HA;clear HA;simp only[Ee.l0]at H;replace H:=qe H;obtain⟨s0,H⟩|⟨s0,H⟩:=H
  .replace H:=qg H;obtain⟨t0,H⟩|⟨t0,H⟩:=H
   .replace H:=qN H;obtain⟨v0,w0,x0,y0,H⟩:=H;replace H:=qd H;obtain⟨A0,H⟩:=H;replace H:=qb H;obtain⟨B0,C0,H⟩:=H;replace H:=qN H;obtain⟨D0,E0,G0,J0,H⟩:=H
    try(have c7bq:=J0;simp only[ByteArray.size_append,show(⟨#[44]⟩:BA).size =1 from rfl]at c7bq)
    have H':=qa H;clear H;obtain⟨K0,⟨⟩,L0,M0,N0⟩:=ai g0.out r0;(try replace L0:=(HB.out.cell (World.block_lt_of_cell? w _ L0)).trans L0)
    go_wp2_with(first|(refine gb 20 Tryz.func82 (Af.c k1 (rd c0 r0) B0 _ C0.out) fun P0 hb=>?_;replace HB:=bs hb))
    go_roundg k1
    case measure=>have:=HK1.out;omega
    case rel=>exact⟨((q0++(⟨#[44]⟩:BA))++B0),(wrap64 (r0+1)),(sd),(sd),H',⟨by have:=HK1.out;omega⟩,⟨bl⟩⟩
   .replace H:=qd H;obtain⟨Q0,H⟩:=H;replace H:=qb H;obtain⟨R0,U0,H⟩:=H;replace H:=qN H;obtain⟨V0,W0,X0,Y0,H⟩:=H;have H':=qa H;clear H;obtain⟨a1,⟨⟩,b1,c1,d1⟩:=ai g0.out r0;(try replace b1:=(HB.out.cell (World.block_lt_of_cell? w _ b1)).trans b1)
    go_wp2_with(first|(refine gb 20 Tryz.func82 (Af.c k1 (rd c0 r0) R0 _ U0.out) fun e1 hb=>?_;replace HB:=bs hb))
    go_roundg k1
    case measure=>have:=HK1.out;omega
    case rel=>exact⟨(q0++R0),(wrap64 (r0+1)),(sd),(sd),H',⟨by have:=HK1.out;omega⟩,⟨bl⟩⟩
  .replace H:=qq H;obtain⟨g1,j1,H⟩|⟨l1,g1,j1,H⟩:=H
   .obtain rfl:=sj H;go_wp2;go_ret;exact⟨er,bl⟩
   ·(have n1:¬(c0=[]):=fun h_=>l1 (by rw[h_];rfl));obtain rfl:=sj H;go_wp2;go_ret;exact⟨er,bl⟩

def Jc.f (a0:Bool):Option (BA):=if a0=true then(some (⟨#[121,101,115]⟩:BA))else(some (⟨#[110,111]⟩:BA))
theorem Jc.c (a0:Bool) (r:BA) (w:World) (h:Jc.f a0=some r):
  Calls Tryz.prog 44 #[.bool a0] w fun e w'=>e= .returned (.string r)/\Drawn0 w w':=by
 have H:=h;unfold Jc.f at H;clear h;replace H:=qc H;obtain⟨rfl,H⟩|⟨rfl,H⟩:=H
 .obtain rfl:=sj H
  go_enter Tryz.func44,Tryz.ntmps44
  go_wp2;go_ret;exact⟨sd,dr⟩
 .obtain rfl:=sj H
  go_enter Tryz.func44,Tryz.ntmps44
  go_wp2;go_ret;exact⟨sd,dr⟩

mutual
def Ao.j0:Nat->LI->Bool->Option (Bool)
 |0,_,_=>none
 |k+1,a0,b0=>if b0=true then(some false)else(Ao.l0 k a0 2)
def Ao.l0:Nat->LI->Int->Option (Bool)
 |0,_,_=>none
 |k+1,a0,c0=>if c0<=24 then(Ao.l1 k a0 c0 2)else(some true)
def Ao.l1:Nat->LI->Int->Int->Option (Bool)
 |0,_,_,_=>none
 |k+1,a0,c0,d0=>if(wrap64 (c0*d0))<=24 then((Cu.f k c0 d0).bind fun e0=>(if e0=true then(if 0<=(wrap64 ((wrap64 (c0*d0))-1))then(if(wrap64 ((wrap64 (c0*d0))-1))<(a0.length:Int)then(if 0<=(wrap64 (c0-1))then(if(wrap64 (c0-1))<(a0.length:Int)then(if 0<=(wrap64 (d0-1))then(if(wrap64 (d0-1))<(a0.length:Int)then(if(rd a0 (wrap64 ((wrap64 (c0*d0))-1)))=(wrap64 ((rd a0 (wrap64 (c0-1)))*(rd a0 (wrap64 (d0-1)))))then(Ao.l1 k a0 c0 (wrap64 (d0+1)))else(some false))else(none))else(none))else(none))else(none))else(none))else(none))else(Ao.l1 k a0 c0 (wrap64 (d0+1)))))else(Ao.l0 k a0 (wrap64 (c0+1)))
end

def Ao.f (k:Nat) (a0:LI):Option (Bool):=(Bi.f k a0).bind fun b0=>(if b0=true then(if 0<(a0.length:Int)then(Ao.j0 k a0 ((rd a0 0) != 1))else(none))else(Ao.j0 k a0 true))
theorem Ao.c (k:Nat) (a0:OA) (b0:Nat) (c0:LI) (r:Bool) (w:World) (d0:Kd.C ki w a0 c0.length c0) (e0:c0.length<=b0) (h:Ao.f k c0=some r):
  Calls Tryz.prog 45 #[.slice a0 c0.length b0] w fun e w'=>e= .returned (.bool r)/\Drawn0 w w':=by
 have g0:=qa d0;have n0:=qa e0;clear d0 e0;have H:=h;unfold Ao.f at H;clear h;have p0:=qa H;clear H
 go_enter Tryz.func45,Tryz.ntmps45
 go_upto_region 1 with(fail)
 repeat(go_quiet(fail);go_upto_region 1 with(fail))
 go_cut [13] (fun q0 wc=>∃(kq:Nat) (r0:Bool),q0= .bool r0/\Aside0 (Ao.j0 kq c0 r0=some r)/\Aside0 (kq<=k)/\Drawn0 w wc)
 case first=>
  have H:=p0.out;clear p0;replace H:=qb H;obtain⟨s0,t0,H⟩:=H;replace H:=qc H;obtain⟨rfl,H⟩|⟨rfl,H⟩:=H
  .replace H:=qL 0 H;obtain⟨v0,w0,H⟩:=H;(first|rw[v0]|(simp only[Bv,Fc];rw[v0])|skip);have H':=qa H;clear H
   go_wp2_with(first|(go_at_call 69;(with_reducible refine(Bi.c k _ _ c0 true _ ?x0 ?y0 t0.out).mono ?_);(case x0=>exact cx g0.out);(case y0=>exact n0.out);rintro e w' ⟨rfl,⟨nd,rfl⟩⟩;(try exact dn);obtain⟨A0,⟨⟩,B0,qi875,C0,D0⟩:=ain 0 g0.out 0;(try rw[Addr.add_zero']at B0)))
   repeat(go_quiet(first|(go_at_call 69;(with_reducible refine(Bi.c k _ _ c0 true _ ?x0 ?y0 t0.out).mono ?_);(case x0=>exact cx g0.out);(case y0=>exact n0.out);rintro e w' ⟨rfl,⟨nd,rfl⟩⟩;(try exact dn);obtain⟨A0,⟨⟩,B0,qi875,C0,D0⟩:=ain 0 g0.out 0;(try rw[Addr.add_zero']at B0)));try go_wp2_with(first|(go_at_call 69;(with_reducible refine(Bi.c k _ _ c0 true _ ?x0 ?y0 t0.out).mono ?_);(case x0=>exact cx g0.out);(case y0=>exact n0.out);rintro e w' ⟨rfl,⟨nd,rfl⟩⟩;(try exact dn);obtain⟨A0,⟨⟩,B0,qi875,C0,D0⟩:=ain 0 g0.out 0;(try rw[Addr.add_zero']at B0))))
   go_meet
   case rel=>exact⟨_,(((rd c0 0) != 1)),(sd),H',⟨by first|omega|exact Nat.le_refl _⟩,dr⟩
  .have H':=qa H;clear H
   go_wp2_with(first|(go_at_call 69;(with_reducible refine(Bi.c k _ _ c0 false _ ?x0 ?y0 t0.out).mono ?_);(case x0=>exact cx g0.out);(case y0=>exact n0.out);rintro e w' ⟨rfl,⟨nd,rfl⟩⟩;(try exact dn)))
   repeat(go_quiet(first|(go_at_call 69;(with_reducible refine(Bi.c k _ _ c0 false _ ?x0 ?y0 t0.out).mono ?_);(case x0=>exact cx g0.out);(case y0=>exact n0.out);rintro e w' ⟨rfl,⟨nd,rfl⟩⟩;(try exact dn)));try go_wp2_with(first|(go_at_call 69;(with_reducible refine(Bi.c k _ _ c0 false _ ?x0 ?y0 t0.out).mono ?_);(case x0=>exact cx g0.out);(case y0=>exact n0.out);rintro e w' ⟨rfl,⟨nd,rfl⟩⟩;(try exact dn))))
   go_meet
   case rel=>exact⟨_,(true),(sd),H',⟨by first|omega|exact Nat.le_refl _⟩,dr⟩
 case rest=>
  clear p0;obtain⟨kq,r0,rfl,HA,E0,⟨mc1,rfl⟩⟩:=hcut;obtain⟨G0,rfl,H⟩:=kz kq HA;clear HA;simp only[Ao.j0]at H;replace H:=qc H;obtain⟨rfl,H⟩|⟨rfl,H⟩:=H
  .obtain rfl:=sj H;go_wp2
   repeat(go_quiet(fail);try go_wp2)
   go_ret;exact⟨sd,dr⟩
  .have H':=qa H;clear H;go_wp2
   repeat(go_quiet(fail);try go_wp2)
   go_loopg [3] G0 (fun kq J0 w'=>∃(K0:Int),J0= .int .i64 K0/\Aside0 (Ao.l0 kq c0 K0=some r)/\Aside0 (kq<=G0)/\Drawn0 w w')
   case atStart=>exact⟨(2),(sd),H',⟨Nat.le_refl _⟩,dr⟩
   case round=>
    clear H';obtain⟨K0,rfl,HA,HK2,⟨m2,rfl⟩⟩:=hrel;obtain⟨k2,rfl,H⟩:=kz gk HA;clear HA;simp only[Ao.l0]at H;replace H:=qe H;obtain⟨L0,H⟩|⟨L0,H⟩:=H
    .have H':=qa H;clear H;go_wp2
     repeat(go_quiet(fail);try go_wp2)
     go_loopg [4] k2 (fun kq M0 w'=>∃(N0:Int),M0= .int .i64 N0/\Aside0 (Ao.l1 kq c0 K0 N0=some r)/\Aside0 (kq<=k2)/\Drawn0 w w')
     case atStart=>exact⟨(2),(sd),H',⟨Nat.le_refl _⟩,dr⟩
     case round=>
      clear H';obtain⟨N0,rfl,HA,HK3,⟨m3,rfl⟩⟩:=hrel;obtain⟨k3,rfl,H⟩:=kz gk HA;clear HA;simp only[Ao.l1]at H;replace H:=qe H;obtain⟨P0,H⟩|⟨P0,H⟩:=H
      .replace H:=qb H;obtain⟨Q0,R0,H⟩:=H;replace H:=qc H;obtain⟨rfl,H⟩|⟨rfl,H⟩:=H
       .obtain⟨U0,V0⟩:∃j_:Int,(wrap64 ((wrap64 (K0*N0))-1))=j_:=⟨_,rfl⟩;(first|rw[V0]at H|(try simp only[V0]at H));(try rw[V0]at R0);have W0:(IntKind.i64.wrap ((wrap64 (K0*N0))-1))=U0:=(Bv _).trans V0;have X0:(IntKind.i64.wrap ((IntKind.i64.wrap (K0*N0))-1))=U0:=(congrArg (fun z_=>IntKind.i64.wrap (z_-1)) (Bv _)).trans W0;replace H:=qd H;obtain⟨Y0,H⟩:=H;replace H:=qd H;obtain⟨a1,H⟩:=H;obtain⟨b1,c1⟩:∃j_:Int,(wrap64 (K0-1))=j_:=⟨_,rfl⟩;(first|rw[c1]at H|(try simp only[c1]at H));(try rw[c1]at R0);have d1:(IntKind.i64.wrap (K0-1))=b1:=(Bv _).trans c1;replace H:=qd H;obtain⟨e1,H⟩:=H;replace H:=qd H;obtain⟨g1,H⟩:=H;obtain⟨j1,n1⟩:∃j_:Int,(wrap64 (N0-1))=j_:=⟨_,rfl⟩;(first|rw[n1]at H|(try simp only[n1]at H));(try rw[n1]at R0);have p1:(IntKind.i64.wrap (N0-1))=j1:=(Bv _).trans n1;replace H:=qd H;obtain⟨q1,H⟩:=H;replace H:=qd H;obtain⟨r1,H⟩:=H;replace H:=qq H;obtain⟨s1,t1,H⟩|⟨v1,s1,t1,H⟩:=H
        ·(try(have c20b0v:=s1;have c20b1v:=t1;simp only[<-Bv]at c20b0v c20b1v));have H':=qa H;clear H
         go_wp2_with(first|(go_at_call 83;(with_reducible refine gm (Cu.c k3 K0 N0 true _ R0.out) fun nd=>?_);(try exact dn);obtain⟨w1,⟨⟩,x1,y1,A1⟩:=ai g0.out (U0);obtain⟨B1,C1,D1⟩:=aj g0.out (b1);obtain⟨E1,G1,J1⟩:=aj g0.out (j1)))
         repeat(go_quiet(first|(go_at_call 83;(with_reducible refine gm (Cu.c k3 K0 N0 true _ R0.out) fun nd=>?_);(try exact dn);obtain⟨w1,⟨⟩,x1,y1,A1⟩:=ai g0.out (U0);obtain⟨B1,C1,D1⟩:=aj g0.out (b1);obtain⟨E1,G1,J1⟩:=aj g0.out (j1)));try go_wp2_with(first|(go_at_call 83;(with_reducible refine gm (Cu.c k3 K0 N0 true _ R0.out) fun nd=>?_);(try exact dn);obtain⟨w1,⟨⟩,x1,y1,A1⟩:=ai g0.out (U0);obtain⟨B1,C1,D1⟩:=aj g0.out (b1);obtain⟨E1,G1,J1⟩:=aj g0.out (j1))))
         go_roundg k3
         case measure=>have:=E0.out;have:=HK2.out;have:=HK3.out;omega
         case rel=>exact⟨(wrap64 (N0+1)),(sd),H',⟨z16_⟩,dr⟩
        ·(try(have c20b0v:=s1;have c20b1v:=t1;simp only[<-Bv]at c20b0v c20b1v));obtain rfl:=sj H
         go_wp2_with(first|(go_at_call 83;(with_reducible refine gm (Cu.c k3 K0 N0 true _ R0.out) fun nd=>?_);(try exact dn);obtain⟨w1,⟨⟩,x1,y1,A1⟩:=ai g0.out (U0);obtain⟨B1,C1,D1⟩:=aj g0.out (b1);obtain⟨E1,G1,J1⟩:=aj g0.out (j1)))
         repeat(go_quiet(first|(go_at_call 83;(with_reducible refine gm (Cu.c k3 K0 N0 true _ R0.out) fun nd=>?_);(try exact dn);obtain⟨w1,⟨⟩,x1,y1,A1⟩:=ai g0.out (U0);obtain⟨B1,C1,D1⟩:=aj g0.out (b1);obtain⟨E1,G1,J1⟩:=aj g0.out (j1)));try go_wp2_with(first|(go_at_call 83;(with_reducible refine gm (Cu.c k3 K0 N0 true _ R0.out) fun nd=>?_);(try exact dn);obtain⟨w1,⟨⟩,x1,y1,A1⟩:=ai g0.out (U0);obtain⟨B1,C1,D1⟩:=aj g0.out (b1);obtain⟨E1,G1,J1⟩:=aj g0.out (j1))))
         go_ret;exact⟨by first|rfl|(simp;done)|(simp only[<-V0,<-c1,<-n1] <;> (first|rfl|simp))|(simp[*];done),dr⟩
       .have H':=qa H;clear H
        go_wp2_with(first|(go_at_call 83;(with_reducible refine gm (Cu.c k3 K0 N0 false _ R0.out) fun nd=>?_);(try exact dn)))
        repeat(go_quiet(first|(go_at_call 83;(with_reducible refine gm (Cu.c k3 K0 N0 false _ R0.out) fun nd=>?_);(try exact dn)));try go_wp2_with(first|(go_at_call 83;(with_reducible refine gm (Cu.c k3 K0 N0 false _ R0.out) fun nd=>?_);(try exact dn))))
        go_roundg k3
        case measure=>have:=E0.out;have:=HK2.out;have:=HK3.out;omega
        case rel=>exact⟨(wrap64 (N0+1)),(sd),H',⟨z16_⟩,dr⟩
      .have H':=qa H;clear H;go_wp2
       repeat(go_quiet(fail);try go_wp2)
       go_roundg k3
       case measure=>have:=E0.out;have:=HK2.out;have:=HK3.out;omega
       case rel=>exact⟨(wrap64 (K0+1)),(sd),H',⟨z16_⟩,dr⟩
    .obtain rfl:=sj H;go_wp2
     repeat(go_quiet(fail);try go_wp2)
     go_ret;exact⟨sd,dr⟩
mutual
def Cr.j0:Nat->LI->Bool->Option (Bool)
 |0,_,_=>none
 |k+1,a0,b0=>if b0=true then(some false)else(Cr.l0 k a0 2)
def Cr.l0:Nat->LI->Int->Option (Bool)
 |0,_,_=>none
 |k+1,a0,c0=>if c0<=24 then(Cr.l1 k a0 c0 2)else(some true)
def Cr.l1:Nat->LI->Int->Int->Option (Bool)
 |0,_,_,_=>none
 |k+1,a0,c0,d0=>if(wrap64 (c0*d0))<=24 then(if 0<=(wrap64 ((wrap64 (c0*d0))-1))then(if(wrap64 ((wrap64 (c0*d0))-1))<(a0.length:Int)then(if 0<=(wrap64 (c0-1))then(if(wrap64 (c0-1))<(a0.length:Int)then(if 0<=(wrap64 (d0-1))then(if(wrap64 (d0-1))<(a0.length:Int)then(if(rd a0 (wrap64 ((wrap64 (c0*d0))-1)))=(wrap64 ((rd a0 (wrap64 (c0-1)))*(rd a0 (wrap64 (d0-1)))))then(Cr.l1 k a0 c0 (wrap64 (d0+1)))else(some false))else(none))else(none))else(none))else(none))else(none))else(none))else(Cr.l0 k a0 (wrap64 (c0+1)))
end

def Cr.f (k:Nat) (a0:LI):Option (Bool):=(Bi.f k a0).bind fun b0=>(if b0=true then(if 0<(a0.length:Int)then(Cr.j0 k a0 ((rd a0 0) != 1))else(none))else(Cr.j0 k a0 true))
theorem Cr.c (k:Nat) (a0:OA) (b0:Nat) (c0:LI) (r:Bool) (w:World) (d0:Kd.C ki w a0 c0.length c0) (e0:c0.length<=b0) (h:Cr.f k c0=some r):
  Calls Tryz.prog 46 #[.slice a0 c0.length b0] w fun e w'=>e= .returned (.bool r)/\Drawn0 w w':=by
 have g0:=qa d0;have n0:=qa e0;clear d0 e0;have H:=h;unfold Cr.f at H;clear h;have p0:=qa H;clear H
 go_enter Tryz.func46,Tryz.ntmps46
 go_upto_region 1 with(fail)
 repeat(go_quiet(fail);go_upto_region 1 with(fail))
 go_cut [13] (fun q0 wc=>∃(kq:Nat) (r0:Bool),q0= .bool r0/\Aside0 (Cr.j0 kq c0 r0=some r)/\Aside0 (kq<=k)/\Drawn0 w wc)
 case first=>
  have H:=p0.out;clear p0;replace H:=qb H;obtain⟨s0,t0,H⟩:=H;replace H:=qc H;obtain⟨rfl,H⟩|⟨rfl,H⟩:=H
  .replace H:=qL 0 H;obtain⟨v0,w0,H⟩:=H;(first|rw[v0]|(simp only[Bv,Fc];rw[v0])|skip);have H':=qa H;clear H
   go_wp2_with(first|(go_at_call 69;(with_reducible refine(Bi.c k _ _ c0 true _ ?x0 ?y0 t0.out).mono ?_);(case x0=>exact cx g0.out);(case y0=>exact n0.out);rintro e w' ⟨rfl,⟨nd,rfl⟩⟩;(try exact dn);obtain⟨A0,⟨⟩,B0,qi881,C0,D0⟩:=ain 0 g0.out 0;(try rw[Addr.add_zero']at B0)))
   repeat(go_quiet(first|(go_at_call 69;(with_reducible refine(Bi.c k _ _ c0 true _ ?x0 ?y0 t0.out).mono ?_);(case x0=>exact cx g0.out);(case y0=>exact n0.out);rintro e w' ⟨rfl,⟨nd,rfl⟩⟩;(try exact dn);obtain⟨A0,⟨⟩,B0,qi881,C0,D0⟩:=ain 0 g0.out 0;(try rw[Addr.add_zero']at B0)));try go_wp2_with(first|(go_at_call 69;(with_reducible refine(Bi.c k _ _ c0 true _ ?x0 ?y0 t0.out).mono ?_);(case x0=>exact cx g0.out);(case y0=>exact n0.out);rintro e w' ⟨rfl,⟨nd,rfl⟩⟩;(try exact dn);obtain⟨A0,⟨⟩,B0,qi881,C0,D0⟩:=ain 0 g0.out 0;(try rw[Addr.add_zero']at B0))))
   go_meet
   case rel=>exact⟨_,(((rd c0 0) != 1)),(sd),H',⟨by first|omega|exact Nat.le_refl _⟩,dr⟩
  .have H':=qa H;clear H
   go_wp2_with(first|(go_at_call 69;(with_reducible refine(Bi.c k _ _ c0 false _ ?x0 ?y0 t0.out).mono ?_);(case x0=>exact cx g0.out);(case y0=>exact n0.out);rintro e w' ⟨rfl,⟨nd,rfl⟩⟩;(try exact dn)))
   repeat(go_quiet(first|(go_at_call 69;(with_reducible refine(Bi.c k _ _ c0 false _ ?x0 ?y0 t0.out).mono ?_);(case x0=>exact cx g0.out);(case y0=>exact n0.out);rintro e w' ⟨rfl,⟨nd,rfl⟩⟩;(try exact dn)));try go_wp2_with(first|(go_at_call 69;(with_reducible refine(Bi.c k _ _ c0 false _ ?x0 ?y0 t0.out).mono ?_);(case x0=>exact cx g0.out);(case y0=>exact n0.out);rintro e w' ⟨rfl,⟨nd,rfl⟩⟩;(try exact dn))))
   go_meet
   case rel=>exact⟨_,(true),(sd),H',⟨by first|omega|exact Nat.le_refl _⟩,dr⟩
 case rest=>
  clear p0;obtain⟨kq,r0,rfl,HA,E0,⟨mc1,rfl⟩⟩:=hcut;obtain⟨G0,rfl,H⟩:=kz kq HA;clear HA;simp only[Cr.j0]at H;replace H:=qc H;obtain⟨rfl,H⟩|⟨rfl,H⟩:=H
  .obtain rfl:=sj H;go_wp2
   repeat(go_quiet(fail);try go_wp2)
   go_ret;exact⟨sd,dr⟩
  .have H':=qa H;clear H;go_wp2
   repeat(go_quiet(fail);try go_wp2)
   go_loopg [3] G0 (fun kq J0 w'=>∃(K0:Int),J0= .int .i64 K0/\Aside0 (Cr.l0 kq c0 K0=some r)/\Aside0 (kq<=G0)/\Drawn0 w w')
   case atStart=>exact⟨(2),(sd),H',⟨Nat.le_refl _⟩,dr⟩
   case round=>
    clear H';obtain⟨K0,rfl,HA,HK2,⟨m2,rfl⟩⟩:=hrel;obtain⟨k2,rfl,H⟩:=kz gk HA;clear HA;simp only[Cr.l0]at H;replace H:=qe H;obtain⟨L0,H⟩|⟨L0,H⟩:=H
    .have H':=qa H;clear H;go_wp2
     repeat(go_quiet(fail);try go_wp2)
     go_loopg [4] k2 (fun kq M0 w'=>∃(N0:Int),M0= .int .i64 N0/\Aside0 (Cr.l1 kq c0 K0 N0=some r)/\Aside0 (kq<=k2)/\Drawn0 w w')
     case atStart=>exact⟨(2),(sd),H',⟨Nat.le_refl _⟩,dr⟩
     case round=>
      clear H';obtain⟨N0,rfl,HA,HK3,⟨m3,rfl⟩⟩:=hrel;obtain⟨k3,rfl,H⟩:=kz gk HA;clear HA;simp only[Cr.l1]at H;replace H:=qe H;obtain⟨P0,H⟩|⟨P0,H⟩:=H
      .obtain⟨Q0,R0⟩:∃j_:Int,(wrap64 ((wrap64 (K0*N0))-1))=j_:=⟨_,rfl⟩;(first|rw[R0]at H|(try simp only[R0]at H));have U0:(IntKind.i64.wrap ((wrap64 (K0*N0))-1))=Q0:=(Bv _).trans R0;replace H:=qd H;obtain⟨V0,H⟩:=H;replace H:=qd H;obtain⟨W0,H⟩:=H;obtain⟨X0,Y0⟩:∃j_:Int,(wrap64 (K0-1))=j_:=⟨_,rfl⟩;(first|rw[Y0]at H|(try simp only[Y0]at H));have a1:(IntKind.i64.wrap (K0-1))=X0:=(Bv _).trans Y0;replace H:=qd H;obtain⟨b1,H⟩:=H;replace H:=qd H;obtain⟨c1,H⟩:=H;obtain⟨d1,e1⟩:∃j_:Int,(wrap64 (N0-1))=j_:=⟨_,rfl⟩;(first|rw[e1]at H|(try simp only[e1]at H));have g1:(IntKind.i64.wrap (N0-1))=d1:=(Bv _).trans e1;replace H:=qd H;obtain⟨j1,H⟩:=H;replace H:=qd H;obtain⟨n1,H⟩:=H;replace H:=qq H;obtain⟨p1,q1,H⟩|⟨r1,p1,q1,H⟩:=H
       .have H':=qa H;clear H;obtain⟨s1,⟨⟩,t1,v1,w1⟩:=ai g0.out (Q0);obtain⟨x1,y1,A1⟩:=aj g0.out (X0);obtain⟨B1,C1,D1⟩:=aj g0.out (d1);go_wp2
        repeat(go_quiet(fail);try go_wp2)
        go_roundg k3
        case measure=>have:=E0.out;have:=HK2.out;have:=HK3.out;omega
        case rel=>exact⟨(wrap64 (N0+1)),(sd),H',⟨z16_⟩,dr⟩
       .obtain rfl:=sj H;obtain⟨s1,⟨⟩,t1,v1,w1⟩:=ai g0.out (Q0);obtain⟨x1,y1,A1⟩:=aj g0.out (X0);obtain⟨B1,C1,D1⟩:=aj g0.out (d1);go_wp2
        repeat(go_quiet(fail);try go_wp2)
        go_ret;exact⟨by first|rfl|(simp;done)|(simp only[<-R0,<-Y0,<-e1] <;> (first|rfl|simp))|(simp[*];done),dr⟩
      .have H':=qa H;clear H;go_wp2
       repeat(go_quiet(fail);try go_wp2)
       go_roundg k3
       case measure=>have:=E0.out;have:=HK2.out;have:=HK3.out;omega
       case rel=>exact⟨(wrap64 (K0+1)),(sd),H',⟨z16_⟩,dr⟩
    .obtain rfl:=sj H;go_wp2
     repeat(go_quiet(fail);try go_wp2)
     go_ret;exact⟨sd,dr⟩

mutual
def Ci.l0:Nat->BA->LL->Int->Option (BA)
 |0,_,_,_=>none
 |k+1,a0,b0,c0=>if c0<(b0.length:Int)then(if c0>0 then(if a0.size+1<=9223372036854775807 then(Ci.j1 k (a0++(⟨#[46]⟩:BA)) b0 c0)else(none))else(Ci.j1 k a0 b0 c0))else(if a0.toList=([]:List UInt8)then(some (⟨#[49]⟩:BA))else(some a0))
def Ci.j1:Nat->BA->LL->Int->Option (BA)
 |0,_,_,_=>none
 |k+1,a0,b0,c0=>if 0<=c0 then(if c0<(b0.length:Int)then(if 0<((Bl b0 c0).length :Int)then((Af.f k (rd (Bl b0 c0) 0)).bind fun d0=>(if a0.size+d0.size<=9223372036854775807 then(if 1<((Bl b0 c0).length :Int)then(if(rd (Bl b0 c0) 1)>1 then(if(a0++d0).size +1<=9223372036854775807 then((Af.f k (rd (Bl b0 c0) 1)).bind fun e0=>(if((a0++d0)++(⟨#[94]⟩:BA)).size +e0.size<=9223372036854775807 then(Ci.l0 k (((a0++d0)++(⟨#[94]⟩:BA))++e0) b0 (wrap64 (c0+1)))else(none)))else(none))else(Ci.l0 k (a0++d0) b0 (wrap64 (c0+1))))else(none))else(none)))else(none))else(none))else(none)
end

def Ci.f (k:Nat) (a0:Int):Option (BA):=(Ar.f a0 1 10000).bind fun b0=>(if b0=true then((Ae.f k a0).bind fun c0=>(Ci.l0 k (⟨#[]⟩:BA) c0 0))else(some (⟨#[]⟩:BA)))
theorem Ci.c (k:Nat) (a0:Int) (r:BA) (w:World) (h:Ci.f k a0=some r):
  Calls Tryz.prog 85 #[.int .i64 a0] w fun e w'=>e= .returned (.string r)/\Below w.heap.size w w':=by
 have HB:=qa (Below.refl w.heap.size w);have H:=h;unfold Ci.f at H;clear h;replace H:=qb H;obtain⟨b0,c0,H⟩:=H;replace H:=qc H;obtain⟨rfl,H⟩|⟨rfl,H⟩:=H
 .replace H:=qb H;obtain⟨d0,e0,H⟩:=H;have H':=qa H;clear H
  go_enter Tryz.func85,Tryz.ntmps85
  go_wp2_with(first|(refine gd 7 Tryz.func84 (Ar.c a0 1 10000 true _ c0.out) fun nd=>?_)|(refine ge_ 10 Tryz.func126 (Ae.c k a0 d0 _ e0.out) fun g0 j0 n0 hb=>?_;have p0:=lS n0;replace HB:=bs hb))
  go_loopg [3,5] k (fun kq q0 r0 w'=>∃(s0:BA) (t0:Int),q0= .string s0/\r0= .int .i64 t0/\Aside0 (Ci.l0 kq s0 d0 t0=some r)/\Aside0 (kq<=k)/\Aside0 (Kd.S (Kd.slice 3 ki) 22 w' w.heap.size (fun _=>True) g0 d0)/\Aside0 (Below w.heap.size w w'))
  case atStart=>exact⟨((⟨#[]⟩:BA)),(0),(sd),(sd),H',⟨Nat.le_refl _⟩,⟨kS p0⟩,⟨bl⟩⟩
  case round=>
   clear H';obtain⟨s0,t0,rfl,rfl,HA,HK1,v0,HB⟩:=hrel;obtain⟨k1,rfl,H⟩:=kz gk HA;clear HA;simp only[Ci.l0]at H;replace H:=qe H;obtain⟨w0,H⟩|⟨w0,H⟩:=H
   .have x0:=qa H;clear H;obtain⟨y0,A0,rfl⟩:=Kd.Ft v0.out
    go_upto_if 18 with(fail)
    go_cut [3] (fun q0 wc=>∃(kq:Nat) (B0:BA),q0= .string B0/\Aside0 (Ci.j1 kq B0 d0 t0=some r)/\Aside0 (kq<=k1)/\Aside0 (Kd.S (Kd.slice 3 ki) 22 wc w.heap.size (fun _=>True) (.slice y0 d0.length A0) d0)/\Aside0 (Below w.heap.size w wc))
    case first=>
     have H:=x0.out;clear x0;replace H:=qg H;obtain⟨C0,H⟩|⟨C0,H⟩:=H
     ·(first|rw[C0]|(simp only[Bv,Fc];rw[C0])|skip);replace H:=qN H;obtain⟨D0,E0,G0,J0,H⟩:=H;have H':=qa H;clear H;go_wp2;go_meet
      case rel=>exact⟨_,(s0++(⟨#[46]⟩:BA)),(sd),H',⟨z6_⟩,⟨kS v0⟩,⟨bl⟩⟩
     ·(first|rw[C0]|(simp only[Bv,Fc];rw[C0])|skip);have H':=qa H;clear H;go_wp2;go_meet
      case rel=>exact⟨_,(s0),(sd),H',⟨z6_⟩,⟨kS v0⟩,⟨bl⟩⟩
    case rest=>
     clear x0;obtain⟨kq,B0,rfl,HA,K0,v0,HB⟩:=hcut;obtain⟨L0,rfl,H⟩:=kz kq HA;clear HA;simp only[Ci.j1]at H;replace H:=qd H;obtain⟨M0,H⟩:=H;replace H:=qd H;obtain⟨N0,H⟩:=H;replace H:=qL 0 H;obtain⟨P0,Q0,H⟩:=H;replace H:=qb H;obtain⟨R0,U0,H⟩:=H;replace H:=qN H;obtain⟨V0,W0,X0,Y0,H⟩:=H;replace H:=qL 1 H;obtain⟨a1,b1,H⟩:=H;replace H:=qg H;obtain⟨c1,H⟩|⟨c1,H⟩:=H
     .replace H:=qN H;obtain⟨d1,e1,g1,l1,H⟩:=H
      try(have c18bq:=l1;simp only[ByteArray.size_append]at c18bq)
      replace H:=qb H;obtain⟨n1,p1,H⟩:=H;replace H:=qN H;obtain⟨q1,r1,s1,t1,H⟩:=H
      try(have c20bq:=t1;simp only[ByteArray.size_append,show(⟨#[94]⟩:BA).size =1 from rfl]at c20bq)
      have H':=qa H;clear H;obtain⟨v1,w1,x1,⟨⟩,y1,HL889_0,A1,B1,C1,D1⟩:=sg_L1 v0.out t0;obtain⟨E1,⟨⟩,G1,qi890,J1,K1⟩:=ain 0 (cw A1) 0;(try rw[Addr.add_zero']at G1)
      go_wp2_with(first|(refine gb 28 Tryz.func82 (Af.c L0 (rd (Bl d0 t0) 0) R0 _ U0.out) fun L1 hb=>?_;replace v0:=bS v0 hb;replace HL889_0:=bR HL889_0 hb;replace A1:=qa (Kd.Ai (cw A1) hb);replace HB:=bs hb;obtain⟨M1,N1,P1,HL892_0,Q1,R1,U1,V1⟩:=sh_L1 v0.out t0;have W1:0<=(1:Int):=ko_;have X1:1<((Bl d0 t0).length :Int):=qo;obtain⟨Y1,a2,b2⟩:=Kd.Fx (cw Q1) 1 W1 X1;cases a2;(try simp only[show(1:Int).toNat =1 from rfl,Nat.reduceMul,Nat.reduceEqDiff,Go.Addr.add,↓reduceIte]at b2);have qi893:(1<(Bl d0 t0).length)=True:=eq_true ko_;(try rw[show((1:Int)).toNat =1 from rfl]at b2);replace W1:=eq_true W1;replace X1:=eq_true X1;obtain⟨c2,d2,e2,HL894_0,g2,j2,l2,n2⟩:=sh_L1 v0.out t0;have ea_:=Option.some.inj (P1.symm.trans e2);injection ea_ with ea_ en_ ec_;subst ea_;subst ec_;clear en_;have p2:0<=(1:Int):=ko_;have q2:1<((Bl d0 t0).length :Int):=qo;obtain⟨r2,s2,t2⟩:=Kd.Fx (cw g2) 1 p2 q2;cases s2;(try simp only[show(1:Int).toNat =1 from rfl,Nat.reduceMul,Nat.reduceEqDiff,Go.Addr.add,↓reduceIte]at t2);have qi895:(1<(Bl d0 t0).length)=True:=eq_true ko_;(try rw[show((1:Int)).toNat =1 from rfl]at t2);replace p2:=eq_true p2;replace q2:=eq_true q2)|(refine gb 45 Tryz.func82 (Af.c L0 (rd (Bl d0 t0) 1) n1 _ p1.out) fun v2 hb=>?_;replace v0:=bS v0 hb;replace HL889_0:=bR HL889_0 hb;replace HL892_0:=bR HL892_0 hb;replace HL894_0:=bR HL894_0 hb;replace A1:=qa (Kd.Ai (cw A1) hb);replace Q1:=qa (Kd.Ai (cw Q1) hb);replace g2:=qa (Kd.Ai (cw g2) hb);replace HB:=bs hb))
      go_roundg L0
      case measure=>have:=HK1.out;have:=K0.out;omega
      case rel=>exact⟨(((B0++R0)++(⟨#[94]⟩:BA))++n1),(wrap64 (t0+1)),(sd),(sd),H',⟨by have:=HK1.out;have:=K0.out;omega⟩,⟨kS v0⟩,⟨bl⟩⟩
     .have H':=qa H;clear H;obtain⟨v1,w1,x1,⟨⟩,y1,HL889_0,A1,B1,C1,D1⟩:=sg_L1 v0.out t0;obtain⟨E1,⟨⟩,G1,qi890,J1,K1⟩:=ain 0 (cw A1) 0;(try rw[Addr.add_zero']at G1)
      go_wp2_with(first|(refine gb 28 Tryz.func82 (Af.c L0 (rd (Bl d0 t0) 0) R0 _ U0.out) fun w2 hb=>?_;replace v0:=bS v0 hb;replace HL889_0:=bR HL889_0 hb;replace A1:=qa (Kd.Ai (cw A1) hb);replace HB:=bs hb;obtain⟨M1,N1,P1,HL892_0,Q1,R1,U1,V1⟩:=sh_L1 v0.out t0;have W1:0<=(1:Int):=ko_;have X1:1<((Bl d0 t0).length :Int):=qo;obtain⟨Y1,a2,b2⟩:=Kd.Fx (cw Q1) 1 W1 X1;cases a2;(try simp only[show(1:Int).toNat =1 from rfl,Nat.reduceMul,Nat.reduceEqDiff,Go.Addr.add,↓reduceIte]at b2);have qi893:(1<(Bl d0 t0).length)=True:=eq_true ko_;(try rw[show((1:Int)).toNat =1 from rfl]at b2);replace W1:=eq_true W1;replace X1:=eq_true X1))
      go_roundg L0
      case measure=>have:=HK1.out;have:=K0.out;omega
      case rel=>exact⟨(B0++R0),(wrap64 (t0+1)),(sd),(sd),H',⟨by have:=HK1.out;have:=K0.out;omega⟩,⟨kS v0⟩,⟨bl⟩⟩
   .replace H:=qq H;obtain⟨x2,y2,H⟩|⟨A2,x2,y2,H⟩:=H
    .obtain rfl:=sj H;obtain⟨B2,C2,rfl⟩:=Kd.Ft v0.out;go_wp2;go_ret;exact⟨er,bl⟩
    .obtain rfl:=sj H;obtain⟨D2,E2,rfl⟩:=Kd.Ft v0.out;go_wp2;go_ret;exact⟨er,bl⟩
 .obtain rfl:=sj H
  go_enter Tryz.func85,Tryz.ntmps85
  go_wp2_with(first|(refine gd 7 Tryz.func84 (Ar.c a0 1 10000 false _ c0.out) fun nd=>?_))
  go_ret;exact⟨er,bl⟩
mutual
def Ei.l0:Nat->Int->LL->Int->Option (Int)
 |0,_,_,_=>none
 |k+1,a0,b0,c0=>if c0<(b0.length:Int)then(Ei.l1 k a0 b0 c0 1 1 0)else(some a0)
def Ei.l1:Nat->Int->LL->Int->Int->Int->Int->Option (Int)
 |0,_,_,_,_,_,_=>none
 |k+1,a0,b0,c0,d0,e0,g0=>if 0<=c0 then(if c0<(b0.length:Int)then(if 1<((Bl b0 c0).length :Int)then(if g0<(rd (Bl b0 c0) 1)then(if 0<((Bl b0 c0).length :Int)then(Ei.l1 k a0 b0 c0 (wrap64 (d0+(wrap64 (e0*(rd (Bl b0 c0) 0))))) (wrap64 (e0*(rd (Bl b0 c0) 0))) (wrap64 (g0+1)))else(none))else(Ei.l0 k (wrap64 (a0*d0)) b0 (wrap64 (c0+1))))else(none))else(none))else(none)
end

def Ei.f (k:Nat) (a0:Int):Option (Int):=(Ar.f a0 1 10000).bind fun b0=>(if b0=true then((Ae.f k a0).bind fun c0=>(Ei.l0 k 1 c0 0))else(some (-1)))
theorem Ei.c (k:Nat) (a0:Int) (r:Int) (w:World) (h:Ei.f k a0=some r):
  Calls Tryz.prog 87 #[.int .i64 a0] w fun e w'=>e= .returned (.int .i64 r)/\Below w.heap.size w w':=by
 have HB:=qa (Below.refl w.heap.size w);have H:=h;unfold Ei.f at H;clear h;replace H:=qb H;obtain⟨b0,c0,H⟩:=H;replace H:=qc H;obtain⟨rfl,H⟩|⟨rfl,H⟩:=H
 .replace H:=qb H;obtain⟨d0,e0,H⟩:=H;have H':=qa H;clear H
  go_enter Tryz.func87,Tryz.ntmps87
  go_wp2_with(first|(refine gd 10 Tryz.func84 (Ar.c a0 1 10000 true _ c0.out) fun nd=>?_)|(refine ge_ 13 Tryz.func126 (Ae.c k a0 d0 _ e0.out) fun g0 j0 n0 hb=>?_;have p0:=lS n0;replace HB:=bs hb))
  go_loopg [3,5] k (fun kq q0 r0 w'=>∃(s0:Int) (t0:Int),q0= .int .i64 s0/\r0= .int .i64 t0/\Aside0 (Ei.l0 kq s0 d0 t0=some r)/\Aside0 (kq<=k)/\Aside0 (Kd.S (Kd.slice 3 ki) 22 w' w.heap.size (fun _=>True) g0 d0)/\Aside0 (Below w.heap.size w w'))
  case atStart=>exact⟨(1),(0),(sd),(sd),H',⟨Nat.le_refl _⟩,⟨kS p0⟩,⟨bl⟩⟩
  case round=>
   clear H';obtain⟨s0,t0,rfl,rfl,HA,HK1,v0,HB⟩:=hrel;obtain⟨k1,rfl,H⟩:=kz gk HA;clear HA;simp only[Ei.l0]at H;replace H:=qe H;obtain⟨w0,H⟩|⟨w0,H⟩:=H
   .have H':=qa H;clear H;obtain⟨x0,y0,rfl⟩:=Kd.Ft v0.out;go_wp2
    go_loopg [6,7,8] k1 (fun kq A0 B0 C0 w'=>∃(D0:Int) (E0:Int) (G0:Int),A0= .int .i64 D0/\B0= .int .i64 E0/\C0= .int .i64 G0/\Aside0 (Ei.l1 kq s0 d0 t0 D0 E0 G0=some r)/\Aside0 (kq<=k1)/\Aside0 (Kd.S (Kd.slice 3 ki) 22 w' w.heap.size (fun _=>True) (.slice x0 d0.length y0) d0)/\Aside0 (Below w.heap.size w w'))
    case atStart=>exact⟨(1),(1),(0),(sd),(sd),(sd),H',⟨Nat.le_refl _⟩,⟨kS v0⟩,⟨bl⟩⟩
    case round=>
     clear H';obtain⟨D0,E0,G0,rfl,rfl,rfl,HA,HK2,v0,HB⟩:=hrel;obtain⟨k2,rfl,H⟩:=kz gk HA;clear HA;simp only[Ei.l1]at H;replace H:=qd H;obtain⟨J0,H⟩:=H;replace H:=qd H;obtain⟨K0,H⟩:=H;replace H:=qL 1 H;obtain⟨L0,M0,H⟩:=H;replace H:=qe H;obtain⟨N0,H⟩|⟨N0,H⟩:=H
     .replace H:=qL 0 H;obtain⟨P0,Q0,H⟩:=H;have H':=qa H;clear H;obtain⟨R0,U0,V0,⟨⟩,W0,HL901_0,X0,Y0,a1,b1⟩:=sg_L1 v0.out t0;have c1:0<=(1:Int):=ko_;have d1:1<((Bl d0 t0).length :Int):=qo;obtain⟨e1,g1,j1⟩:=Kd.Fx (cw X0) 1 c1 d1;cases g1;(try simp only[show(1:Int).toNat =1 from rfl,Nat.reduceMul,Nat.reduceEqDiff,Go.Addr.add,↓reduceIte]at j1);have qi902:(1<(Bl d0 t0).length)=True:=eq_true ko_;(try rw[show((1:Int)).toNat =1 from rfl]at j1);replace c1:=eq_true c1;replace d1:=eq_true d1;obtain⟨n1,p1,q1,HL903_0,r1,s1,t1,v1⟩:=sh_L1 v0.out t0;have ea_:=Option.some.inj (W0.symm.trans q1);(injection ea_ with ea_ en_ ec_);subst ea_;subst ec_;clear en_;obtain⟨w1,⟨⟩,x1,qi904,y1,A1⟩:=ain 0 (cw r1) 0;(try rw[Addr.add_zero']at x1);go_wp2
      go_roundg k2
      case measure=>have:=HK1.out;have:=HK2.out;omega
      case rel=>exact⟨(wrap64 (D0+(wrap64 (E0*(rd (Bl d0 t0) 0))))),(wrap64 (E0*(rd (Bl d0 t0) 0))),(wrap64 (G0+1)),(sd),(sd),(sd),H',⟨by have:=HK1.out;have:=HK2.out;omega⟩,⟨kS v0⟩,⟨bl⟩⟩
     .have H':=qa H;clear H;obtain⟨R0,U0,V0,⟨⟩,W0,HL901_0,X0,Y0,a1,b1⟩:=sg_L1 v0.out t0;have c1:0<=(1:Int):=ko_;have d1:1<((Bl d0 t0).length :Int):=qo;obtain⟨e1,g1,j1⟩:=Kd.Fx (cw X0) 1 c1 d1;cases g1;(try simp only[show(1:Int).toNat =1 from rfl,Nat.reduceMul,Nat.reduceEqDiff,Go.Addr.add,↓reduceIte]at j1);have qi902:(1<(Bl d0 t0).length)=True:=eq_true ko_;(try rw[show((1:Int)).toNat =1 from rfl]at j1);replace c1:=eq_true c1;replace d1:=eq_true d1;go_wp2
      go_roundg k2
      case measure=>have:=HK1.out;have:=HK2.out;omega
      case rel=>exact⟨(wrap64 (s0*D0)),(wrap64 (t0+1)),(sd),(sd),H',⟨by have:=HK1.out;have:=HK2.out;omega⟩,⟨kS v0⟩,⟨bl⟩⟩
   .obtain rfl:=sj H;obtain⟨B1,C1,rfl⟩:=Kd.Ft v0.out;go_wp2;go_ret;exact⟨er,bl⟩
 .obtain rfl:=sj H
  go_enter Tryz.func87,Tryz.ntmps87
  go_wp2_with(first|(refine gd 10 Tryz.func84 (Ar.c a0 1 10000 false _ c0.out) fun nd=>?_))
  go_ret;exact⟨er,bl⟩

def Cz.l0:Nat->Int->Int->Int->Option (Int)
 |0,_,_,_=>none
 |k+1,a0,b0,c0=>if c0<a0 then(if c0=0 then(none)else(if(Int.tmod a0 c0)=0 then(Cz.l0 k a0 (wrap64 (b0+c0)) (wrap64 (c0+1)))else(Cz.l0 k a0 b0 (wrap64 (c0+1)))))else(some b0)
def Cz.f (k:Nat) (a0:Int):Option (Int):=(Ar.f a0 1 10000).bind fun b0=>(if b0=true then(Cz.l0 k a0 0 1)else(some (-1)))
theorem Cz.c (k:Nat) (a0:Int) (r:Int) (w:World) (h:Cz.f k a0=some r):
  Calls Tryz.prog 127 #[.int .i64 a0] w fun e w'=>e= .returned (.int .i64 r)/\Drawn0 w w':=by
 have H:=h;unfold Cz.f at H;clear h;replace H:=qb H;obtain⟨b0,c0,H⟩:=H;replace H:=qc H;obtain⟨rfl,H⟩|⟨rfl,H⟩:=H
 .have H':=qa H;clear H
  go_enter Tryz.func127,Tryz.ntmps127
  go_wp2_with(first|(refine gd 6 Tryz.func84 (Ar.c a0 1 10000 true _ c0.out) fun nd=>?_))
  go_loopg [3,4] k (fun kq d0 e0 w'=>∃(g0:Int) (j0:Int),d0= .int .i64 g0/\e0= .int .i64 j0/\Aside0 (Cz.l0 kq a0 g0 j0=some r)/\Aside0 (kq<=k)/\Drawn0 w w')
  case atStart=>exact⟨(0),(1),(sd),(sd),H',⟨Nat.le_refl _⟩,dr⟩
  case round=>
   clear H';obtain⟨g0,j0,rfl,rfl,HA,HK1,⟨m1,rfl⟩⟩:=hrel;obtain⟨k1,rfl,H⟩:=kz gk HA;clear HA;simp only[Cz.l0]at H;replace H:=qe H;obtain⟨n0,H⟩|⟨n0,H⟩:=H
   .by_cases p0:j0=0
    .rw[if_pos p0]at H;exact absurd H (by simp)
    .rw[if_neg p0]at H;have q0:(j0==0)=false:=beq_eq_false_iff_ne.mpr p0;have r0:(j0 != 0)=true:=bne_iff_ne.mpr p0;replace H:=qq H;obtain⟨s0,t0,H⟩|⟨v0,s0,t0,H⟩:=H
     .have H':=qa H;clear H;go_wp2
      go_roundg k1
      case measure=>have:=HK1.out;omega
      case rel=>exact⟨(wrap64 (g0+j0)),(wrap64 (j0+1)),(sd),(sd),H',⟨by have:=HK1.out;omega⟩,dr⟩
     .have H':=qa H;clear H;go_wp2
      go_roundg k1
      case measure=>have:=HK1.out;omega
      case rel=>exact⟨(g0),(wrap64 (j0+1)),(sd),(sd),H',⟨by have:=HK1.out;omega⟩,dr⟩
   .obtain rfl:=sj H;go_wp2;go_ret;exact⟨sd,dr⟩
 .obtain rfl:=sj H
  go_enter Tryz.func127,Tryz.ntmps127
  go_wp2_with(first|(refine gd 6 Tryz.func84 (Ar.c a0 1 10000 false _ c0.out) fun nd=>?_))
  go_ret;exact⟨sd,dr⟩

def Js.f (k:Nat) (a0:Int):Option (Int):=(Cz.f k a0).bind fun b0=>(if b0<0 then(some (-2))else(if b0<a0 then(some (-1))else(if b0=a0 then(some 0)else(some 1))))
theorem Js.c (k:Nat) (a0:Int) (r:Int) (w:World) (h:Js.f k a0=some r):
  Calls Tryz.prog 88 #[.int .i64 a0] w fun e w'=>e= .returned (.int .i64 r)/\Drawn0 w w':=by
 have H:=h;unfold Js.f at H;clear h;replace H:=qb H;obtain⟨b0,c0,H⟩:=H;replace H:=qe H;obtain⟨d0,H⟩|⟨d0,H⟩:=H
 .obtain rfl:=sj H
  go_enter Tryz.func88,Tryz.ntmps88
  go_wp2_with(first|(refine gd 5 Tryz.func127 (Cz.c k a0 b0 _ c0.out) fun nd=>?_))
  go_ret;exact⟨sd,dr⟩
 .replace H:=qe H;obtain⟨e0,H⟩|⟨e0,H⟩:=H
  .obtain rfl:=sj H
   go_enter Tryz.func88,Tryz.ntmps88
   go_wp2_with(first|(refine gd 5 Tryz.func127 (Cz.c k a0 b0 _ c0.out) fun nd=>?_))
   go_ret;exact⟨sd,dr⟩
  .replace H:=qq H;obtain⟨g0,j0,H⟩|⟨l0,g0,j0,H⟩:=H
   .obtain rfl:=sj H
    go_enter Tryz.func88,Tryz.ntmps88
    go_wp2_with(first|(refine gd 5 Tryz.func127 (Cz.c k a0 b0 _ c0.out) fun nd=>?_))
    go_ret;exact⟨sd,dr⟩
   .obtain rfl:=sj H
    go_enter Tryz.func88,Tryz.ntmps88
    go_wp2_with(first|(refine gd 5 Tryz.func127 (Cz.c k a0 b0 _ c0.out) fun nd=>?_))
    go_ret;exact⟨sd,dr⟩

mutual
def Cc.l0:Nat->LI->Int->Option LI
 |0,_,_=>none
 |k+1,a0,b0=>(Ar.f b0 1 10000).bind fun c0=>(if c0=true then(Cc.j1 k a0 b0 (decide ((a0.length:Int)<30)))else(Cc.j1 k a0 b0 false))
def Cc.j1:Nat->LI->Int->Bool->Option LI
 |0,_,_,_=>none
 |k+1,a0,b0,d0=>if d0=true then(Cc.l1 k a0 b0 0)else(some a0)
def Cc.l1:Nat->LI->Int->Int->Option LI
 |0,_,_,_=>none
 |k+1,a0,b0,e0=>if e0<(a0.length:Int)then(if 0<=e0 then(if(rd a0 e0)=b0 then(some a0)else(Cc.l1 k a0 b0 (wrap64 (e0+1))))else(none))else(if a0.length<17592186044416 then((Cz.f k b0).bind fun g0=>(Cc.l0 k (a0++[b0]) g0))else(none))
end

def Cc.f (k:Nat) (a0:Int):Option LI:=Cc.l0 k (([]:LI)) a0
theorem Cc.c (k:Nat) (a0:Int) (r:LI) (w:World) (h:Cc.f k a0=some r):
  Calls Tryz.prog 89 #[.int .i64 a0] w fun e w'=>∃v0_:Value,e= .returned (v0_)/\Kd.R ki 3 w' w.heap.size (fun _=>True) v0_ r/\Below w.heap.size w w':=by
 have HB:=qa (Below.refl w.heap.size w);have H:=h;unfold Cc.f at H;clear h;obtain⟨b0,hy_⟩:∃y_:LI,y_=(([]:LI)):=⟨_,rfl⟩;replace H:(Cc.l0 k b0 a0)=some r:=yh;have c0:=qa hy_;clear hy_;have H':=qa H;clear H
 go_enter Tryz.func89,Tryz.ntmps89
 go_wp2_with(first|(refine rli .i64 3 6 c0.out fun d0 e0 g0 hb=>?_;have j0:=lR g0;replace HB:=bs hb;clear hb g0))
 go_loopg [3,4] k (fun kq n0 p0 w'=>∃(q0:LI) (r0:Int),p0= .int .i64 r0/\Aside0 (Cc.l0 kq q0 r0=some r)/\Aside0 (kq<=k)/\Aside0 (Kd.R ki 3 w' w.heap.size (fun _=>True) n0 q0)/\Aside0 (Below w.heap.size w w'))
 case atStart=>exact⟨(b0),(a0),(sd),H',⟨Nat.le_refl _⟩,⟨kR j0⟩,⟨bl⟩⟩
 case round=>
  clear H';obtain⟨q0,r0,rfl,HA,HK1,s0,HB⟩:=hrel;obtain⟨k1,rfl,H⟩:=kz gk HA;clear HA;simp only[Cc.l0]at H;have t0:=qa H;clear H
  go_upto_region 3 with(fail)
  go_cut [14] (fun v0 wc=>∃(kq:Nat) (w0:Bool),v0= .bool w0/\Aside0 (Cc.j1 kq q0 r0 w0=some r)/\Aside0 (kq<=k1)/\Aside0 (Kd.R ki 3 wc w.heap.size (fun _=>True) u3 q0)/\Aside0 (Below w.heap.size w wc))
  case first=>
   have H:=t0.out;clear t0;replace H:=qb H;obtain⟨x0,y0,H⟩:=H;replace H:=qc H;obtain⟨rfl,H⟩|⟨rfl,H⟩:=H
   .have H':=qa H;clear H
    go_wp2_with(first|(refine gd 9 Tryz.func84 (Ar.c r0 1 10000 true _ y0.out) fun nd=>?_;obtain⟨A0,B0,rfl⟩:=Kd.An s0.out))
    go_meet
    case rel=>exact⟨_,(decide ((q0.length:Int)<30)),(sd),H',⟨z6_⟩,⟨kR s0⟩,⟨bl⟩⟩
   .have H':=qa H;clear H
    go_wp2_with(first|(refine gd 9 Tryz.func84 (Ar.c r0 1 10000 false _ y0.out) fun nd=>?_))
    go_meet
    case rel=>exact⟨_,(false),(sd),H',⟨z6_⟩,⟨kR s0⟩,⟨bl⟩⟩
  case rest=>
   clear t0;obtain⟨kq,w0,rfl,HA,C0,s0,HB⟩:=hcut;obtain⟨D0,rfl,H⟩:=kz kq HA;clear HA;simp only[Cc.j1]at H;replace H:=qc H;obtain⟨rfl,H⟩|⟨rfl,H⟩:=H
   .have H':=qa H;clear H;go_wp2
    go_loopg [5] D0 (fun kq E0 w'=>∃(G0:Int),E0= .int .i64 G0/\Aside0 (Cc.l1 kq q0 r0 G0=some r)/\Aside0 (kq<=D0)/\Aside0 (Kd.R ki 3 w' w.heap.size (fun _=>True) u3 q0)/\Aside0 (Below w.heap.size w w'))
    case atStart=>exact⟨(0),(sd),H',⟨Nat.le_refl _⟩,⟨kR s0⟩,⟨bl⟩⟩
    case round=>
     clear H';obtain⟨G0,rfl,HA,HK3,s0,HB⟩:=hrel;obtain⟨k3,rfl,H⟩:=kz gk HA;clear HA;simp only[Cc.l1]at H;replace H:=qe H;obtain⟨J0,H⟩|⟨J0,H⟩:=H
     .replace H:=qd H;obtain⟨K0,H⟩:=H;replace H:=qq H;obtain⟨L0,M0,H⟩|⟨N0,L0,M0,H⟩:=H
      .obtain rfl:=sj H;obtain⟨P0,Q0,rfl⟩:=Kd.An s0.out;obtain⟨R0,⟨⟩,U0,V0,W0⟩:=ai (Kd.Ab s0.out).2.2 G0;go_wp2;go_ret;exact⟨_,er,kR s0,bl⟩
      .have H':=qa H;clear H;obtain⟨X0,Y0,rfl⟩:=Kd.An s0.out;obtain⟨R0,⟨⟩,U0,V0,W0⟩:=ai (Kd.Ab s0.out).2.2 G0;go_wp2
       go_roundg k3
       case measure=>have:=HK1.out;have:=C0.out;have:=HK3.out;omega
       case rel=>exact⟨(wrap64 (G0+1)),(sd),H',⟨by have:=HK1.out;have:=C0.out;have:=HK3.out;omega⟩,⟨kR s0⟩,⟨bl⟩⟩
     .replace H:=qn H;obtain⟨a1,H⟩:=H;have b1:=qa a1;clear a1;obtain⟨c1,hy_⟩:∃y_:LI,y_=(q0++[r0]):=⟨_,rfl⟩;replace H:((Cz.f k3 r0).bind fun d1=>(Cc.l0 k3 c1 d1))=some r:=yh;have e1:=qa hy_;clear hy_;replace H:=qb H;obtain⟨d1,g1,H⟩:=H;have H':=qa H;clear H;obtain⟨n1,p1,rfl⟩:=Kd.An s0.out
      go_wp2_with(first|((with_reducible refine Cw (b:= .append) (xs:=#[.tmp 28,.tmp 30]) rfl ?_);(try(refine Ds (by rfl) ?_;dsimp only));at_builtin;refine Kd.Hc ki (w0:=w) w.heap.size rfl (.tmp 28) (.tmp 30) 22 3 (.int .i64 0) 8 rfl Tryz.underlying22 Je rfl kd_ ko_ (.slice n1 q0.length p1) q0 r0 [.int .i64 r0] (fun _=>True) (fun _=>False) rfl rfl ?aP (fun _ hk=>hk.elim) ?aF ?aO ?aB ?aS ?aL ?_;(case aP=>exact rfl);(case aB=>exact(bl));(case aF=>exact(fun _ _=>trivial));(case aO=>exact(kR s0));(case aS=>exact(Cj (bl)));(case aL=>have:=b1.out;omega);intro q1 r1 ho hb hg hat;rw[<-e1.out]at ho;replace HB:=qa (hb);have s1:=qa (ho);clear s0;clear ho hb hg hat)|(refine gd 33 Tryz.func127 (Cz.c k3 r0 d1 _ g1.out) fun nd=>?_))
      go_roundg k3
      case measure=>have:=HK1.out;have:=C0.out;have:=HK3.out;omega
      case rel=>exact⟨(c1),(d1),(sd),H',⟨by have:=HK1.out;have:=C0.out;have:=HK3.out;omega⟩,⟨kR s1⟩,⟨bl⟩⟩
   .obtain rfl:=sj H;go_wp2;go_ret;exact⟨_,er,kR s0,bl⟩
def Dz.l0:Nat->Int->LL->Int->Option (Int)
 |0,_,_,_=>none
 |k+1,a0,b0,c0=>if c0<(b0.length:Int)then(if 0<=c0 then(if 0<((Bl b0 c0).length :Int)then(if(rd (Bl b0 c0) 0)=0 then(none)else(Dz.l0 k (wrap64 ((wrap64 (Int.tdiv a0 (rd (Bl b0 c0) 0)))*(wrap64 ((rd (Bl b0 c0) 0)-1)))) b0 (wrap64 (c0+1))))else(none))else(none))else(some a0)
def Dz.f (k:Nat) (a0:Int):Option (Int):=(Ar.f a0 1 10000).bind fun b0=>(if b0=true then((Ae.f k a0).bind fun c0=>(Dz.l0 k a0 c0 0))else(some (-1)))
theorem Dz.c (k:Nat) (a0:Int) (r:Int) (w:World) (h:Dz.f k a0=some r):
  Calls Tryz.prog 90 #[.int .i64 a0] w fun e w'=>e= .returned (.int .i64 r)/\Below w.heap.size w w':=by
 have HB:=qa (Below.refl w.heap.size w);have H:=h;unfold Dz.f at H;clear h;replace H:=qb H;obtain⟨b0,c0,H⟩:=H;replace H:=qc H;obtain⟨rfl,H⟩|⟨rfl,H⟩:=H
 .replace H:=qb H;obtain⟨d0,e0,H⟩:=H;have H':=qa H;clear H
  go_enter Tryz.func90,Tryz.ntmps90
  go_wp2_with(first|(go_at_call 84;(with_reducible refine gm (Ar.c a0 1 10000 true _ c0.out) fun nd=>?_);(try exact dn))|(go_at_call 126;(with_reducible refine(Ae.c k a0 d0 _ e0.out).mono ?_);rintro e g0 ⟨j0,rfl,n0,hb⟩;have p0:=lS n0;replace HB:=bs hb))
  repeat(go_quiet(first|(go_at_call 84;(with_reducible refine gm (Ar.c a0 1 10000 true _ c0.out) fun nd=>?_);(try exact dn)));try go_wp2_with(first|(go_at_call 84;(with_reducible refine gm (Ar.c a0 1 10000 true _ c0.out) fun nd=>?_);(try exact dn))|(go_at_call 126;(with_reducible refine(Ae.c k a0 d0 _ e0.out).mono ?_);rintro e g0 ⟨j0,rfl,n0,hb⟩;have p0:=lS n0;replace HB:=bs hb)))
  go_loopg [3,5] k (fun kq q0 r0 w'=>∃(s0:Int) (t0:Int),q0= .int .i64 s0/\r0= .int .i64 t0/\Aside0 (Dz.l0 kq s0 d0 t0=some r)/\Aside0 (kq<=k)/\Aside0 (Kd.S (Kd.slice 3 ki) 22 w' w.heap.size (fun _=>True) j0 d0)/\Aside0 (Below w.heap.size w w'))
  case atStart=>exact⟨(a0),(0),(sd),(sd),H',⟨Nat.le_refl _⟩,⟨kS p0⟩,⟨bl⟩⟩
  case round=>
   clear H';obtain⟨s0,t0,rfl,rfl,HA,HK1,v0,HB⟩:=hrel;obtain⟨k1,rfl,H⟩:=kz gk HA;clear HA;simp only[Dz.l0]at H;replace H:=qe H;obtain⟨w0,H⟩|⟨w0,H⟩:=H
   .replace H:=qd H;obtain⟨x0,H⟩:=H;replace H:=qL 0 H;obtain⟨y0,A0,H⟩:=H
    by_cases B0:(rd (Bl d0 t0) 0)=0
    .rw[if_pos B0]at H;exact absurd H (by simp)
    .rw[if_neg B0]at H;have C0:((rd (Bl d0 t0) 0)==0)=false:=beq_eq_false_iff_ne.mpr B0;have D0:((rd (Bl d0 t0) 0) != 0)=true:=bne_iff_ne.mpr B0;have H':=qa H;clear H;obtain⟨E0,G0,rfl⟩:=Kd.Ft v0.out;obtain⟨J0,K0,L0,⟨⟩,M0,HL920_0,N0,P0,Q0,R0⟩:=sg_L1 v0.out t0;obtain⟨U0,⟨⟩,V0,qi921,W0,X0⟩:=ain 0 (cw N0) 0;(try rw[Addr.add_zero']at V0);obtain⟨Y0,a1,b1,HL922_0,c1,d1,e1,g1⟩:=sh_L1 v0.out t0;have ea_:=Option.some.inj (M0.symm.trans b1);(injection ea_ with ea_ en_ ec_);subst ea_;subst ec_;clear en_;obtain⟨j1,⟨⟩,l1,qi923,n1,p1⟩:=ain 0 (cw c1) 0;(try rw[Addr.add_zero']at l1);go_wp2
     repeat(go_quiet(fail);try go_wp2)
     go_roundg k1
     case measure=>have:=HK1.out;omega
     case rel=>exact⟨(wrap64 ((wrap64 (Int.tdiv s0 (rd (Bl d0 t0) 0)))*(wrap64 ((rd (Bl d0 t0) 0)-1)))),(wrap64 (t0+1)),(sd),(sd),H',⟨by have:=HK1.out;omega⟩,⟨kS v0⟩,⟨bl⟩⟩
   .obtain rfl:=sj H;obtain⟨q1,r1,rfl⟩:=Kd.Ft v0.out;go_wp2
    repeat(go_quiet(fail);try go_wp2)
    go_ret;exact⟨er,bl⟩
 .obtain rfl:=sj H
  go_enter Tryz.func90,Tryz.ntmps90
  go_wp2_with(first|(go_at_call 84;(with_reducible refine gm (Ar.c a0 1 10000 false _ c0.out) fun nd=>?_);(try exact dn)))
  repeat(go_quiet(first|(go_at_call 84;(with_reducible refine gm (Ar.c a0 1 10000 false _ c0.out) fun nd=>?_);(try exact dn)));try go_wp2_with(first|(go_at_call 84;(with_reducible refine gm (Ar.c a0 1 10000 false _ c0.out) fun nd=>?_);(try exact dn))))
  go_ret;exact⟨er,bl⟩

def Hi.f (a0:Int):Option (Int):=(Ar.f a0 1 10000).bind fun b0=>(if b0=true then(if(Int.tmod a0 2)=0 then(some 0)else(some (wrap64 (2-(Int.tmod a0 4)))))else(some 0))
theorem Hi.c (a0:Int) (r:Int) (w:World) (h:Hi.f a0=some r):
  Calls Tryz.prog 128 #[.int .i64 a0] w fun e w'=>e= .returned (.int .i64 r)/\Drawn0 w w':=by
 have H:=h;unfold Hi.f at H;clear h;replace H:=qb H;obtain⟨b0,c0,H⟩:=H;replace H:=qc H;obtain⟨rfl,H⟩|⟨rfl,H⟩:=H
 .replace H:=qq H;obtain⟨d0,e0,H⟩|⟨g0,d0,e0,H⟩:=H
  .obtain rfl:=sj H
   go_enter Tryz.func128,Tryz.ntmps128
   go_wp2_with(first|(refine gd 4 Tryz.func84 (Ar.c a0 1 10000 true _ c0.out) fun nd=>?_))
   go_ret;exact⟨sd,dr⟩
  .obtain rfl:=sj H
   go_enter Tryz.func128,Tryz.ntmps128
   go_wp2_with(first|(refine gd 4 Tryz.func84 (Ar.c a0 1 10000 true _ c0.out) fun nd=>?_))
   go_ret;exact⟨sd,dr⟩
 .obtain rfl:=sj H
  go_enter Tryz.func128,Tryz.ntmps128
  go_wp2_with(first|(refine gd 4 Tryz.func84 (Ar.c a0 1 10000 false _ c0.out) fun nd=>?_))
  go_ret;exact⟨sd,dr⟩

def Eu.l0:Nat->Int->LI->Int->Option (Int)
 |0,_,_,_=>none
 |k+1,a0,b0,c0=>if c0<(b0.length:Int)then(if 0<=c0 then((Hi.f (rd b0 c0)).bind fun d0=>(Eu.l0 k (wrap64 (a0+d0)) b0 (wrap64 (c0+1))))else(none))else(some (wrap64 (4*a0)))
def Eu.f (k:Nat) (a0:Int):Option (Int):=(Ar.f a0 1 10000).bind fun b0=>(if b0=true then((Aj.f k a0).bind fun c0=>(Eu.l0 k 0 c0 0))else(some (-1)))
theorem Eu.c (k:Nat) (a0:Int) (r:Int) (w:World) (h:Eu.f k a0=some r):
  Calls Tryz.prog 91 #[.int .i64 a0] w fun e w'=>e= .returned (.int .i64 r)/\Below w.heap.size w w':=by
 have HB:=qa (Below.refl w.heap.size w);have H:=h;unfold Eu.f at H;clear h;replace H:=qb H;obtain⟨b0,c0,H⟩:=H;replace H:=qc H;obtain⟨rfl,H⟩|⟨rfl,H⟩:=H
 .replace H:=qb H;obtain⟨d0,e0,H⟩:=H;have H':=qa H;clear H
  go_enter Tryz.func91,Tryz.ntmps91
  go_wp2_with(first|(refine gd 7 Tryz.func84 (Ar.c a0 1 10000 true _ c0.out) fun nd=>?_)|(refine ge_ 10 Tryz.func86 (Aj.c k a0 d0 _ e0.out) fun g0 j0 n0 hb=>?_;have p0:=lR n0;replace HB:=bs hb))
  go_loopg [3,5] k (fun kq q0 r0 w'=>∃(s0:Int) (t0:Int),q0= .int .i64 s0/\r0= .int .i64 t0/\Aside0 (Eu.l0 kq s0 d0 t0=some r)/\Aside0 (kq<=k)/\Aside0 (Kd.R ki 3 w' w.heap.size (fun _=>True) g0 d0)/\Aside0 (Below w.heap.size w w'))
  case atStart=>exact⟨(0),(0),(sd),(sd),H',⟨Nat.le_refl _⟩,⟨kR p0⟩,⟨bl⟩⟩
  case round=>
   clear H';obtain⟨s0,t0,rfl,rfl,HA,HK1,v0,HB⟩:=hrel;obtain⟨k1,rfl,H⟩:=kz gk HA;clear HA;simp only[Eu.l0]at H;replace H:=qe H;obtain⟨w0,H⟩|⟨w0,H⟩:=H
   .replace H:=qd H;obtain⟨x0,H⟩:=H;replace H:=qb H;obtain⟨y0,A0,H⟩:=H;have H':=qa H;clear H;obtain⟨B0,C0,rfl⟩:=Kd.An v0.out;obtain⟨D0,⟨⟩,E0,G0,J0⟩:=ai (Kd.Ab v0.out).2.2 t0
    go_wp2_with(first|(refine gd 22 Tryz.func128 (Hi.c (rd d0 t0) y0 _ A0.out) fun nd=>?_))
    go_roundg k1
    case measure=>have:=HK1.out;omega
    case rel=>exact⟨(wrap64 (s0+y0)),(wrap64 (t0+1)),(sd),(sd),H',⟨by have:=HK1.out;omega⟩,⟨kR v0⟩,⟨bl⟩⟩
   .obtain rfl:=sj H;obtain⟨K0,L0,rfl⟩:=Kd.An v0.out;go_wp2;go_ret;exact⟨er,bl⟩
 .obtain rfl:=sj H
  go_enter Tryz.func91,Tryz.ntmps91
  go_wp2_with(first|(refine gd 7 Tryz.func84 (Ar.c a0 1 10000 false _ c0.out) fun nd=>?_))
  go_ret;exact⟨er,bl⟩

mutual
def Bt.j0:Nat->LI->BA->Int->Bool->Option (BA)
 |0,_,_,_,_=>none
 |k+1,a0,b0,c0,d0=>if d0=true then(if 0<=(wrap64 (c0-1))then(if(wrap64 (c0-1))<(a0.length:Int)then((Af.f k (rd a0 (wrap64 (c0-1)))).bind fun e0=>(some e0))else(none))else(none))else((Ar.f c0 1 10000).bind fun g0=>(if g0=true then(Bt.j1 k b0 c0 (b0.toList==([97,116]:List UInt8)))else(Bt.j1 k b0 c0 true)))
def Bt.j1:Nat->BA->Int->Bool->Option (BA)
 |0,_,_,_=>none
 |k+1,b0,c0,l0=>if l0=true then(some (⟨#[110,111,110,101]⟩:BA))else(if b0.toList=([112,114,105,109,101,115]:List UInt8)then((Ci.f k c0).bind fun n0=>(some n0))else(if b0.toList=([100,105,118,105,115,111,114,115]:List UInt8)then((Aj.f k c0).bind fun p0=>((Ee.f k p0).bind fun q0=>(some q0)))else(if b0.toList=([115,117,109]:List UInt8)then((Ei.f k c0).bind fun r0=>((Af.f k r0).bind fun s0=>(some s0)))else(if b0.toList=([107,105,110,100]:List UInt8)then((some (([(⟨#[112,111,111,114]⟩:BA),(⟨#[112,101,114,102,101,99,116]⟩:BA),(⟨#[114,105,99,104]⟩:BA)]:LB):LB)).bind fun t0=>((Js.f k c0).bind fun v0=>(if 0<=(wrap64 (v0+1))then(if(wrap64 (v0+1))<(t0.length:Int)then(some (rdOf ByteArray.empty t0 (wrap64 (v0+1))))else(none))else(none))))else(if b0.toList=([119,97,121]:List UInt8)then((Cc.f k c0).bind fun w0=>((Ee.f k w0).bind fun x0=>(some x0)))else(if b0.toList=([97,112,97,114,116]:List UInt8)then((Dz.f k c0).bind fun y0=>((Af.f k y0).bind fun A0=>(some A0)))else((Eu.f k c0).bind fun B0=>((Af.f k B0).bind fun C0=>(some C0)))))))))
end

def Bt.f (k:Nat) (a0:LI) (b0:BA) (c0:Int):Option (BA):=if b0.toList=([97,116]:List UInt8)then((Ar.f c0 1 24).bind fun d0=>(Bt.j0 k a0 b0 c0 d0))else(Bt.j0 k a0 b0 c0 false)
theorem Bt.c (k:Nat) (a0:OA) (b0:Nat) (c0:LI) (d0:BA) (e0:Int) (r:BA) (w:World) (g0:Kd.C ki w a0 c0.length c0) (l0:c0.length<=b0) (h:Bt.f k c0 d0 e0=some r):
  Calls Tryz.prog 49 #[.slice a0 c0.length b0,.string d0,.int .i64 e0] w fun e w'=>e= .returned (.string r)/\Below w.heap.size w w':=by
 have n0:=qa g0;have p0:=qa l0;clear g0 l0;have HB:=qa (Below.refl w.heap.size w);have H:=h;unfold Bt.f at H;clear h;have q0:=qa H;clear H
 go_enter Tryz.func49,Tryz.ntmps49
 go_upto_region 1 with(fail)
 go_cut [12] (fun r0 wc=>∃(kq:Nat) (s0:Bool),r0= .bool s0/\Aside0 (Bt.j0 kq c0 d0 e0 s0=some r)/\Aside0 (kq<=k)/\Aside0 (Below w.heap.size w wc))
 case first=>
  have H:=q0.out;clear q0;replace H:=qq H;obtain⟨t0,v0,H⟩|⟨w0,t0,v0,H⟩:=H
  ·(first|rw[t0]|(simp only[Bv,Fc];rw[t0])|skip);replace H:=qb H;obtain⟨x0,y0,H⟩:=H;have H':=qa H;clear H
   go_wp2_with(first|(go_at_call 84;(with_reducible refine gm (Ar.c e0 1 24 x0 _ y0.out) fun nd=>?_)))
   go_meet
   case rel=>exact⟨_,(x0),(sd),H',⟨by first|omega|exact Nat.le_refl _⟩,⟨bl⟩⟩
  ·(first|rw[t0]|(simp only[Bv,Fc];rw[t0])|skip);have H':=qa H;clear H;go_wp2;go_meet
   case rel=>exact⟨_,(false),(sd),H',⟨by first|omega|exact Nat.le_refl _⟩,⟨bl⟩⟩
 case rest=>
  clear q0;obtain⟨kq,s0,rfl,HA,A0,HB⟩:=hcut;obtain⟨B0,rfl,H⟩:=kz kq HA;clear HA;simp only[Bt.j0]at H;replace H:=qc H;obtain⟨rfl,H⟩|⟨rfl,H⟩:=H
  .obtain⟨C0,D0⟩:∃j_:Int,(wrap64 (e0-1))=j_:=⟨_,rfl⟩;(first|rw[D0]at H|(try simp only[D0]at H));have E0:(IntKind.i64.wrap (e0-1))=C0:=(Bv _).trans D0;replace H:=qd H;obtain⟨G0,H⟩:=H;replace H:=qd H;obtain⟨J0,H⟩:=H;replace H:=qb H;obtain⟨K0,L0,H⟩:=H;obtain rfl:=sj H;obtain⟨M0,⟨⟩,N0,P0,Q0⟩:=ai n0.out (C0);(try replace N0:=(HB.out.cell (World.block_lt_of_cell? w _ N0)).trans N0)
   go_wp2_with(first|((with_reducible refine gate_callee (f:=82) rfl ?_);refine goesL_ (some 18) rfl rfl Tryz.func82 kr_ rfl #[.int .i64 (rd c0 (C0))] rfl (by(try simp only[List.map_toArray,List.map_cons,List.map_nil]);first|done|(simp only[D0];rfl)|rfl|(simp only[List.length_drop,List.length_take];rfl)) ?_;(with_reducible refine(Af.c B0 (rd c0 (C0)) K0 _ L0.out).mono ?_);rintro e R0 ⟨rfl,hb⟩;refine⟨_,rfl,?_⟩;replace HB:=bs hb))
   go_ret;exact⟨by first|rfl|(simp[Ca,Bz];exact⟨rfl,rfl⟩)|(simp[Ca,Bz] <;> rfl)|(simp only[<-D0];first|rfl|(simp[Ca,Bz] <;> rfl))|(simp[*,Ca,Bz] <;> rfl),bl⟩
  .have U0:=qa H;clear H
   go_upto_region 3 with(fail)
   go_cut [25] (fun V0 wc=>∃(kq:Nat) (W0:Bool),V0= .bool W0/\Aside0 (Bt.j1 kq d0 e0 W0=some r)/\Aside0 (kq<=B0)/\Aside0 (Below w.heap.size w wc))
   case first=>
    have H:=U0.out;clear U0;replace H:=qb H;obtain⟨X0,Y0,H⟩:=H;replace H:=qc H;obtain⟨rfl,H⟩|⟨rfl,H⟩:=H
    .have H':=qa H;clear H
     go_wp2_with(first|(refine gd 20 Tryz.func84 (Ar.c e0 1 10000 true _ Y0.out) fun nd=>?_))
     go_meet
     case rel=>exact⟨_,((d0.toList==([97,116]:List UInt8))),(sd),H',⟨by have:=A0.out;first|omega|exact Nat.le_refl _⟩,⟨bl⟩⟩
    .have H':=qa H;clear H
     go_wp2_with(first|(refine gd 20 Tryz.func84 (Ar.c e0 1 10000 false _ Y0.out) fun nd=>?_))
     go_meet
     case rel=>exact⟨_,(true),(sd),H',⟨by have:=A0.out;first|omega|exact Nat.le_refl _⟩,⟨bl⟩⟩
   case rest=>
    clear U0;obtain⟨kq,W0,rfl,HA,a1,HB⟩:=hcut;obtain⟨b1,rfl,H⟩:=kz kq HA;clear HA;simp only[Bt.j1]at H;replace H:=qc H;obtain⟨rfl,H⟩|⟨rfl,H⟩:=H
    .obtain rfl:=sj H;go_wp2;go_ret;exact⟨er,bl⟩
    .replace H:=qq H;obtain⟨c1,d1,H⟩|⟨e1,c1,d1,H⟩:=H
     .replace H:=qb H;obtain⟨g1,l1,H⟩:=H;obtain rfl:=sj H
      go_wp2_with(first|(refine gb 30 Tryz.func85 (Ci.c b1 e0 g1 _ l1.out) fun n1 hb=>?_;replace HB:=bs hb))
      go_ret;exact⟨er,bl⟩
     .replace H:=qq H;obtain⟨p1,q1,H⟩|⟨r1,p1,q1,H⟩:=H
      .replace H:=qb H;obtain⟨s1,t1,H⟩:=H;replace H:=qb H;obtain⟨v1,w1,H⟩:=H;obtain rfl:=sj H
       go_wp2_with(first|(refine ge_ 34 Tryz.func86 (Aj.c b1 e0 s1 _ t1.out) fun x1 y1 A1 hb=>?_;have B1:=lR A1;replace HB:=bs hb;obtain⟨C1,D1,rfl⟩:=Kd.An B1.out)|(refine gb 35 Tryz.func43 (Ee.c b1 _ _ s1 v1 _ (cx (Kd.Ab B1.out).2.2) ((Kd.Ab B1.out).2.1) w1.out) fun E1 hb=>?_;replace B1:=bR B1 hb;replace HB:=bs hb))
       go_ret;exact⟨er,bl⟩
      .replace H:=qq H;obtain⟨G1,J1,H⟩|⟨K1,G1,J1,H⟩:=H
       .replace H:=qb H;obtain⟨L1,M1,H⟩:=H;replace H:=qb H;obtain⟨N1,P1,H⟩:=H;obtain rfl:=sj H
        go_wp2_with(first|(refine gb 39 Tryz.func87 (Ei.c b1 e0 L1 _ M1.out) fun Q1 hb=>?_;replace HB:=bs hb)|(refine gb 40 Tryz.func82 (Af.c b1 L1 N1 _ P1.out) fun R1 hb=>?_;replace HB:=bs hb))
        go_ret;exact⟨er,bl⟩
       .replace H:=qq H;obtain⟨U1,V1,H⟩|⟨W1,U1,V1,H⟩:=H
        .replace H:=qs H;obtain⟨X1,Y1,H⟩:=H;replace H:=qb H;obtain⟨a2,b2,H⟩:=H;obtain⟨c2,d2⟩:∃j_:Int,(wrap64 (a2+1))=j_:=⟨_,rfl⟩;(first|rw[d2]at H|(try simp only[d2]at H));(try rw[d2]at b2);have e2:(IntKind.i64.wrap (a2+1))=c2:=(Bv _).trans d2;replace H:=qd H;obtain⟨g2,H⟩:=H;replace H:=qd H;obtain⟨j2,H⟩:=H;obtain rfl:=sj H
         go_wp2_with(first|(refine rls 9 43 Y1.out fun l2 n2 p2 hb=>?_;have q2:=lR p2;replace HB:=bs hb;clear hb p2)|(refine gd 45 Tryz.func88 (Js.c b1 e0 a2 _ b2.out) fun nd=>?_;obtain⟨r2,s2,rfl⟩:=Kd.An q2.out;obtain⟨t2,⟨⟩,v2,w2,x2⟩:=as_ (Kd.Ab q2.out).2.2 (c2)))
         go_ret;exact⟨by first|rfl|(simp[Ca,Bz];exact⟨rfl,rfl⟩)|(simp[Ca,Bz] <;> rfl)|(simp only[<-d2];first|rfl|(simp[Ca,Bz] <;> rfl))|(simp[*,Ca,Bz] <;> rfl),bl⟩
        .replace H:=qq H;obtain⟨y2,A2,H⟩|⟨B2,y2,A2,H⟩:=H
         .replace H:=qb H;obtain⟨C2,D2,H⟩:=H;replace H:=qb H;obtain⟨E2,G2,H⟩:=H;obtain rfl:=sj H
          go_wp2_with(first|(refine ge_ 52 Tryz.func89 (Cc.c b1 e0 C2 _ D2.out) fun J2 K2 A1 hb=>?_;have L2:=lR A1;replace HB:=bs hb;obtain⟨M2,N2,rfl⟩:=Kd.An L2.out)|(refine gb 53 Tryz.func43 (Ee.c b1 _ _ C2 E2 _ (cx (Kd.Ab L2.out).2.2) ((Kd.Ab L2.out).2.1) G2.out) fun P2 hb=>?_;replace L2:=bR L2 hb;replace HB:=bs hb))
          go_ret;exact⟨er,bl⟩
         .replace H:=qq H;obtain⟨Q2,R2,H⟩|⟨U2,Q2,R2,H⟩:=H
          .replace H:=qb H;obtain⟨V2,W2,H⟩:=H;replace H:=qb H;obtain⟨X2,Y2,H⟩:=H;obtain rfl:=sj H
           go_wp2_with(first|(refine gb 57 Tryz.func90 (Dz.c b1 e0 V2 _ W2.out) fun a3 hb=>?_;replace HB:=bs hb)|(refine gb 58 Tryz.func82 (Af.c b1 V2 X2 _ Y2.out) fun b3 hb=>?_;replace HB:=bs hb))
           go_ret;exact⟨er,bl⟩
          .replace H:=qb H;obtain⟨c3,d3,H⟩:=H;replace H:=qb H;obtain⟨e3,g3,H⟩:=H;obtain rfl:=sj H
           go_wp2_with(first|(refine gb 60 Tryz.func91 (Eu.c b1 e0 c3 _ d3.out) fun j3 hb=>?_;replace HB:=bs hb)|(refine gb 61 Tryz.func82 (Af.c b1 c3 e3 _ g3.out) fun l3 hb=>?_;replace HB:=bs hb))
           go_ret;exact⟨er,bl⟩
end Go.Proofs.YtdmlkjjlgkdnlaaGreatDoor.PFnDeskSay
