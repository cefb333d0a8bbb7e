import Derived.Test.YtdmlkjjlgkdnlaaGreatDoorPFnExactDeskSayx15
namespace Go.Proofs.YtdmlkjjlgkdnlaaGreatDoor.PFnExactDeskSay
open Go.RowKit Go.Proofs.YtdmlkjjlgkdnlaaGreatDoorW.PrintWords Go.Proofs.YtdmlkjjlgkdnlaaGreatDoorW.PrintLast Go.Proofs.YtdmlkjjlgkdnlaaGreatDoorW.PrintMore
attribute [local go_sem] max2_int min2_int max_two min_two max_three min_three max_four min_four
set_option linter.unusedVariables false
set_option linter.unusedSimpArgs false
set_option maxHeartbeats 8000000
set_option maxRecDepth 100000
def impl_DeskLine.f (k:Nat) (a0:List Int) (b0:List (List Int)) (c0:ByteArray):Option (List Int×(List (List Int))×ByteArray):=(impl_DeskOk.f k a0 b0).bind fun d0=>(if d0=true then((impl_ReadDeed.f k c0).bind fun e0=>(if e0.2.2.2=true then((impl_DeskDo.f k a0 b0 e0.1 e0.2.1 e0.2.2.1).bind fun g0=>(if g0.2.2=true then(some (g0.1,g0.2.1,(⟨#[111,107]⟩:ByteArray)))else(some (g0.1,g0.2.1,(⟨#[110,111,116]⟩:ByteArray)))))else((impl_copyDesk.f k a0 b0).bind fun j0=>((impl_answer.f k a0 c0).bind fun l0=>(some (j0.1,j0.2,l0))))))else(some (([]:List Int),([]:List (List Int)),(⟨#[]⟩:ByteArray))))
def impl_DeskLine.T9:Bool×List (List Nat×List Nat):=(true,[([],[]),([0],[0]),([],[]),([2],[2]),([],[]),([3,4,1],[3,4]),([1,5,0,1],[1]),([5,6,0,1,2,3,4,5,6],[5])])
def impl_DeskLine.B9:List Nat:=[0,1,0,4,0,31,63,127]
theorem impl_DeskLine.tab9:rtab .any (opsOf Tryz.f11 9)=impl_DeskLine.T9:=by kernel_rfl
theorem impl_DeskLine.bits9:waitsOk impl_DeskLine.T9.2 impl_DeskLine.B9=true:=by kernel_rfl
theorem impl_DeskLine.calls (k:Nat) (a0:Option Addr) (b0:Nat) (c0:List Int) (d0:Option Addr) (e0:Nat) (g0:List (List Int)) (j0:ByteArray) (l0:List Int) (n0:List (List Int)) (p0:ByteArray) (w:World) (q0:Kd.C (Kd.int .i64) w a0 c0.length c0) (r0:c0.length≤b0) (s0:Kd.C (Kd.slice 3 (Kd.int .i64)) w d0 g0.length g0) (t0:g0.length≤e0) (h:impl_DeskLine.f k c0 g0 j0=some (l0,n0,p0)) (hG_:GL w):
  Calls Tryz.prog 11 #[.agg #[.slice a0 c0.length b0,.slice d0 g0.length e0],.string j0] w fun e w'=>∃v0_ v1_:Value,e= .returned (.tuple #[.agg #[v0_,v1_],.string p0])∧Kd.R (Kd.int .i64) 3 w' w.heap.size (fun _=>True) v0_ l0∧Kd.Z (Kd.slice 3 (Kd.int .i64)) 22 w' w.heap.size (fun k_=>some k_≠(v0_:Value).ownBlock) v1_ n0∧Below w.heap.size w w':=by
 have v0:=Tryz.underlying27;have w0:=Tryz.underlying55;have x0:=qa q0;have y0:=qa r0;clear q0 r0;have A0:=qa s0;have B0:=qa t0;clear s0 t0;have HB:=qa (Below.refl w.heap.size w);have H:=h;unfold impl_DeskLine.f at H;clear h;replace H:=qb H;obtain⟨C0,D0,H⟩:=H;replace H:=qc H;obtain⟨rfl,H⟩|⟨rfl,H⟩:=H
 ·replace H:=qb H;obtain⟨⟨E0,G0,J0,K0⟩,L0,H⟩:=H;(try dsimp only at H);replace H:=qc H;obtain⟨rfl,H⟩|⟨rfl,H⟩:=H
  ·replace H:=qb H;obtain⟨⟨M0,N0,P0⟩,Q0,H⟩:=H;(try dsimp only at H);replace H:=qc H;obtain⟨rfl,H⟩|⟨rfl,H⟩:=H
   ·simp only[Option.some.injEq,Prod.mk.injEq]at H;obtain⟨rfl,rfl,rfl⟩:=H
    go_enter Tryz.func11,Tryz.ntmps11
    go_wp2_with(first|(refine bx 2 #[.slice a0 c0.length b0,.slice d0 g0.length e0] 27 ?_;intro R0 hg U0 hbox hb;have V0:=qa (hbox);have W0:=gw hg;have X0:=gw hg;replace HB:=bs hb;clear hb hbox hg)|(refine bx 4 #[.slice none 0 0,.slice none 0 0] 27 ?_;intro Y0 hg a1 hbox hb;have b1:=qa (hbox);have c1:=gw hg;have d1:=gw hg;replace HB:=bs hb;have e1:=qnl hg V0;have g1:=qng hg V0;replace V0:=qbb V0 hb;clear hb hbox hg;have j1:=e1.out;have l1:=g1.out;obtain⟨n1,p1,q1,r1⟩:=qk2 V0)|(refine gb 11 Tryz.func37 (impl_DeskOk.calls k _ _ c0 _ _ g0 true _ (cx (Kd.C_below x0.out HB.out)) y0.out (cx (Kd.C_below A0.out HB.out)) B0.out D0.out) fun s1 hb=>?_;replace V0:=qbb V0 hb;replace b1:=qbb b1 hb;replace HB:=bs hb)|(refine gb 16 Tryz.func52 (impl_ReadDeed.calls k j0 E0 G0 J0 true _ L0.out (GL_below hG_ (bl))) fun t1 hb=>?_;replace V0:=qbb V0 hb;replace b1:=qbb b1 hb;replace HB:=bs hb)|(refine bx 6 #[.int .i64 0,.int .i64 0,.int .i64 0] 55 ?_;intro v1 hg w1 hbox hb;have x1:=qa (hbox);have y1:=gw hg;have A1:=gw hg;replace HB:=bs hb;have B1:=qnl hg V0;have C1:=qng hg V0;replace V0:=qbb V0 hb;have D1:=qnl hg b1;have E1:=qng hg b1;replace b1:=qbb b1 hb;clear hb hbox hg;have G1:=C1.out;have J1:=B1.out;have K1:=E1.out;have L1:=D1.out;obtain⟨M1,N1,P1,Q1,R1,U1⟩:=qk3 x1;obtain⟨V1,W1,X1,Y1⟩:=qk2 V0)|(refine gol (some 23) Tryz.func53 #[.agg #[.slice a0 c0.length b0,.slice d0 g0.length e0],.agg #[.int .i64 E0,.int .i64 G0,.int .i64 J0]] ?_;(with_reducible refine(impl_DeskDo.calls k _ _ c0 _ _ g0 E0 G0 J0 M0 N0 true _ ?a2 ?b2 ?c2 ?d2 Q0.out).mono ?_);(case a2=>exact Kd.C_below x0.out (bl));(case b2=>exact y0.out);(case c2=>exact Kd.C_below A0.out (bl));(case d2=>exact B0.out);rintro e e2 ⟨g2,j2,rfl,l2,n2,hb⟩;refine⟨_,rfl,?_⟩;have p2:=qa (Kd.R_lower l2 (below_size (bl)));have q2:=qa (Kd.Z_lower n2 (below_size (bl)));replace V0:=qbb V0 hb;replace b1:=qbb b1 hb;replace x1:=qa (blk_below (g:=v1) (o:= .cells #[.int .i64 E0,.int .i64 G0,.int .i64 J0] 55 (0,0)) (kP x1) hb);replace HB:=bs hb)|(refine bx 8 #[.slice none 0 0,.slice none 0 0] 27 ?_;intro r2 hg s2 hbox hb;replace p2:=qa (Kd.R_below (kR p2) hb);replace q2:=qa (Kd.Z_below (kZ q2) hb);have t2:=qa (hbox);have v2:=gw hg;have w2:=gw hg;replace HB:=bs hb;have x2:=qnl hg V0;have y2:=qng hg V0;replace V0:=qbb V0 hb;have A2:=qnl hg b1;have B2:=qng hg b1;replace b1:=qbb b1 hb;have C2:=qnl hg x1;have D2:=qng hg x1;replace x1:=qbb x1 hb;clear hb hbox hg;obtain⟨E2,G2,rfl⟩:=Kd.R_slice p2.out;have J2:=y2.out;have K2:=x2.out;have L2:=B2.out;have M2:=A2.out;have N2:=D2.out;have P2:=C2.out;obtain⟨Q2,R2,U2,V2⟩:=qk2 t2;obtain⟨W2,X2,Y2,_⟩:=Kd.Z_slice q2.out;subst Y2;obtain⟨a3,b3,c3,d3⟩:=qk2 b1))
    refine bodyPost_ret (results_ct rfl _ _ Y0 27 #[.slice E2 M0.length G2,.slice W2 N0.length X2] (0,0) _ rfl (by(with_reducible repeat(first|refine blk_drewN ?_ _|refine blk_drew ?_|refine blk_alloc ?_ _));refine blk_put (cs:=#[.slice E2 M0.length G2,.slice none 0 0]) ?_ 1 _ rfl;(with_reducible repeat(first|refine blk_drewN ?_ _|refine blk_drew ?_|refine blk_alloc ?_ _));refine blk_put (cs:=#[.slice none 0 0,.slice none 0 0]) ?_ 0 _ rfl;(with_reducible repeat(first|refine blk_drewN ?_ _|refine blk_drew ?_|refine blk_alloc ?_ _));refine blk_far ?_ A2.out _;(with_reducible repeat(first|refine blk_drewN ?_ _|refine blk_drew ?_|refine blk_alloc ?_ _));refine blk_far ?_ A2.out _;(with_reducible repeat(first|refine blk_drewN ?_ _|refine blk_drew ?_|refine blk_alloc ?_ _));exact b1.out) Tryz.underlying27 rfl kr_) rfl ?_;exact⟨_,_,er,kGR p2.out t2 b1 (fun _ hk=>trivial),by(with_reducible repeat(first|apply Kd.Z_alloc|apply Kd.Z_drewN|apply Kd.Z_drew));exact Kd.Z_mono (Kd.Z_far (p:=⟨Y0,1,none⟩) (Kd.Z_far (p:=⟨Y0,0,none⟩) (Kd.Z_far (p:=⟨r2,1,none⟩) (Kd.Z_far (p:=⟨r2,0,none⟩) (Kd.Z_types (Kd.Z_types q2.out t2.out kd_) b1.out kd_) (fun _ hk=>hk.1.2) (.slice E2 M0.length G2)) (fun _ hk=>hk.1.2) (.slice W2 N0.length X2)) (fun _ hk=>hk.2) (.slice E2 M0.length G2)) (fun _ hk=>hk.2) (.slice W2 N0.length X2)) (fun _ hk=>hk.1.1),bl⟩
   ·simp only[Option.some.injEq,Prod.mk.injEq]at H;obtain⟨rfl,rfl,rfl⟩:=H
    go_enter Tryz.func11,Tryz.ntmps11
    go_wp2_with(first|(refine bx 2 #[.slice a0 c0.length b0,.slice d0 g0.length e0] 27 ?_;intro R0 hg e3 hbox hb;have V0:=qa (hbox);have W0:=gw hg;have X0:=gw hg;replace HB:=bs hb;clear hb hbox hg)|(refine bx 4 #[.slice none 0 0,.slice none 0 0] 27 ?_;intro Y0 hg g3 hbox hb;have b1:=qa (hbox);have c1:=gw hg;have d1:=gw hg;replace HB:=bs hb;have e1:=qnl hg V0;have g1:=qng hg V0;replace V0:=qbb V0 hb;clear hb hbox hg;have j3:=e1.out;have l3:=g1.out;obtain⟨n3,p3,q3,r3⟩:=qk2 V0)|(refine gb 11 Tryz.func37 (impl_DeskOk.calls k _ _ c0 _ _ g0 true _ (cx (Kd.C_below x0.out HB.out)) y0.out (cx (Kd.C_below A0.out HB.out)) B0.out D0.out) fun s3 hb=>?_;replace V0:=qbb V0 hb;replace b1:=qbb b1 hb;replace HB:=bs hb)|(refine gb 16 Tryz.func52 (impl_ReadDeed.calls k j0 E0 G0 J0 true _ L0.out (GL_below hG_ (bl))) fun t3 hb=>?_;replace V0:=qbb V0 hb;replace b1:=qbb b1 hb;replace HB:=bs hb)|(refine bx 6 #[.int .i64 0,.int .i64 0,.int .i64 0] 55 ?_;intro v1 hg v3 hbox hb;have x1:=qa (hbox);have y1:=gw hg;have A1:=gw hg;replace HB:=bs hb;have B1:=qnl hg V0;have C1:=qng hg V0;replace V0:=qbb V0 hb;have D1:=qnl hg b1;have E1:=qng hg b1;replace b1:=qbb b1 hb;clear hb hbox hg;have w3:=C1.out;have x3:=B1.out;have y3:=E1.out;have A3:=D1.out;obtain⟨B3,C3,D3,E3,G3,J3⟩:=qk3 x1;obtain⟨K3,L3,M3,N3⟩:=qk2 V0)|(refine gol (some 23) Tryz.func53 #[.agg #[.slice a0 c0.length b0,.slice d0 g0.length e0],.agg #[.int .i64 E0,.int .i64 G0,.int .i64 J0]] ?_;(with_reducible refine(impl_DeskDo.calls k _ _ c0 _ _ g0 E0 G0 J0 M0 N0 false _ ?a2 ?b2 ?c2 ?d2 Q0.out).mono ?_);(case a2=>exact Kd.C_below x0.out (bl));(case b2=>exact y0.out);(case c2=>exact Kd.C_below A0.out (bl));(case d2=>exact B0.out);rintro e P3 ⟨g2,j2,rfl,l2,n2,hb⟩;refine⟨_,rfl,?_⟩;have p2:=qa (Kd.R_lower l2 (below_size (bl)));have q2:=qa (Kd.Z_lower n2 (below_size (bl)));replace V0:=qbb V0 hb;replace b1:=qbb b1 hb;replace x1:=qa (blk_below (g:=v1) (o:= .cells #[.int .i64 E0,.int .i64 G0,.int .i64 J0] 55 (0,0)) (kP x1) hb);replace HB:=bs hb)|(refine bx 8 #[.slice none 0 0,.slice none 0 0] 27 ?_;intro r2 hg Q3 hbox hb;replace p2:=qa (Kd.R_below (kR p2) hb);replace q2:=qa (Kd.Z_below (kZ q2) hb);have t2:=qa (hbox);have v2:=gw hg;have w2:=gw hg;replace HB:=bs hb;have x2:=qnl hg V0;have y2:=qng hg V0;replace V0:=qbb V0 hb;have A2:=qnl hg b1;have B2:=qng hg b1;replace b1:=qbb b1 hb;have C2:=qnl hg x1;have D2:=qng hg x1;replace x1:=qbb x1 hb;clear hb hbox hg;obtain⟨R3,U3,rfl⟩:=Kd.R_slice p2.out;have V3:=y2.out;have W3:=x2.out;have X3:=B2.out;have Y3:=A2.out;have a4:=D2.out;have b4:=C2.out;obtain⟨c4,d4,e4,g4⟩:=qk2 t2;obtain⟨j4,l4,n4,_⟩:=Kd.Z_slice q2.out;subst n4;obtain⟨p4,q4,r4,s4⟩:=qk2 b1))
    refine bodyPost_ret (results_ct rfl _ _ Y0 27 #[.slice R3 M0.length U3,.slice j4 N0.length l4] (0,0) _ rfl (by(with_reducible repeat(first|refine blk_drewN ?_ _|refine blk_drew ?_|refine blk_alloc ?_ _));refine blk_put (cs:=#[.slice R3 M0.length U3,.slice none 0 0]) ?_ 1 _ rfl;(with_reducible repeat(first|refine blk_drewN ?_ _|refine blk_drew ?_|refine blk_alloc ?_ _));refine blk_put (cs:=#[.slice none 0 0,.slice none 0 0]) ?_ 0 _ rfl;(with_reducible repeat(first|refine blk_drewN ?_ _|refine blk_drew ?_|refine blk_alloc ?_ _));refine blk_far ?_ A2.out _;(with_reducible repeat(first|refine blk_drewN ?_ _|refine blk_drew ?_|refine blk_alloc ?_ _));refine blk_far ?_ A2.out _;(with_reducible repeat(first|refine blk_drewN ?_ _|refine blk_drew ?_|refine blk_alloc ?_ _));exact b1.out) Tryz.underlying27 rfl kr_) rfl ?_;exact⟨_,_,er,kGR p2.out t2 b1 (fun _ hk=>trivial),by(with_reducible repeat(first|apply Kd.Z_alloc|apply Kd.Z_drewN|apply Kd.Z_drew));exact Kd.Z_mono (Kd.Z_far (p:=⟨Y0,1,none⟩) (Kd.Z_far (p:=⟨Y0,0,none⟩) (Kd.Z_far (p:=⟨r2,1,none⟩) (Kd.Z_far (p:=⟨r2,0,none⟩) (Kd.Z_types (Kd.Z_types q2.out t2.out kd_) b1.out kd_) (fun _ hk=>hk.1.2) (.slice R3 M0.length U3)) (fun _ hk=>hk.1.2) (.slice j4 N0.length l4)) (fun _ hk=>hk.2) (.slice R3 M0.length U3)) (fun _ hk=>hk.2) (.slice j4 N0.length l4)) (fun _ hk=>hk.1.1),bl⟩
  ·replace H:=qb H;obtain⟨⟨t4,v4⟩,w4,H⟩:=H;(try dsimp only at H);replace H:=qb H;obtain⟨x4,y4,H⟩:=H;simp only[Option.some.injEq,Prod.mk.injEq]at H;obtain⟨rfl,rfl,rfl⟩:=H
   go_enter Tryz.func11,Tryz.ntmps11
   try go_wp2_with(first|(refine bx 2 #[.slice a0 c0.length b0,.slice d0 g0.length e0] 27 ?_;intro R0 hg A4 hbox hb;have V0:=qa (hbox);have W0:=gw hg;have X0:=gw hg;replace HB:=bs hb;clear hb hbox hg)|(refine bx 4 #[.slice none 0 0,.slice none 0 0] 27 ?_;intro Y0 hg B4 hbox hb;have b1:=qa (hbox);have c1:=gw hg;have d1:=gw hg;replace HB:=bs hb;have e1:=qnl hg V0;have g1:=qng hg V0;replace V0:=qbb V0 hb;clear hb hbox hg;have C4:=e1.out;have D4:=g1.out;obtain⟨E4,G4,J4,K4⟩:=qk2 V0)|(refine gb 11 Tryz.func37 (impl_DeskOk.calls k _ _ c0 _ _ g0 true _ (cx (Kd.C_below x0.out HB.out)) y0.out (cx (Kd.C_below A0.out HB.out)) B0.out D0.out) fun L4 hb=>?_;replace V0:=qbb V0 hb;replace b1:=qbb b1 hb;replace HB:=bs hb)|(refine gb 16 Tryz.func52 (impl_ReadDeed.calls k j0 E0 G0 J0 false _ L0.out (GL_below hG_ (bl))) fun M4 hb=>?_;replace V0:=qbb V0 hb;replace b1:=qbb b1 hb;replace HB:=bs hb)|(refine bx 6 #[.int .i64 0,.int .i64 0,.int .i64 0] 55 ?_;intro v1 hg N4 hbox hb;have x1:=qa (hbox);have y1:=gw hg;have A1:=gw hg;replace HB:=bs hb;have B1:=qnl hg V0;have C1:=qng hg V0;replace V0:=qbb V0 hb;have D1:=qnl hg b1;have E1:=qng hg b1;replace b1:=qbb b1 hb;clear hb hbox hg;have P4:=C1.out;have Q4:=B1.out;have R4:=E1.out;have U4:=D1.out;obtain⟨V4,W4,X4,Y4,a5,b5⟩:=qk3 x1))
   have n0_:Aside0 ((((N4.setCell ⟨v1,0,none⟩ (.int .i64 E0)).setCell ⟨v1,1,none⟩ (.int .i64 G0)).setCell ⟨v1,2,none⟩ (.int .i64 J0)).heap[R0]? =some (.cells #[.slice a0 c0.length b0,.slice d0 g0.length e0] 27 (0,0))):=⟨kb V0⟩;have n1_:Aside0 ((((N4.setCell ⟨v1,0,none⟩ (.int .i64 E0)).setCell ⟨v1,1,none⟩ (.int .i64 G0)).setCell ⟨v1,2,none⟩ (.int .i64 J0)).heap[Y0]? =some (.cells #[.slice none 0 0,.slice none 0 0] 27 (0,0))):=⟨kb b1⟩;have n2_:Aside0 ((((N4.setCell ⟨v1,0,none⟩ (.int .i64 E0)).setCell ⟨v1,1,none⟩ (.int .i64 G0)).setCell ⟨v1,2,none⟩ (.int .i64 J0)).heap[v1]? =some (.cells #[.int .i64 E0,.int .i64 G0,.int .i64 J0] 55 (0,0))):=⟨kP x1⟩;have n3_:Aside0 (Below w.heap.size w (((N4.setCell ⟨v1,0,none⟩ (.int .i64 E0)).setCell ⟨v1,1,none⟩ (.int .i64 G0)).setCell ⟨v1,2,none⟩ (.int .i64 J0))):=⟨bl⟩;(try clear V0);(try clear b1);(try clear x1);(try clear HB);generalize (((N4.setCell ⟨v1,0,none⟩ (.int .i64 E0)).setCell ⟨v1,1,none⟩ (.int .i64 G0)).setCell ⟨v1,2,none⟩ (.int .i64 J0))=c5 at n0_ n1_ n2_ n3_ ⊢;have V0:=n0_;have b1:=n1_;have x1:=n2_;have HB:=n3_;clear n0_ n1_ n2_ n3_;replace V0:=qa (blk_drew V0.out);replace b1:=qa (blk_drew b1.out);replace x1:=qa (blk_drew x1.out);replace HB:=qa (below_drew1 HB.out);refine start_ (n:=8) (S:=fun w'=>w'.cell? ⟨R0,0,none⟩=some (.slice a0 c0.length b0)∧w'.cell? ⟨R0,1,none⟩=some (.slice d0 g0.length e0)) (ds:=[]) _ kr_ rfl rfl ⟨(blk_cell V0.out 0).trans rfl,(blk_cell V0.out 1).trans rfl⟩ (fun hHeld=>?_);refine with_tabW impl_DeskLine.tab9 impl_DeskLine.bits9 (fun HT_ HW_=>?_);generalize c5.drew=d5 at V0 b1 x1 HB hHeld ⊢;refine pur 2 32 (bz 8 4) HT_ ?_;refine pur 4 34 (bz 8 20) HT_ ?_;refine tk 0 30 (bz 8 21) hHeld (take_ofW HT_.out HW_.out kr_) ?_;refine tk 3 33 (bz 8 29) hHeld (take_ofW HT_.out HW_.out kr_) ?_;(refine o1 1 (some 31) (bz 8 31) (one_of HT_.out kr_) fun K hK=>?_);refine goes_ Tryz.func54 kr_ rfl #[.agg #[.slice a0 c0.length b0,.slice d0 g0.length e0]] (by rfl) rfl rfl am ?_
   with_reducible refine(impl_copyDesk.calls k _ _ c0 _ _ g0 t4 v4 _ ?a2 ?b2 ?c2 ?d2 w4.out).mono ?_
   (case a2=>exact cx (Kd.C_below x0.out HB.out));(case b2=>exact y0.out);(case c2=>exact cx (Kd.C_below A0.out HB.out));(case d2=>exact B0.out);rintro e e5 ⟨g5,j5,rfl,l2,n2,hb⟩;refine⟨_,rfl,?_⟩;have l5:=qa (Kd.R_lower l2 (below_size (bl)));have n5:=qa (Kd.S_lower n2 (below_size (bl)));replace V0:=qbb V0 hb;replace b1:=qbb b1 hb;replace x1:=qbb x1 hb;replace HB:=bs hb;(try clear hb);(try clear p5);(try clear hk);(try clear hi);(try clear l2);(try clear n2);refine hK.out _ _ ⟨(blk_cell V0.out 0).trans rfl,(blk_cell V0.out 1).trans rfl⟩ (fun hHeld=>?_);clear hK K;refine nm 31 ?_;(refine o1 5 (some 35) (bz 8 63) (one_of HT_.out kr_) fun K hK=>?_);(refine gsb Tryz.func55 (impl_answer.calls k _ _ c0 j0 x4 _ (cx (Kd.C_below x0.out HB.out)) y0.out y4.out (GL_below hG_ (bl))) fun q5 hb=>?_);replace l5:=qa (Kd.R_below (kR l5) hb);replace n5:=qa (Kd.S_below (kS n5) hb);replace V0:=qbb V0 hb;replace b1:=qbb b1 hb;replace x1:=qbb x1 hb;replace HB:=bs hb;(try clear hb);(try clear p5);(try clear hk);(try clear hi);obtain⟨r5,s5,t5⟩:=Kd.R_slice l5.out;(first|subst t5|(injection t5 with f1_ f2_ f3_;have f4_:=f1_.symm;have f5_:=f3_.symm;clear f1_ f2_ f3_;subst f4_;subst f5_));obtain⟨v5,w5,x5⟩:=Kd.S_slice n5.out;(first|subst x5|(injection x5 with f1_ f2_ f3_;have f4_:=f1_.symm;have f5_:=f3_.symm;clear f1_ f2_ f3_;subst f4_;subst f5_));refine hK.out _ _ ⟨(blk_cell V0.out 0).trans rfl,(blk_cell V0.out 1).trans rfl⟩ (fun hHeld=>?_);clear hK K;refine nm 35 ?_;(refine o1 6 none (bz 8 127) (one_of HT_.out kr_) fun K hK=>?_);have y5:q5.cell? ⟨Y0,0,none⟩=some (.slice none 0 0):=(blk_cell b1.out 0).trans rfl;have A5:=blk_frozen b1.out 0;have B5:=e1.out;have C5:=E1.out;have D5:=g1.out;have E5:=D1.out;have G5:q5.cell? ⟨Y0,1,none⟩=some (.slice none 0 0):=(blk_cell b1.out 1).trans rfl;have J5:=blk_frozen b1.out 1;have K5:=e1.out;have L5:=E1.out;have M5:=g1.out;have N5:=D1.out;refine skip_ (w1:=?_) (by rfl) rfl ?_ ?_;rotate_left
   ·go_simp
    rfl
   refine hK.out _ _ ⟨((cell_far (p:=⟨Y0,_,none⟩) e1.out _).trans (((cell_far (p:=⟨Y0,_,none⟩) e1.out _).trans (hHeld.1)))),((cell_far (p:=⟨Y0,_,none⟩) e1.out _).trans (((cell_far (p:=⟨Y0,_,none⟩) e1.out _).trans (hHeld.2))))⟩ (fun hHeld=>?_);clear hK K;refine pur 7 5 (bz 8 255) HT_ ?_;refine done_ (done_of HT_.out kr_) ?_
   try go_wp2
   refine bodyPost_ret (results_ct rfl _ _ Y0 27 #[.slice r5 t4.length s5,.slice v5 v4.length w5] (0,0) _ rfl (kP b1) Tryz.underlying27 rfl kr_) rfl ?_;exact⟨_,_,er,kFR l5 b1 (fun _ hk=>trivial),Kd.Z_of_S (kFS n5 b1 (fun _ hk=>hk.1)),bl⟩
 ·simp only[Option.some.injEq,Prod.mk.injEq]at H;obtain⟨rfl,rfl,rfl⟩:=H
  go_enter Tryz.func11,Tryz.ntmps11
  go_wp2_with(first|(refine bx 2 #[.slice a0 c0.length b0,.slice d0 g0.length e0] 27 ?_;intro R0 hg P5 hbox hb;have V0:=qa (hbox);have W0:=gw hg;have X0:=gw hg;replace HB:=bs hb;clear hb hbox hg)|(refine bx 4 #[.slice none 0 0,.slice none 0 0] 27 ?_;intro Y0 hg Q5 hbox hb;have b1:=qa (hbox);have c1:=gw hg;have d1:=gw hg;replace HB:=bs hb;have e1:=qnl hg V0;have g1:=qng hg V0;replace V0:=qbb V0 hb;clear hb hbox hg;have R5:=e1.out;have U5:=g1.out;obtain⟨V5,W5,X5,Y5⟩:=qk2 V0)|(refine gb 11 Tryz.func37 (impl_DeskOk.calls k _ _ c0 _ _ g0 false _ (cx (Kd.C_below x0.out HB.out)) y0.out (cx (Kd.C_below A0.out HB.out)) B0.out D0.out) fun a6 hb=>?_;replace V0:=qbb V0 hb;replace b1:=qbb b1 hb;replace HB:=bs hb;obtain⟨b6,c6,d6,e6⟩:=qk2 b1))
  refine bodyPost_ret (results_ct rfl _ _ Y0 27 #[.slice none 0 0,.slice none 0 0] (0,0) _ rfl (kP b1) Tryz.underlying27 rfl kr_) rfl ?_;exact⟨_,_,er,z48_,Kd.Z_of_S (by first|exact Kd.S_nil _ _ _ _ _|exact Kd.N_nil _ _ _ _ _|exact Kd.V_nil _ _ _ _ _|exact Kd.Z_nil _ _ _ _ _|exact Kd.R_nil _ _ _ _ _),bl⟩

mutual
def impl_DeskSay.j0:Nat→List ByteArray→Bool→List Int→List (List Int)→Option (List Int×(List (List Int))×List ByteArray)
 |0,_,_,_,_=>none
 |k+1,a0,b0,c0,d0=>if b0=true then(some (([]:List Int),([]:List (List Int)),([]:List ByteArray)))else((impl_copyDesk.f k c0 d0).bind fun e0=>(impl_DeskSay.l0 k (([]:List ByteArray)) a0 (a0.length:Int) 0 e0.1 e0.2))
def impl_DeskSay.l0:Nat→List ByteArray→List ByteArray→Int→Int→List Int→List (List Int)→Option (List Int×(List (List Int))×List ByteArray)
 |0,_,_,_,_,_,_=>none
 |k+1,g0,n0,p0,q0,c0,d0=>if q0<p0 then(if 0≤q0 then(if q0<(n0.length:Int)then((impl_DeskLine.f k c0 d0 (rdOf ByteArray.empty n0 q0)).bind fun r0=>(if g0.length<8796093022208 then(impl_DeskSay.l0 k (g0++[r0.2.2]) n0 p0 (wrap64 (q0+1)) r0.1 r0.2.1)else(none)))else(none))else(none))else(some (c0,d0,g0))
end

def impl_DeskSay.f (k:Nat) (a0:List Int) (b0:List (List Int)) (c0:List ByteArray):Option (List Int×(List (List Int))×List ByteArray):=(impl_DeskOk.f k a0 b0).bind fun d0=>(if d0=true then(impl_DeskSay.j0 k c0 (decide ((c0.length:Int)>40)) a0 b0)else(impl_DeskSay.j0 k c0 true a0 b0))
theorem impl_DeskSay.calls (k:Nat) (a0:Option Addr) (b0:Nat) (c0:List Int) (d0:Option Addr) (e0:Nat) (g0:List (List Int)) (n0:Option Addr) (p0:Nat) (q0:List ByteArray) (r0:List Int) (s0:List (List Int)) (t0:List ByteArray) (w:World) (v0:Kd.C (Kd.int .i64) w a0 c0.length c0) (w0:c0.length≤b0) (x0:Kd.C (Kd.slice 3 (Kd.int .i64)) w d0 g0.length g0) (y0:g0.length≤e0) (A0:Kd.C Kd.string w n0 q0.length q0) (B0:q0.length≤p0) (h:impl_DeskSay.f k c0 g0 q0=some (r0,s0,t0)) (hG_:GL w):
  Calls Tryz.prog 16 #[.agg #[.slice a0 c0.length b0,.slice d0 g0.length e0],.slice n0 q0.length p0] w fun e w'=>∃v0_ v1_ v2_:Value,e= .returned (.tuple #[.agg #[v0_,v1_],v2_])∧Kd.R (Kd.int .i64) 3 w' w.heap.size (fun _=>True) v0_ r0∧Kd.Z (Kd.slice 3 (Kd.int .i64)) 22 w' w.heap.size (fun k_=>some k_≠(v0_:Value).ownBlock) v1_ s0∧Kd.R Kd.string 9 w' w.heap.size (fun _=>True) v2_ t0∧Below w.heap.size w w':=by
 have C0:=Tryz.underlying27;have D0:=qa v0;have E0:=qa w0;clear v0 w0;have G0:=qa x0;have J0:=qa y0;clear x0 y0;have K0:=qa A0;have L0:=qa B0;clear A0 B0;have HB:=qa (Below.refl w.heap.size w);have H:=h;unfold impl_DeskSay.f at H;clear h;have M0:=qa H;clear H
 go_enter Tryz.func16,Tryz.ntmps16
 go_upto_region 1 with(go_big_may;first|((with_reducible refine gate_dst (N:=2) rfl ?_);(try(refine gate_guard (by rfl) ?_;dsimp only));refine bx 2 #[.slice a0 c0.length b0,.slice d0 g0.length e0] 27 ?_;intro N0 hg P0 hbox hb;have Q0:=qa (hbox);have R0:=gw hg;have U0:=gw hg;replace HB:=bs hb;clear hb hbox hg)|((with_reducible refine gate_dst (N:=4) rfl ?_);(try(refine gate_guard (by rfl) ?_;dsimp only));refine bx 4 #[.slice none 0 0,.slice none 0 0] 27 ?_;intro V0 hg W0 hbox hb;have X0:=qa (hbox);have Y0:=gw hg;have a1:=gw hg;replace HB:=bs hb;have b1:=qnl hg Q0;have c1:=qng hg Q0;replace Q0:=qbb Q0 hb;clear hb hbox hg))
 (try simp only[Act.put,List.setIfInBounds_toArray,List.set_cons_zero,List.set_cons_succ])
 go_cut [18] (fun d1 wc=>∃(kq:Nat) (e1:Bool),d1= .bool e1∧Aside0 (impl_DeskSay.j0 kq q0 e1 c0 g0=some (r0,s0,t0))∧Aside0 (kq≤k)∧Aside0 (wc.heap[N0]? =some (.cells #[(.slice a0 c0.length b0),(.slice d0 g0.length e0)] 27 (0,0)))∧Aside0 (wc.heap[V0]? =some (.cells #[(.slice none 0 0),(.slice none 0 0)] 27 (0,0)))∧Aside0 (Below w.heap.size w wc))
 case first=>
  have H:=M0.out;clear M0;replace H:=qb H;obtain⟨g1,j1,H⟩:=H;replace H:=qc H;obtain⟨rfl,H⟩|⟨rfl,H⟩:=H
  ·have H':=qa H;clear H;have l1:=b1.out;have n1:=c1.out;obtain⟨p1,q1,r1,s1⟩:=qk2 Q0
   go_wp2_with(first|(refine gb 12 Tryz.func37 (impl_DeskOk.calls k _ _ c0 _ _ g0 true _ (cx (Kd.C_below D0.out HB.out)) E0.out (cx (Kd.C_below G0.out HB.out)) J0.out j1.out) fun t1 hb=>?_;replace Q0:=qbb Q0 hb;replace X0:=qbb X0 hb;replace HB:=bs hb))
   go_meet
   case rel=>exact⟨_,(decide ((q0.length:Int)>40)),(sd),H',⟨by first|omega|exact Nat.le_refl _⟩,⟨bk⟩,⟨bk⟩,⟨bl⟩⟩
  ·have H':=qa H;clear H;have v1:=b1.out;have w1:=c1.out;obtain⟨x1,y1,A1,B1⟩:=qk2 Q0
   go_wp2_with(first|(refine gb 12 Tryz.func37 (impl_DeskOk.calls k _ _ c0 _ _ g0 false _ (cx (Kd.C_below D0.out HB.out)) E0.out (cx (Kd.C_below G0.out HB.out)) J0.out j1.out) fun C1 hb=>?_;replace Q0:=qbb Q0 hb;replace X0:=qbb X0 hb;replace HB:=bs hb))
   go_meet
   case rel=>exact⟨_,(true),(sd),H',⟨by first|omega|exact Nat.le_refl _⟩,⟨bk⟩,⟨bk⟩,⟨bl⟩⟩
 case rest=>
  clear M0;obtain⟨kq,e1,rfl,HA,D1,Q0,X0,HB⟩:=hcut;obtain⟨E1,rfl,H⟩:=kz kq HA;clear HA;simp only[impl_DeskSay.j0]at H;replace H:=qc H;obtain⟨rfl,H⟩|⟨rfl,H⟩:=H
  ·simp only[Option.some.injEq,Prod.mk.injEq]at H;obtain⟨rfl,rfl,rfl⟩:=H;have G1:=c1.out;have J1:=b1.out;obtain⟨K1,L1,M1,N1⟩:=qk2 X0;go_wp2;refine bodyPost_ret (results_ct rfl _ _ V0 27 #[.slice none 0 0,.slice none 0 0] (0,0) _ rfl (kP X0) Tryz.underlying27 rfl kr_) rfl ?_;exact⟨_,_,_,er,z48_,Kd.Z_of_S (by first|exact Kd.S_nil _ _ _ _ _|exact Kd.N_nil _ _ _ _ _|exact Kd.V_nil _ _ _ _ _|exact Kd.Z_nil _ _ _ _ _|exact Kd.R_nil _ _ _ _ _),z48_,bl⟩
  ·obtain⟨P1,hy_⟩:∃y_:List ByteArray,y_=(([]:List ByteArray)):=⟨_,rfl⟩;replace H:((impl_copyDesk.f E1 c0 g0).bind fun Q1=>(impl_DeskSay.l0 E1 P1 q0 (q0.length:Int) 0 Q1.1 Q1.2))=some (r0,s0,t0):=yh;have R1:=qa hy_;clear hy_;replace H:=qb H;obtain⟨⟨U1,V1⟩,W1,H⟩:=H;(try dsimp only at H);have H':=qa H;clear H
   go_wp2_with(first|(refine rls 9 20 R1.out fun X1 Y1 a2 hb=>?_;have b2:=qa (Kd.R_lower a2 (below_size (bl)));replace Q0:=qbb Q0 hb;replace X0:=qbb X0 hb;replace HB:=bs hb;clear hb a2;have c2:=b1.out;have d2:=c1.out;obtain⟨e2,g2,j2,l2⟩:=qk2 Q0)|(refine gol (some 22) Tryz.func54 #[.agg #[.slice a0 c0.length b0,.slice d0 g0.length e0]] ?_;(with_reducible refine(impl_copyDesk.calls E1 _ _ c0 _ _ g0 U1 V1 _ ?n2 ?p2 ?q2 ?r2 W1.out).mono ?_);(case n2=>exact cx (Kd.C_below D0.out HB.out));(case p2=>exact E0.out);(case q2=>exact cx (Kd.C_below G0.out HB.out));(case r2=>exact J0.out);rintro e s2 ⟨t2,v2,rfl,w2,x2,hb⟩;refine⟨_,rfl,?_⟩;replace b2:=qa (Kd.R_below (kR b2) hb);have y2:=qa (Kd.R_lower w2 (below_size (bl)));have A2:=qa (Kd.S_lower x2 (below_size (bl)));replace Q0:=qbb Q0 hb;replace X0:=qbb X0 hb;replace HB:=bs hb;obtain⟨B2,C2,rfl⟩:=Kd.R_slice y2.out;obtain⟨D2,E2,G2,J2⟩:=qk2 Q0;obtain⟨K2,L2,rfl⟩:=Kd.S_slice A2.out))
   go_loopg [6,25] E1 (fun kq M2 N2 w'=>∃(P2:List ByteArray) (Q2:Int) (R2:List Int) (U2:List (List Int)) (V2:Value) (W2:Value),N2= .int .i64 Q2∧Aside0 (impl_DeskSay.l0 kq P2 q0 (q0.length:Int) Q2 R2 U2=some (r0,s0,t0))∧Aside0 (kq≤E1)∧Aside0 (Kd.R Kd.string 9 w' w.heap.size (fun _=>True) M2 P2)∧Aside0 (Kd.R (Kd.int .i64) 3 w' w.heap.size (fun _=>True) V2 R2)∧Aside0 (Kd.Z (Kd.slice 3 (Kd.int .i64)) 22 w' w.heap.size (fun k_=>some k_≠(V2:Value).ownBlock) W2 U2)∧Aside0 (w'.heap[N0]? =some (.cells #[V2,W2] 27 (0,0)))∧Aside0 (w'.heap[V0]? =some (.cells #[(.slice none 0 0),(.slice none 0 0)] 27 (0,0)))∧Aside0 (Below w.heap.size w w'))
   case atStart=>exact⟨(P1),(0),(U1),(V1),(.slice B2 U1.length C2),(.slice K2 V1.length L2),(sd),H',⟨Nat.le_refl _⟩,⟨kFR b2 Q0 (fun _ hk=>trivial)⟩,⟨kFR y2 Q0 (fun _ hk=>trivial)⟩,⟨Kd.Z_of_S (kFS A2 Q0 (fun _ hk=>hk.1))⟩,⟨kP Q0⟩,⟨kb X0⟩,⟨bl⟩⟩
   case round=>
    clear H';obtain⟨P2,Q2,R2,U2,V2,W2,rfl,HA,HK2,X2,Y2,a3,Q0,X0,HB⟩:=hrel;obtain⟨k2,rfl,H⟩:=kz gk HA;clear HA;simp only[impl_DeskSay.l0]at H;replace H:=qe H;obtain⟨b3,H⟩|⟨b3,H⟩:=H
    ·replace H:=qd H;obtain⟨c3,H⟩:=H;replace H:=qd H;obtain⟨d3,H⟩:=H;replace H:=qb H;obtain⟨⟨e3,g3,j3⟩,l3,H⟩:=H;(try dsimp only at H);replace H:=qn H;obtain⟨n3,H⟩:=H;have p3:=qa n3;clear n3;obtain⟨q3,hy_⟩:∃y_:List ByteArray,y_=(P2++[j3]):=⟨_,rfl⟩;replace H:(impl_DeskSay.l0 k2 q3 q0 (q0.length:Int) (wrap64 (Q2+1)) e3 g3)=some (r0,s0,t0):=yh;have r3:=qa hy_;clear hy_;have H':=qa H;clear H;obtain⟨s3,⟨⟩,t3,v3,w3⟩:=as_ K0.out Q2;(try replace t3:=(HB.out.cell (World.block_lt_of_cell? w _ t3)).trans t3);have x3:=b1.out;have y3:=c1.out;obtain⟨A3,B3,C3,D3⟩:=qk2 Q0;obtain⟨E3,G3,rfl⟩:=Kd.R_slice Y2.out;obtain⟨J3,K3,L3,_⟩:=Kd.Z_slice a3.out;subst L3
     go_wp2_with(first|(refine gol (some 32) Tryz.func11 #[.agg #[.slice E3 R2.length G3,.slice J3 U2.length K3],.string (rdOf ByteArray.empty q0 Q2)] ?_;(with_reducible refine(impl_DeskLine.calls k2 _ _ R2 _ _ U2 (rdOf ByteArray.empty q0 Q2) e3 g3 j3 _ ?n2 ?p2 ?q2 ?r2 l3.out ?M3).mono ?_);(case n2=>exact cx (Kd.R_reads' Y2.out).2.2);(case p2=>exact(Kd.R_reads' Y2.out).2.1);(case q2=>exact cx (Kd.Z_reads' a3.out).2.2);(case r2=>exact(Kd.Z_reads' a3.out).2.1);(case M3=>exact GL_below hG_ (bl));rintro e N3 ⟨P3,Q3,rfl,w2,x2,hb⟩;refine⟨_,rfl,?_⟩;replace X2:=qa (Kd.R_below (kR X2) hb);have R3:=qa (Kd.R_lower (Kd.R_new' w2 (Kd.R_lt (kR Y2))) (below_size (bl)));have U3:=qa (Kd.Z_lower (Kd.Z_new' (Kd.Z_new' x2 (Kd.R_lt (kR Y2))) (Kd.Z_lt (kZ a3))) (below_size (bl)));replace Y2:=qa (Kd.R_elder' (kR Y2) (Kd.R_base w2) hb);replace a3:=qa (Kd.Z_mono (Kd.Z_told (Kd.Z_told (Kd.Z_old (kZ a3) hb) (Kd.R_base w2)) (Kd.Z_base x2)) (fun _ h_=>h_.1));replace Q0:=qbb Q0 hb;replace X0:=qbb X0 hb;replace HB:=bs hb)|((with_reducible refine gate_dst (N:=9) rfl ?_);(try(refine gate_guard (by rfl) ?_;dsimp only));refine bx 9 #[.slice none 0 0,.slice none 0 0] 27 ?_;intro V3 hg W3 hbox hb;replace X2:=qa (Kd.R_below (kR X2) hb);replace Y2:=qa (Kd.R_below (kR Y2) hb);replace a3:=qa (Kd.Z_below (kZ a3) hb);replace R3:=qa (Kd.R_below (kR R3) hb);replace U3:=qa (Kd.Z_below (kZ U3) hb);have X3:=qa (hbox);have Y3:=gw hg;have a4:=gw hg;replace HB:=bs hb;have b4:=qnl hg Q0;have c4:=qng hg Q0;replace Q0:=qbb Q0 hb;have d4:=qnl hg X0;have e4:=qng hg X0;replace X0:=qbb X0 hb;clear hb hbox hg;obtain⟨g4,j4,rfl⟩:=Kd.R_slice R3.out;have l4:=c4.out;have n4:=b4.out;have p4:=e4.out;have q4:=d4.out;obtain⟨r4,s4,t4,v4⟩:=qk2 X3;obtain⟨w4,x4,y4,_⟩:=Kd.Z_slice U3.out;subst y4;obtain⟨A4,B4,C4,D4⟩:=qk2 Q0)|((with_reducible refine gate_builtin (b:= .append) (xs:=#[.tmp 36,.tmp 38]) rfl ?_);(try(refine gate_guard (by rfl) ?_;dsimp only));at_builtin;refine Kd.R_append Kd.string (w0:=w) w.heap.size rfl (.tmp 36) (.tmp 38) 35 9 (.string ⟨#[]⟩) 16 rfl Tryz.underlying35 info9 rfl kd_ ko_ u6 P2 j3 [.string j3] (fun _=>True) (fun _=>False) rfl (by first|(go_simp;done)|(go_simp;rfl)) ?aP (fun _ hk=>hk.elim) ?aF ?aO ?aB ?aS ?aL ?_;(case aP=>exact rfl);(case aB=>exact(bl));(case aF=>exact(fun _ _=>trivial));(case aO=>exact(kGR X2.out X3 Q0 (fun _ hk=>trivial)));(case aS=>exact(below_size (bl)));(case aL=>have:=p3.out;omega);intro E4 G4 ho hb hg hat;rw[←r3.out]at ho;replace Y2:=qa (Kd.R_over' (by(with_reducible repeat(first|apply Kd.R_alloc|apply Kd.R_drewN|apply Kd.R_drew));exact(Kd.R_mono (Kd.R_mono (Kd.R_far (p:=⟨N0,1,none⟩) (Kd.R_far (p:=⟨N0,0,none⟩) (Kd.R_far (p:=⟨V3,1,none⟩) (Kd.R_far (p:=⟨V3,0,none⟩) (Kd.R_types (Kd.R_types Y2.out X3.out kd_) Q0.out kd_) (fun _ hk=>hk.1.2) (.slice g4 e3.length j4)) (fun _ hk=>hk.1.2) (.slice w4 g3.length x4)) (fun _ hk=>hk.2) (.slice g4 e3.length j4)) (fun _ hk=>hk.2) (.slice w4 g3.length x4)) (fun _ h_=>h_.1)) (fun _ h_=>h_.1))) (Kd.R_typed z3_) kd_ hg);replace a3:=qa (Kd.Z_over' (by(with_reducible repeat(first|apply Kd.Z_alloc|apply Kd.Z_drewN|apply Kd.Z_drew));exact(Kd.Z_mono (Kd.Z_mono (Kd.Z_far (p:=⟨N0,1,none⟩) (Kd.Z_far (p:=⟨N0,0,none⟩) (Kd.Z_far (p:=⟨V3,1,none⟩) (Kd.Z_far (p:=⟨V3,0,none⟩) (Kd.Z_types (Kd.Z_types a3.out X3.out kd_) Q0.out kd_) (fun _ hk=>hk.1.2) (.slice g4 e3.length j4)) (fun _ hk=>hk.1.2) (.slice w4 g3.length x4)) (fun _ hk=>hk.2) (.slice g4 e3.length j4)) (fun _ hk=>hk.2) (.slice w4 g3.length x4)) (fun _ h_=>h_.1)) (fun _ h_=>h_.1))) (Kd.R_typed z3_) kd_ hg);replace X0:=qa (blk_grown (g:=V0) (o:= .cells #[.slice none 0 0,.slice none 0 0] 27 (0,0)) (kb X0) hg (Kd.R_ne X2.out X0.out kd_));replace R3:=qa (Kd.R_over' (by(with_reducible repeat(first|apply Kd.R_alloc|apply Kd.R_drewN|apply Kd.R_drew));exact(Kd.R_mono (Kd.R_mono (Kd.R_far (p:=⟨N0,1,none⟩) (Kd.R_far (p:=⟨N0,0,none⟩) (Kd.R_far (p:=⟨V3,1,none⟩) (Kd.R_far (p:=⟨V3,0,none⟩) (Kd.R_types (Kd.R_types R3.out X3.out kd_) Q0.out kd_) (fun _ hk=>hk.1.2) (.slice g4 e3.length j4)) (fun _ hk=>hk.1.2) (.slice w4 g3.length x4)) (fun _ hk=>hk.2) (.slice g4 e3.length j4)) (fun _ hk=>hk.2) (.slice w4 g3.length x4)) (fun _ h_=>h_.1)) (fun _ h_=>h_.1))) (Kd.R_typed z3_) kd_ hg);replace U3:=qa (Kd.Z_over' (by(with_reducible repeat(first|apply Kd.Z_alloc|apply Kd.Z_drewN|apply Kd.Z_drew));exact(Kd.Z_mono (Kd.Z_mono (Kd.Z_far (p:=⟨N0,1,none⟩) (Kd.Z_far (p:=⟨N0,0,none⟩) (Kd.Z_far (p:=⟨V3,1,none⟩) (Kd.Z_far (p:=⟨V3,0,none⟩) (Kd.Z_types (Kd.Z_types U3.out X3.out kd_) Q0.out kd_) (fun _ hk=>hk.1.2) (.slice g4 e3.length j4)) (fun _ hk=>hk.1.2) (.slice w4 g3.length x4)) (fun _ hk=>hk.2) (.slice g4 e3.length j4)) (fun _ hk=>hk.2) (.slice w4 g3.length x4)) (fun _ h_=>h_.1)) (fun _ h_=>h_.1))) (Kd.R_typed z3_) kd_ hg);replace Q0:=qa (blk_grown (g:=N0) (o:= .cells #[.slice g4 e3.length j4,.slice w4 g3.length x4] 27 (0,0)) (by(with_reducible repeat(first|refine blk_drewN ?_ _|refine blk_drew ?_|refine blk_alloc ?_ _));refine blk_put (cs:=#[.slice g4 e3.length j4,.slice J3 U2.length K3]) ?_ 1 _ rfl;(with_reducible repeat(first|refine blk_drewN ?_ _|refine blk_drew ?_|refine blk_alloc ?_ _));refine blk_put (cs:=#[.slice E3 R2.length G3,.slice J3 U2.length K3]) ?_ 0 _ rfl;(with_reducible repeat(first|refine blk_drewN ?_ _|refine blk_drew ?_|refine blk_alloc ?_ _));refine blk_far ?_ b4.out _;(with_reducible repeat(first|refine blk_drewN ?_ _|refine blk_drew ?_|refine blk_alloc ?_ _));refine blk_far ?_ b4.out _;(with_reducible repeat(first|refine blk_drewN ?_ _|refine blk_drew ?_|refine blk_alloc ?_ _));exact Q0.out) hg (Kd.R_ne X2.out Q0.out kd_));replace X3:=qa (blk_grown (g:=V3) (o:= .cells #[.slice g4 e3.length j4,.slice w4 g3.length x4] 27 (0,0)) (by(with_reducible repeat(first|refine blk_drewN ?_ _|refine blk_drew ?_|refine blk_alloc ?_ _));refine blk_far ?_ c4.out _;(with_reducible repeat(first|refine blk_drewN ?_ _|refine blk_drew ?_|refine blk_alloc ?_ _));refine blk_far ?_ c4.out _;(with_reducible repeat(first|refine blk_drewN ?_ _|refine blk_drew ?_|refine blk_alloc ?_ _));refine blk_put (cs:=#[.slice g4 e3.length j4,.slice none 0 0]) ?_ 1 _ rfl;(with_reducible repeat(first|refine blk_drewN ?_ _|refine blk_drew ?_|refine blk_alloc ?_ _));refine blk_put (cs:=#[.slice none 0 0,.slice none 0 0]) ?_ 0 _ rfl;(with_reducible repeat(first|refine blk_drewN ?_ _|refine blk_drew ?_|refine blk_alloc ?_ _));exact X3.out) hg (Kd.R_ne X2.out X3.out kd_));replace HB:=qa (hb);have J4:=qa (ho);clear X2;clear ho hb hg hat))
     go_roundg k2
     case measure=>have:=D1.out;have:=HK2.out;omega
     case rel=>exact⟨(q3),(wrap64 (Q2+1)),(e3),(g3),(.slice g4 e3.length j4),(.slice w4 g3.length x4),(sd),H',⟨by have:=D1.out;have:=HK2.out;omega⟩,⟨kR J4⟩,⟨by(with_reducible repeat(first|apply Kd.R_alloc|apply Kd.R_drewN|apply Kd.R_drew));exact Kd.R_mono R3.out (fun _ hk=>trivial)⟩,⟨by(with_reducible repeat(first|apply Kd.Z_alloc|apply Kd.Z_drewN|apply Kd.Z_drew));exact Kd.Z_mono U3.out (fun _ hk=>hk.1.1)⟩,⟨bk⟩,⟨bk⟩,⟨bl⟩⟩
    ·simp only[Option.some.injEq,Prod.mk.injEq]at H;obtain⟨rfl,rfl,rfl⟩:=H;have K4:=b1.out;have L4:=c1.out;obtain⟨M4,N4,P4,Q4⟩:=qk2 Q0;obtain⟨R4,U4,rfl⟩:=Kd.R_slice Y2.out;obtain⟨V4,W4,X4,Y4⟩:=qk2 X0;obtain⟨a5,b5,c5,_⟩:=Kd.Z_slice a3.out;subst c5;go_wp2;refine bodyPost_ret (results_ct rfl _ _ V0 27 #[.slice R4 R2.length U4,.slice a5 U2.length b5] (0,0) _ rfl (kP X0) Tryz.underlying27 rfl kr_) rfl ?_;exact⟨_,_,_,er,kFR Y2 X0 (fun _ hk=>trivial),by(with_reducible repeat(first|apply Kd.Z_alloc|apply Kd.Z_drewN|apply Kd.Z_drew));exact Kd.Z_mono (Kd.Z_far (p:=⟨V0,1,none⟩) (Kd.Z_far (p:=⟨V0,0,none⟩) (Kd.Z_types a3.out X0.out kd_) (fun _ hk=>hk.2) (.slice R4 R2.length U4)) (fun _ hk=>hk.2) (.slice a5 U2.length b5)) (fun _ hk=>hk.1),kFR X2 X0 (fun _ hk=>trivial),bl⟩

def spec_l1In.f (a0:Int) (b0:Int) (c0:Int):Option (Bool):=if a0≥b0 then(some (decide (a0≤c0)))else(some false)
theorem spec_l1In.calls (a0:Int) (b0:Int) (c0:Int) (r:Bool) (w:World) (h:spec_l1In.f a0 b0 c0=some r):
  Calls Tryz.prog 84 #[.int .i64 a0,.int .i64 b0,.int .i64 c0] w fun e w'=>e= .returned (.bool r)∧Drawn0 w w':=by
 have H:=h;unfold spec_l1In.f at H;clear h;replace H:=qu H;obtain⟨d0,H⟩|⟨d0,H⟩:=H
 ·obtain rfl:=sj H
  go_enter Tryz.func84,Tryz.ntmps84
  go_wp2;go_ret;exact⟨sd,dr⟩
 ·obtain rfl:=sj H
  go_enter Tryz.func84,Tryz.ntmps84
  go_wp2;go_ret;exact⟨sd,dr⟩

def spec_RowOk.l0:Nat→List Int→Int→Option (Bool)
 |0,_,_=>none
 |k+1,a0,b0=>if b0<(a0.length:Int)then(if 0≤b0 then((spec_l1In.f (rd a0 b0) (-1000000000) 1000000000).bind fun c0=>(if c0=true then(spec_RowOk.l0 k a0 (wrap64 (b0+1)))else(some false)))else(none))else(some ((a0.length:Int)==24))
def spec_RowOk.f (k:Nat) (a0:List Int):Option (Bool):=spec_RowOk.l0 k a0 0
theorem spec_RowOk.mono_l:∀k,(∀a0 b0,LeO (spec_RowOk.l0 k a0 b0) (spec_RowOk.l0 (k+1) a0 b0))
 |0=>fun _ _ r h=>by simp[spec_RowOk.l0]at h
 |k+1=>by
  have ih0:=spec_RowOk.mono_l k
  ·intro a0 b0;unfold spec_RowOk.l0;exact mz
theorem spec_RowOk.mono:∀a0 k,LeO (spec_RowOk.f k a0) (spec_RowOk.f (k+1) a0):=by
 intro a0 k;have ih0:=spec_RowOk.mono_l k;unfold spec_RowOk.f;exact mz
theorem spec_RowOk.calls (k:Nat) (a0:Option Addr) (b0:Nat) (c0:List Int) (r:Bool) (w:World) (d0:Kd.C (Kd.int .i64) w a0 c0.length c0) (e0:c0.length≤b0) (h:spec_RowOk.f k c0=some r):
  Calls Tryz.prog 69 #[.slice a0 c0.length b0] w fun e w'=>e= .returned (.bool r)∧Drawn0 w w':=by
 have g0:=qa d0;have j0:=qa e0;clear d0 e0;have H:=h;unfold spec_RowOk.f at H;clear h;have H':=qa H;clear H
 go_enter Tryz.func69,Tryz.ntmps69
 go_wp2
 go_loopg [3] k (fun kq n0 w'=>∃(p0:Int),n0= .int .i64 p0∧Aside0 (spec_RowOk.l0 kq c0 p0=some r)∧Aside0 (kq≤k)∧Drawn0 w w')
 case atStart=>exact⟨(0),(sd),H',⟨Nat.le_refl _⟩,dr⟩
 case round=>
  clear H';obtain⟨p0,rfl,HA,HK1,⟨m1,rfl⟩⟩:=hrel;obtain⟨k1,rfl,H⟩:=kz gk HA;clear HA;simp only[spec_RowOk.l0]at H;replace H:=qe H;obtain⟨q0,H⟩|⟨q0,H⟩:=H
  ·replace H:=qd H;obtain⟨r0,H⟩:=H;replace H:=qb H;obtain⟨s0,t0,H⟩:=H;replace H:=qc H;obtain⟨rfl,H⟩|⟨rfl,H⟩:=H
   ·have H':=qa H;clear H;obtain⟨v0,⟨⟩,w0,x0,y0⟩:=ai g0.out p0
    go_wp2_with(first|(refine gd 14 Tryz.func84 (spec_l1In.calls (rd c0 p0) (-1000000000) 1000000000 true _ t0.out) fun nd=>?_))
    go_roundg k1
    case measure=>have:=HK1.out;omega
    case rel=>exact⟨(wrap64 (p0+1)),(sd),H',⟨by have:=HK1.out;omega⟩,dr⟩
   ·obtain rfl:=sj H;obtain⟨v0,⟨⟩,w0,x0,y0⟩:=ai g0.out p0
    go_wp2_with(first|(refine gd 14 Tryz.func84 (spec_l1In.calls (rd c0 p0) (-1000000000) 1000000000 false _ t0.out) fun nd=>?_))
    go_ret;exact⟨sd,dr⟩
  ·obtain rfl:=sj H;go_wp2;go_ret;exact⟨sd,dr⟩
def spec_DeskOk.l0:Nat→Int→List Int→List (List Int)→Option (Bool)
 |0,_,_,_=>none
 |k+1,a0,b0,c0=>if a0<(c0.length:Int)then(if 0≤a0 then((spec_RowOk.f k (rd_L1 c0 a0)).bind fun d0=>(if d0=true then(spec_DeskOk.l0 k (wrap64 (a0+1)) b0 c0)else(some false)))else(none))else((spec_RowOk.f k b0).bind fun e0=>(if e0=true then(some (decide ((c0.length:Int)≤8)))else(some false)))
def spec_DeskOk.f (k:Nat) (a0:List Int) (b0:List (List Int)):Option (Bool):=spec_DeskOk.l0 k 0 a0 b0
theorem spec_DeskOk.calls (k:Nat) (a0:Option Addr) (b0:Nat) (c0:List Int) (d0:Option Addr) (e0:Nat) (g0:List (List Int)) (r:Bool) (w:World) (j0:Kd.C (Kd.int .i64) w a0 c0.length c0) (n0:c0.length≤b0) (p0:Kd.C (Kd.slice 3 (Kd.int .i64)) w d0 g0.length g0) (q0:g0.length≤e0) (h:spec_DeskOk.f k c0 g0=some r):
  Calls Tryz.prog 20 #[.agg #[.slice a0 c0.length b0,.slice d0 g0.length e0]] w fun e w'=>e= .returned (.bool r)∧Below w.heap.size w w':=by
 have r0:=Tryz.underlying27;have s0:=qa j0;have t0:=qa n0;clear j0 n0;have v0:=qa p0;have w0:=qa q0;clear p0 q0;have HB:=qa (Below.refl w.heap.size w);have H:=h;unfold spec_DeskOk.f at H;clear h;have H':=qa H;clear H
 go_enter Tryz.func20,Tryz.ntmps20
 go_wp2_with(first|((with_reducible refine gate_dst (N:=1) rfl ?_);(try(refine gate_guard (by rfl) ?_;dsimp only));refine bx 1 #[.slice a0 c0.length b0,.slice d0 g0.length e0] 27 ?_;intro x0 hg y0 hbox hb;have A0:=qa (hbox);have B0:=gw hg;have C0:=gw hg;replace HB:=bs hb;clear hb hbox hg))
 go_loopg [3] k (fun kq D0 w'=>∃(E0:Int),D0= .int .i64 E0∧Aside0 (spec_DeskOk.l0 kq E0 c0 g0=some r)∧Aside0 (kq≤k)∧Aside0 (w'.heap[x0]? =some (.cells #[(.slice a0 c0.length b0),(.slice d0 g0.length e0)] 27 (0,0)))∧Aside0 (Below w.heap.size w w'))
 case atStart=>exact⟨(0),(sd),H',⟨Nat.le_refl _⟩,⟨bk⟩,⟨bl⟩⟩
 case round=>
  clear H';obtain⟨E0,rfl,HA,HK1,A0,HB⟩:=hrel;obtain⟨k1,rfl,H⟩:=kz gk HA;clear HA;simp only[spec_DeskOk.l0]at H;replace H:=qe H;obtain⟨G0,H⟩|⟨G0,H⟩:=H
  ·replace H:=qd H;obtain⟨J0,H⟩:=H;replace H:=qb H;obtain⟨K0,L0,H⟩:=H;replace H:=qc H;obtain⟨rfl,H⟩|⟨rfl,H⟩:=H
   ·have H':=qa H;clear H;obtain⟨M0,N0,P0,Q0⟩:=qk2 A0;obtain⟨R0,U0,V0,⟨⟩,W0,X0,Y0,a1,b1⟩:=cg_L1 v0.out E0;(try replace W0:=(HB.out.cell (World.block_lt_of_cell? w _ W0)).trans W0)
    go_wp2_with(first|(refine gd 16 Tryz.func69 (spec_RowOk.calls k1 _ _ (rd_L1 g0 E0) true _ (cx (Kd.C_below X0.out HB.out)) Y0.out L0.out) fun nd=>?_))
    go_roundg k1
    case measure=>have:=HK1.out;omega
    case rel=>exact⟨(wrap64 (E0+1)),(sd),H',⟨by have:=HK1.out;omega⟩,⟨bk⟩,⟨bl⟩⟩
   ·obtain rfl:=sj H;obtain⟨c1,d1,e1,g1⟩:=qk2 A0;obtain⟨R0,U0,V0,⟨⟩,W0,X0,Y0,a1,b1⟩:=cg_L1 v0.out E0;(try replace W0:=(HB.out.cell (World.block_lt_of_cell? w _ W0)).trans W0)
    go_wp2_with(first|(refine gd 16 Tryz.func69 (spec_RowOk.calls k1 _ _ (rd_L1 g0 E0) false _ (cx (Kd.C_below X0.out HB.out)) Y0.out L0.out) fun nd=>?_))
    go_ret;exact⟨er,bl⟩
  ·replace H:=qb H;obtain⟨j1,l1,H⟩:=H;replace H:=qc H;obtain⟨rfl,H⟩|⟨rfl,H⟩:=H
   ·obtain rfl:=sj H;obtain⟨n1,p1,q1,r1⟩:=qk2 A0
    go_wp2_with(first|(refine gd 20 Tryz.func69 (spec_RowOk.calls k1 _ _ c0 true _ (cx (Kd.C_below s0.out HB.out)) t0.out l1.out) fun nd=>?_))
    go_ret;exact⟨er,bl⟩
   ·obtain rfl:=sj H;obtain⟨s1,t1,v1,w1⟩:=qk2 A0
    go_wp2_with(first|(refine gd 20 Tryz.func69 (spec_RowOk.calls k1 _ _ c0 false _ (cx (Kd.C_below s0.out HB.out)) t0.out l1.out) fun nd=>?_))
    go_ret;exact⟨er,bl⟩

def spec_l12Copy.l0:Nat→Int→List Int→List (List Int)→List Int→List (List Int)→Option (List Int×(List (List Int)))
 |0,_,_,_,_,_=>none
 |k+1,a0,b0,c0,d0,e0=>if a0<(c0.length:Int)then((some (([]:List Int):List Int)).bind fun g0=>(if 0≤a0 then(if g0.length+(rd_L1 c0 a0).length <17592186044416 then(if e0.length<5864062014805 then(spec_l12Copy.l0 k (wrap64 (a0+1)) b0 c0 d0 (e0++[(g0++(rd_L1 c0 a0))]))else(none))else(none))else(none)))else(some (d0,e0))
def spec_l12Copy.f (k:Nat) (a0:List Int) (b0:List (List Int)):Option (List Int×(List (List Int))):=(some (([]:List Int):List Int)).bind fun c0=>(if c0.length+a0.length<17592186044416 then(spec_l12Copy.l0 k 0 a0 b0 (c0++a0) ([]:List (List Int)))else(none))
def spec_l12Copy.T5:Bool×List (List Nat×List Nat):=(true,[([],[]),([0],[0]),([],[]),([],[]),([3],[3]),([],[]),([4,5],[4,5]),([6],[6]),([2,7],[2,7]),([8],[8]),([1,9,8],[1,9]),([0,1,2,3,4,5,6,7,8,9,10],[]),([11,10,10,0,1,2,3,4,5,6,7,8,9,10],[10,11])])
def spec_l12Copy.B5:List Nat:=[0,1,0,0,8,0,56,120,252,508,1023,2047,4095]
theorem spec_l12Copy.tab5:rtab .any (opsOf Tryz.f40 5)=spec_l12Copy.T5:=by kernel_rfl
theorem spec_l12Copy.bits5:waitsOk spec_l12Copy.T5.2 spec_l12Copy.B5=true:=by kernel_rfl
theorem spec_l12Copy.calls (k:Nat) (a0:Option Addr) (b0:Nat) (c0:List Int) (d0:Option Addr) (e0:Nat) (g0:List (List Int)) (j0:List Int) (n0:List (List Int)) (w:World) (p0:Kd.C (Kd.int .i64) w a0 c0.length c0) (q0:c0.length≤b0) (r0:Kd.C (Kd.slice 3 (Kd.int .i64)) w d0 g0.length g0) (s0:g0.length≤e0) (h:spec_l12Copy.f k c0 g0=some (j0,n0)):
  Calls Tryz.prog 40 #[.agg #[.slice a0 c0.length b0,.slice d0 g0.length e0]] w fun e w'=>∃v0_ v1_:Value,e= .returned (.agg #[v0_,v1_])∧Kd.R (Kd.int .i64) 3 w' w.heap.size (fun _=>True) v0_ j0∧Kd.S (Kd.slice 3 (Kd.int .i64)) 22 w' w.heap.size (fun k_=>some k_≠(v0_:Value).ownBlock) v1_ n0∧Below w.heap.size w w':=by
 have t0:=Tryz.underlying27;have v0:=qa p0;have w0:=qa q0;clear p0 q0;have x0:=qa r0;have y0:=qa s0;clear r0 s0;have HB:=qa (Below.refl w.heap.size w);have H:=h;unfold spec_l12Copy.f at H;clear h;replace H:=qs H;obtain⟨A0,B0,H⟩:=H
 by_cases C0:A0.length+c0.length<17592186044416
 ·rw[if_pos C0]at H;have D0:=qa C0;clear C0;obtain⟨E0,hy_⟩:∃y_:List Int,y_=(A0++c0):=⟨_,rfl⟩;replace H:(spec_l12Copy.l0 k 0 c0 g0 E0 ([]:List (List Int)))=some (j0,n0):=yh;have G0:=qa hy_;clear hy_;have H':=qa H;clear H
  go_enter Tryz.func40,Tryz.ntmps40
  go_wp2_with(first|(refine bx 1 #[.slice a0 c0.length b0,.slice d0 g0.length e0] 27 ?_;intro J0 hg K0 hbox hb;have L0:=qa (hbox);have M0:=gw hg;have N0:=gw hg;replace HB:=bs hb;clear hb hbox hg)|(refine bx 2 #[.slice none 0 0,.slice none 0 0] 27 ?_;intro P0 hg Q0 hbox hb;have R0:=qa (hbox);have U0:=gw hg;have V0:=gw hg;replace HB:=bs hb;have W0:=qnl hg L0;have X0:=qng hg L0;replace L0:=qbb L0 hb;clear hb hbox hg)|(refine rli .i64 3 5 B0.out fun Y0 a1 b1 hb=>?_;have c1:=qa (Kd.R_lower b1 (below_size (bl)));replace L0:=qbb L0 hb;replace R0:=qbb R0 hb;replace HB:=bs hb;clear hb b1;have d1:=W0.out;have e1:=X0.out;obtain⟨g1,j1,l1,n1⟩:=qk2 L0)|((with_reducible refine gate_builtin (b:= .append) (xs:=#[.tmp 5,.tmp 7]) rfl ?_);at_builtin;refine Kd.R_append_rows (Kd.int .i64) (w0:=w) w.heap.size rfl (.tmp 5) (.tmp 7) 22 3 (.int .i64 0) 8 rfl Tryz.underlying22 info3 rfl kd_ ko_ Y0 A0 c0 _ _ _ (fun _=>True) (fun _=>False) rfl rfl ?aO ?aR (fun _ _ h=>h) (fun _ h=>h.elim) ?aF ?aB ?aS ?aL ?_;(case aR=>exact cx (Kd.C_below v0.out HB.out));(case aB=>exact(bl));(case aF=>exact(fun _ _=>trivial));(case aO=>exact(kR c1));(case aS=>exact(below_size (bl)));(case aL=>have:=D0.out;omega);intro p1 q1 ho hb hg hat;rw[←G0.out]at ho;replace L0:=qa (blk_grown (g:=J0) (o:= .cells #[.slice a0 c0.length b0,.slice d0 g0.length e0] 27 (0,0)) (bk) hg (Kd.R_ne c1.out L0.out kd_));replace R0:=qa (blk_grown (g:=P0) (o:= .cells #[.slice none 0 0,.slice none 0 0] 27 (0,0)) (bk) hg (Kd.R_ne c1.out R0.out kd_));replace HB:=qa (hb);have r1:=qa (ho);clear c1;clear ho hb hg hat;obtain⟨s1,t1,rfl⟩:=Kd.R_slice r1.out)|(refine bx 3 #[.slice none 0 0,.slice none 0 0] 27 ?_;intro v1 hg w1 hbox hb;replace r1:=qa (Kd.R_below (kR r1) hb);have x1:=qa (hbox);have y1:=gw hg;have A1:=gw hg;replace HB:=bs hb;have B1:=qnl hg L0;have C1:=qng hg L0;replace L0:=qbb L0 hb;have D1:=qnl hg R0;have E1:=qng hg R0;replace R0:=qbb R0 hb;clear hb hbox hg;have G1:=C1.out;have J1:=B1.out;have K1:=E1.out;have L1:=D1.out;obtain⟨M1,N1,P1,Q1⟩:=qk2 x1))
  go_loopg [4] k (fun kq R1 w'=>∃(U1:Int) (V1:List (List Int)) (W1:Value),R1= .int .i64 U1∧Aside0 (spec_l12Copy.l0 kq U1 c0 g0 E0 V1=some (j0,n0))∧Aside0 (kq≤k)∧Aside0 (Kd.R (Kd.int .i64) 3 w' w.heap.size (fun _=>True) (.slice s1 E0.length t1) E0)∧Aside0 (Kd.S (Kd.slice 3 (Kd.int .i64)) 22 w' w.heap.size (fun k_=>some k_≠((.slice s1 E0.length t1):Value).ownBlock) W1 V1)∧Aside0 (w'.heap[J0]? =some (.cells #[(.slice a0 c0.length b0),(.slice d0 g0.length e0)] 27 (0,0)))∧Aside0 (w'.heap[P0]? =some (.cells #[(.slice none 0 0),(.slice none 0 0)] 27 (0,0)))∧Aside0 (w'.heap[v1]? =some (.cells #[(.slice s1 E0.length t1),W1] 27 (0,0)))∧Aside0 (Below w.heap.size w w'))
  case atStart=>exact⟨(0),(([]:List (List Int))),(.slice none 0 0),(sd),H',⟨Nat.le_refl _⟩,⟨kFR r1 x1 (fun _ hk=>trivial)⟩,⟨z14_⟩,⟨kb L0⟩,⟨kb R0⟩,⟨kP x1⟩,⟨bl⟩⟩
  case round=>
   clear H';obtain⟨U1,V1,W1,rfl,HA,HK1,X1,Y1,L0,R0,x1,HB⟩:=hrel;obtain⟨k1,rfl,H⟩:=kz gk HA;clear HA;simp only[spec_l12Copy.l0]at H;replace H:=qe H;obtain⟨a2,H⟩|⟨a2,H⟩:=H
   ·replace H:=qs H;obtain⟨b2,c2,H⟩:=H;replace H:=qd H;obtain⟨d2,H⟩:=H;replace H:=qn H;obtain⟨e2,H⟩:=H;have g2:=qa e2;clear e2;obtain⟨j2,hy_⟩:∃y_:List Int,y_=(b2++(rd_L1 g0 U1)):=⟨_,rfl⟩;replace H:(if V1.length<5864062014805 then(spec_l12Copy.l0 k1 (wrap64 (U1+1)) c0 g0 E0 (V1++[j2]))else(none))=some (j0,n0):=yh;have l2:=qa hy_;clear hy_;replace H:=qn H;obtain⟨n2,H⟩:=H;have p2:=qa n2;clear n2;obtain⟨q2,hy_⟩:∃y_:List (List Int),y_=(V1++[j2]):=⟨_,rfl⟩;replace H:(spec_l12Copy.l0 k1 (wrap64 (U1+1)) c0 g0 E0 q2)=some (j0,n0):=yh;have r2:=qa hy_;clear hy_;have H':=qa H;clear H;have s2:=W0.out;have t2:=X0.out;have v2:=B1.out;have w2:=C1.out;obtain⟨x2,y2,A2,B2⟩:=qk2 L0
    try go_wp2
    replace X1:=qa (Kd.R_drew X1.out);replace Y1:=qa (Kd.S_drew Y1.out);replace L0:=qa (blk_drew L0.out);replace R0:=qa (blk_drew R0.out);replace x1:=qa (blk_drew x1.out);replace HB:=qa (below_drew1 HB.out);have C2:0≤(U1:Int):=qo;have D2:U1<(g0.length:Int):=qo;obtain⟨E2,G2,J2,K2,L2,M2,N2⟩:=at_L1 x0.out U1 C2 D2;have P2:=L2;cases K2;(try replace L2:=(HB.out.cell (World.block_lt_of_cell? w _ L2)).trans L2);have Q2:=qa N2;have R2:=qa M2;clear N2 M2;replace C2:=eq_true C2;replace D2:=eq_true D2;refine start_ (n:=13) (S:=fun w'=>w'.cell? ⟨v1,0,none⟩=some (.slice s1 E0.length t1)∧w'.cell? ⟨v1,1,none⟩=some (W1)∧w'.cell? ⟨J0,0,none⟩=some (.slice a0 c0.length b0)∧w'.cell? ⟨J0,1,none⟩=some (.slice (some E2) g0.length e0)∧w'.cell? (E2.add (U1).toNat)=some (.slice G2 (rd_L1 g0 U1).length J2)) (ds:=[12]) _ kr_ rfl rfl ⟨(blk_cell x1.out 0).trans rfl,(blk_cell x1.out 1).trans rfl,(blk_cell L0.out 0).trans rfl,(blk_cell L0.out 1).trans rfl,((HB.out.cell (World.block_lt_of_cell? w _ P2)).trans P2)⟩ (fun hHeld=>?_);refine with_tabW spec_l12Copy.tab5 spec_l12Copy.bits5 (fun HT_ HW_=>?_);generalize wr.drew=U2 at X1 Y1 L0 R0 x1 HB Q2 L2 hHeld ⊢;refine pur 0 17 (bz 13 1) HT_ ?_;refine pur 3 20 (bz 13 9) HT_ ?_;refine pur 5 22 (bz 13 41) HT_ ?_;refine tk 1 18 (bz 13 43) hHeld (take_ofW HT_.out HW_.out kr_) ?_;refine tk 4 21 (bz 13 59) hHeld (take_ofW HT_.out HW_.out kr_) ?_;refine pur 6 23 (bz 13 123) HT_ ?_;refine tk 7 24 (bz 13 251) hHeld (take_ofW HT_.out HW_.out kr_) ?_;(refine o1 2 (some 19) (bz 13 255) (one_of HT_.out kr_) fun K hK=>?_);refine Kd.R_lit_step (Kd.int .i64) _ 3 ?hg (N:=19) ?hd (xs:=([]:List Int)) (inner:=[]) (ok:=fun _=>True) (okp:=fun _=>True) ?hr ?hp (fun _ hk=>hk) trivial (Below.refl _ _) (Nat.le_refl _) (by simp) ?_;(case hd=>rfl);(case hg=>rfl);(case hr=>exact gr);(case hp=>exact(Reps.none _ _));intro V2 W2 X2 hb hg_ hnew_;clear hg_ hnew_;(first|rw[←c2.out]at X2|(simp only[Int.reduceToNat]at X2;rw[←c2.out]at X2));replace Y1:=qa (Kd.S_elder' (kS Y1) (Kd.R_base X2) hb);have Y2:=qa (Kd.R_lower (Kd.R_new' X2 (Kd.R_lt (kR X1))) (below_size (bl)));replace X1:=qa (Kd.R_elder' (kR X1) (Kd.R_base X2) hb);replace L0:=qbb L0 hb;replace R0:=qbb R0 hb;replace x1:=qbb x1 hb;replace HB:=bs hb;clear hb X2;refine hK.out _ _ ⟨(blk_cell x1.out 0).trans rfl,(blk_cell x1.out 1).trans rfl,(blk_cell L0.out 0).trans rfl,(blk_cell L0.out 1).trans rfl,((HB.out.cell (World.block_lt_of_cell? w _ P2)).trans P2)⟩ (fun hHeld=>?_);clear hK K;refine nm 19 ?_;(refine o1 8 (some 25) (bz 13 511) (one_of HT_.out kr_) fun K hK=>?_);refine Kd.R_append_rows_step (Kd.int .i64) (w0:=w) w.heap.size (by rfl) (.tmp 19) (.tmp 24) 22 3 (.int .i64 0) 8 rfl Tryz.underlying22 info3 rfl kd_ ko_ V2 b2 (rd_L1 g0 U1) _ _ _ (fun k_=>some k_≠(.slice s1 E0.length t1:Value).ownBlock) (fun _=>False) rfl rfl ?aO ?aR (fun _ _ h=>h) (fun _ h=>h.elim) ?aF ?aB ?aS ?aL ?_;(case aR=>exact cx (Kd.C_below Q2.out HB.out));(case aB=>exact(bl));(case aF=>exact(fun k_ hk=>Kd.fresh' (Kd.R_lt (kR X1)) k_ hk));(case aO=>exact(by(with_reducible repeat(first|apply Kd.R_alloc|apply Kd.R_drewN|apply Kd.R_drew));exact Kd.R_mono Y2.out (fun _ hk=>hk.2)));(case aS=>exact(below_size (bl)));(case aL=>have:=g2.out;omega);intro a3 b3 ho hb hg hat;rw[←l2.out]at ho;replace X1:=qa (Kd.R_after (ok:=(fun _=>True)) (kR X1) hg hat);replace Y1:=qa (Kd.S_after (ok:=(fun k_=>some k_≠(.slice s1 E0.length t1:Value).ownBlock)) (kS Y1) hg hat);replace L0:=qa (blk_grown (g:=J0) (o:= .cells #[.slice a0 c0.length b0,.slice (some E2) g0.length e0] 27 (0,0)) (bk) hg (Kd.R_ne Y2.out L0.out kd_));replace R0:=qa (blk_grown (g:=P0) (o:= .cells #[.slice none 0 0,.slice none 0 0] 27 (0,0)) (bk) hg (Kd.R_ne Y2.out R0.out kd_));replace x1:=qa (blk_grown (g:=v1) (o:= .cells #[.slice s1 E0.length t1,W1] 27 (0,0)) (bk) hg (Kd.R_ne Y2.out x1.out kd_));replace HB:=qa (hb);have c3:=qa (ho);clear Y2;clear ho hb hg hat;obtain⟨d3,e3,g3⟩:=Kd.R_slice c3.out;(first|subst g3|(injection g3 with f1_ f2_ f3_;have f4_:=f1_.symm;have f5_:=f3_.symm;clear f1_ f2_ f3_;subst f4_;subst f5_));refine hK.out _ _ ⟨(blk_cell x1.out 0).trans rfl,(blk_cell x1.out 1).trans rfl,(blk_cell L0.out 0).trans rfl,(blk_cell L0.out 1).trans rfl,((HB.out.cell (World.block_lt_of_cell? w _ P2)).trans P2)⟩ (fun hHeld=>?_);clear hK K;refine nm 25 ?_;(refine o1 9 (some 26) (bz 13 1023) (one_of HT_.out kr_) fun K hK=>?_);refine value_ (w1:=?_) (v:=?_) (by rfl) rfl ?_ ?_;rotate_left 2
    ·go_simp
     constructor
     ·rfl
     ·rfl
    refine hK.out _ _ ⟨(blk_cell (blk_alloc x1.out _) 0).trans rfl,(blk_cell (blk_alloc x1.out _) 1).trans rfl,(blk_cell (blk_alloc L0.out _) 0).trans rfl,(blk_cell (blk_alloc L0.out _) 1).trans rfl,(World.cell?_alloc_lt _ _ _ (World.block_lt_of_cell? _ _ (((HB.out.cell (World.block_lt_of_cell? w _ P2)).trans P2)))).trans (((HB.out.cell (World.block_lt_of_cell? w _ P2)).trans P2))⟩ (fun hHeld=>?_);clear hK K;refine nm 26 ?_;(refine o1 10 (some 27) (bz 13 2047) (one_of HT_.out kr_) fun K hK=>?_);refine Kd.S_append_step (Kd.slice 3 (Kd.int .i64)) (w0:=w) w.heap.size (by rfl) (.tmp 18) (.tmp 26) 23 22 (.slice none 0 0) 24 rfl Tryz.underlying23 info22 rfl kd_ ko_ W1 V1 j2 [.slice d3 j2.length e3] (fun k_=>some k_≠(.slice s1 E0.length t1:Value).ownBlock) (fun k_=>some k_=(.slice d3 j2.length e3:Value).ownBlock) rfl rfl ?aP (fun k_ hk_=>((Kd.R_mono (ok':=fun k_=>((fun k_=>some k_≠(.slice s1 E0.length t1:Value).ownBlock)) k_∧some k_≠(W1:Value).ownBlock) (Kd.R_apart' (c3.out) (Kd.S_typed Y1.out) kd_) (fun k_ hk=>⟨hk.1,hk.2⟩))).1 k_ hk_.symm) ?aF ?aO ?aB ?aS ?aL ?_;(case aP=>exact Kd.M_row (Kd.R_mono (Kd.R_tight rfl (Kd.R_mono (ok':=fun k_=>((fun k_=>some k_≠(.slice s1 E0.length t1:Value).ownBlock)) k_∧some k_≠(W1:Value).ownBlock) (Kd.R_apart' (c3.out) (Kd.S_typed Y1.out) kd_) (fun k_ hk=>⟨hk.1,hk.2⟩))) (fun _ h_=>h_)));(case aB=>exact(bl));(case aF=>exact(fun k_ hk=>Kd.fresh' (Kd.R_lt (kR X1)) k_ hk));(case aO=>exact(by(with_reducible repeat(first|apply Kd.S_alloc|apply Kd.S_drewN|apply Kd.S_drew));exact Kd.S_mono Y1.out (fun k_ hk=>⟨hk.1,fun e_=>hk.2 e_⟩)));(case aS=>exact(below_size (bl)));(case aL=>have:=p2.out;omega);intro j3 l3 ho hb hg hat;rw[←r2.out]at ho;replace X1:=qa (Kd.R_over' (kR X1) (Kd.S_typed (kS Y1)) kd_ hg);replace L0:=qa (blk_grown (g:=J0) (o:= .cells #[.slice a0 c0.length b0,.slice (some E2) g0.length e0] 27 (0,0)) (bk) hg (Kd.S_ne Y1.out L0.out kd_));replace R0:=qa (blk_grown (g:=P0) (o:= .cells #[.slice none 0 0,.slice none 0 0] 27 (0,0)) (bk) hg (Kd.S_ne Y1.out R0.out kd_));replace x1:=qa (blk_grown (g:=v1) (o:= .cells #[.slice s1 E0.length t1,W1] 27 (0,0)) (bk) hg (Kd.S_ne Y1.out x1.out kd_));replace HB:=qa (hb);have n3:=qa (ho);clear Y1 c3;clear ho hb hg hat;obtain⟨p3,q3,r3⟩:=Kd.S_slice n3.out;(first|subst r3|(injection r3 with f1_ f2_ f3_;have f4_:=f1_.symm;have f5_:=f3_.symm;clear f1_ f2_ f3_;subst f4_;subst f5_));refine hK.out _ _ ⟨(blk_cell x1.out 0).trans rfl,(blk_cell x1.out 1).trans rfl,(blk_cell L0.out 0).trans rfl,(blk_cell L0.out 1).trans rfl,((HB.out.cell (World.block_lt_of_cell? w _ P2)).trans P2)⟩ (fun hHeld=>?_);clear hK K;refine nm 27 ?_;refine pur 11 28 (bz 13 4095) HT_ ?_;refine last_ (i:=12) (N:=none) (bz 13 8191) rfl rfl (one_of HT_.out kr_) kd_ (fun K hK=>?_);have s3:l3.cell? ⟨v1,1,none⟩=some (W1):=(blk_cell x1.out 1).trans rfl;have t3:=blk_frozen x1.out 1;have v3:=B1.out;have w3:=D1.out;have x3:=C1.out;have y3:=E1.out;refine skip_ (w1:=?_) (by rfl) rfl ?_ ?_;rotate_left
    ·go_simp
     rfl
    refine hK.out _ _ ?_;clear hK K;refine done_ (done_of HT_.out kr_) ?_
    try go_wp2
    go_roundg k1
    case measure=>have:=HK1.out;omega
    case rel=>exact⟨(wrap64 (U1+1)),(q2),(.slice p3 q2.length q3),(sd),H',⟨by have:=HK1.out;omega⟩,⟨kFR X1 x1 (fun _ hk=>trivial)⟩,⟨kFS n3 x1 (fun _ hk=>hk.1)⟩,⟨kb L0⟩,⟨kb R0⟩,⟨kP x1⟩,⟨bl⟩⟩
   ·simp only[Option.some.injEq,Prod.mk.injEq]at H;obtain⟨rfl,rfl⟩:=H;have A3:=W0.out;have B3:=X0.out;have C3:=B1.out;have D3:=C1.out;obtain⟨E3,G3,J3,K3⟩:=qk2 L0;have L3:=E1.out;have M3:=D1.out;obtain⟨N3,P3,Q3,R3⟩:=qk2 x1;obtain⟨U3,V3,W3,X3⟩:=qk2 R0;obtain⟨Y3,a4,rfl⟩:=Kd.S_slice Y1.out;go_wp2;refine bodyPost_ret (results_cell_row rfl _ _ P0 27 #[.slice s1 E0.length t1,.slice Y3 V1.length a4] (0,0) _ rfl (kP R0) Tryz.underlying27 rfl kr_) rfl ?_;exact⟨_,_,er,kFR X1 R0 (fun _ hk=>trivial),kFS Y1 R0 (fun _ hk=>hk.1),bl⟩
 ·rw[if_neg C0]at H;exact absurd H (by simp)

def spec_l1Cut.l0:Nat→ByteArray→Int→List ByteArray→Int→Int→Option (List ByteArray)
 |0,_,_,_,_,_=>none
 |k+1,a0,b0,c0,d0,e0=>if e0<(a0.size:Int)then(if 0≤e0 then(if(bt a0 e0)=b0 then(if 0≤d0 then(if d0≤e0 then(if e0≤(a0.size:Int)then(if c0.length<8796093022208 then(spec_l1Cut.l0 k a0 b0 (c0++[a0.extract (d0:Int).toNat (e0:Int).toNat]) (wrap64 (e0+1)) (wrap64 (e0+1)))else(none))else(none))else(none))else(none))else(spec_l1Cut.l0 k a0 b0 c0 d0 (wrap64 (e0+1))))else(none))else(if 0≤d0 then(if d0≤(a0.size:Int)then(if c0.length<8796093022208 then(some (c0++[a0.extract (d0:Int).toNat a0.size]))else(none))else(none))else(none))
def spec_l1Cut.f (k:Nat) (a0:ByteArray) (b0:Int):Option (List ByteArray):=spec_l1Cut.l0 k a0 b0 (([]:List ByteArray)) 0 0
theorem spec_l1Cut.calls (k:Nat) (a0:ByteArray) (b0:Int) (r:List ByteArray) (w:World) (h:spec_l1Cut.f k a0 b0=some r):
  Calls Tryz.prog 47 #[.string a0,.int .u8 b0] w fun e w'=>∃v0_:Value,e= .returned (v0_)∧Kd.R Kd.string 9 w' w.heap.size (fun _=>True) v0_ r∧Below w.heap.size w w':=by
 have HB:=qa (Below.refl w.heap.size w);have H:=h;unfold spec_l1Cut.f at H;clear h;obtain⟨c0,hy_⟩:∃y_:List ByteArray,y_=(([]:List ByteArray)):=⟨_,rfl⟩;replace H:(spec_l1Cut.l0 k a0 b0 c0 0 0)=some r:=yh;have d0:=qa hy_;clear hy_;have H':=qa H;clear H
 go_enter Tryz.func47,Tryz.ntmps47
 go_wp2_with(first|(refine rls 9 8 d0.out fun e0 g0 j0 hb=>?_;have n0:=qa (Kd.R_lower j0 (below_size (bl)));replace HB:=bs hb;clear hb j0))
 go_loopg [5,6,7] k (fun kq p0 q0 r0 w'=>∃(s0:List ByteArray) (t0:Int) (v0:Int),q0= .int .i64 t0∧r0= .int .i64 v0∧Aside0 (spec_l1Cut.l0 kq a0 b0 s0 t0 v0=some r)∧Aside0 (kq≤k)∧Aside0 (Kd.R Kd.string 9 w' w.heap.size (fun _=>True) p0 s0)∧Aside0 (Below w.heap.size w w'))
 case atStart=>exact⟨(c0),(0),(0),(sd),(sd),H',⟨Nat.le_refl _⟩,⟨kR n0⟩,⟨bl⟩⟩
 case round=>
  clear H';obtain⟨s0,t0,v0,rfl,rfl,HA,HK1,w0,HB⟩:=hrel;obtain⟨k1,rfl,H⟩:=kz gk HA;clear HA;simp only[spec_l1Cut.l0]at H;replace H:=qe H;obtain⟨x0,H⟩|⟨x0,H⟩:=H
  ·replace H:=qd H;obtain⟨y0,H⟩:=H;replace H:=qq H;obtain⟨A0,B0,H⟩|⟨C0,A0,B0,H⟩:=H
   ·replace H:=qn H;obtain⟨D0,H⟩:=H;have E0:=eq_true D0;have G0:decide (0≤t0)=true:=decide_eq_true D0;clear D0;replace H:=qn H;obtain⟨J0,H⟩:=H;have K0:=eq_true J0;have L0:decide (t0≤v0)=true:=decide_eq_true J0;clear J0;replace H:=qn H;obtain⟨M0,H⟩:=H;have N0:=eq_true M0;have P0:decide (v0≤(a0.size:Int))=true:=decide_eq_true M0;clear M0;replace H:=qn H;obtain⟨Q0,H⟩:=H;have R0:=qa Q0;clear Q0;obtain⟨U0,hy_⟩:∃y_:List ByteArray,y_=(s0++[a0.extract (t0:Int).toNat (v0:Int).toNat]):=⟨_,rfl⟩;replace H:(spec_l1Cut.l0 k1 a0 b0 U0 (wrap64 (v0+1)) (wrap64 (v0+1)))=some r:=yh;have V0:=qa hy_;clear hy_;have H':=qa H;clear H;have W0:0≤(v0:Int):=qo;have X0:v0<(a0.size:Int):=qo;have Y0:=bt_at a0 v0;replace W0:=eq_true W0;replace X0:=eq_true X0
    go_wp2_with(first|((with_reducible refine gate_builtin (b:= .append) (xs:=#[.tmp 20,.tmp 25]) rfl ?_);at_builtin;refine Kd.R_append Kd.string (w0:=w) w.heap.size rfl (.tmp 20) (.tmp 25) 35 9 (.string ⟨#[]⟩) 16 rfl Tryz.underlying35 info9 rfl kd_ ko_ u5 s0 (a0.extract (t0:Int).toNat (v0:Int).toNat) [.string (a0.extract (t0:Int).toNat (v0:Int).toNat)] (fun _=>True) (fun _=>False) rfl rfl ?aP (fun _ hk=>hk.elim) ?aF ?aO ?aB ?aS ?aL ?_;(case aP=>exact rfl);(case aB=>exact(bl));(case aF=>exact(fun _ _=>trivial));(case aO=>exact(kR w0));(case aS=>exact(below_size (bl)));(case aL=>have:=R0.out;omega);intro a1 b1 ho hb hg hat;rw[←V0.out]at ho;replace HB:=qa (hb);have c1:=qa (ho);clear w0;clear ho hb hg hat))
    go_roundg k1
    case measure=>have:=HK1.out;omega
    case rel=>exact⟨(U0),(wrap64 (v0+1)),(wrap64 (v0+1)),(sd),(sd),H',⟨by have:=HK1.out;omega⟩,⟨kR c1⟩,⟨bl⟩⟩
   ·have H':=qa H;clear H;have W0:0≤(v0:Int):=qo;have X0:v0<(a0.size:Int):=qo;have Y0:=bt_at a0 v0;replace W0:=eq_true W0;replace X0:=eq_true X0;go_wp2
    go_roundg k1
    case measure=>have:=HK1.out;omega
    case rel=>exact⟨(s0),(t0),(wrap64 (v0+1)),(sd),(sd),H',⟨by have:=HK1.out;omega⟩,⟨kR w0⟩,⟨bl⟩⟩
  ·by_cases d1:0≤t0
   ·rw[if_pos d1]at H;have e1:=eq_true d1;have g1:decide (0≤t0)=true:=decide_eq_true d1;clear d1;replace H:=qn H;obtain⟨j1,H⟩:=H;have l1:=eq_true j1;have n1:decide (t0≤(a0.size:Int))=true:=decide_eq_true j1;clear j1;replace H:=qn H;obtain⟨p1,H⟩:=H;have q1:=qa p1;clear p1;obtain⟨r1,hy_⟩:∃y_:List ByteArray,y_=(s0++[a0.extract (t0:Int).toNat a0.size]):=⟨_,rfl⟩;replace H:(some r1)=some r:=yh;have s1:=qa hy_;clear hy_;obtain rfl:=sj H
    go_wp2_with(first|((with_reducible refine gate_builtin (b:= .append) (xs:=#[.tmp 29,.tmp 33]) rfl ?_);at_builtin;refine Kd.R_append Kd.string (w0:=w) w.heap.size rfl (.tmp 29) (.tmp 33) 35 9 (.string ⟨#[]⟩) 16 rfl Tryz.underlying35 info9 rfl kd_ ko_ u5 s0 (a0.extract (t0:Int).toNat a0.size) [.string (a0.extract (t0:Int).toNat a0.size)] (fun _=>True) (fun _=>False) rfl rfl ?aP (fun _ hk=>hk.elim) ?aF ?aO ?aB ?aS ?aL ?_;(case aP=>exact rfl);(case aB=>exact(bl));(case aF=>exact(fun _ _=>trivial));(case aO=>exact(kR w0));(case aS=>exact(below_size (bl)));(case aL=>have:=q1.out;omega);intro t1 v1 ho hb hg hat;rw[←s1.out]at ho;replace HB:=qa (hb);have w1:=qa (ho);clear w0;clear ho hb hg hat))
    go_ret;exact⟨_,er,kR w1,bl⟩
   ·rw[if_neg d1]at H;exact absurd H (by simp)
mutual
def spec_l1Digits.j0:Nat→ByteArray→Bool→Option (Int)
 |0,_,_=>none
 |k+1,a0,b0=>if b0=true then(some (-1))else(spec_l1Digits.l0 k a0 0 0)
def spec_l1Digits.l0:Nat→ByteArray→Int→Int→Option (Int)
 |0,_,_,_=>none
 |k+1,a0,c0,d0=>if d0<(a0.size:Int)then(if 0≤d0 then(if(bt a0 d0)<48 then(some (-1))else(if(bt a0 d0)>57 then(some (-1))else(spec_l1Digits.l0 k a0 (wrap64 ((wrap64 (10*c0))+(((bt a0 d0)-48)%256))) (wrap64 (d0+1)))))else(none))else(some c0)
end

def spec_l1Digits.f (k:Nat) (a0:ByteArray):Option (Int):=(spec_l1In.f (a0.size:Int) 1 5).bind fun b0=>(if b0=true then(if(a0.size:Int)>1 then(if 0<(a0.size:Int)then(spec_l1Digits.j0 k a0 ((bt a0 0)==48))else(none))else(spec_l1Digits.j0 k a0 false))else(spec_l1Digits.j0 k a0 true))
theorem spec_l1Digits.calls (k:Nat) (a0:ByteArray) (r:Int) (w:World) (h:spec_l1Digits.f k a0=some r):
  Calls Tryz.prog 48 #[.string a0] w fun e w'=>e= .returned (.int .i64 r)∧Drawn0 w w':=by
 have H:=h;unfold spec_l1Digits.f at H;clear h;have b0:=qa H;clear H
 go_enter Tryz.func48,Tryz.ntmps48
 go_upto_region 1 with(fail)
 go_cut [18] (fun c0 wc=>∃(kq:Nat) (d0:Bool),c0= .bool d0∧Aside0 (spec_l1Digits.j0 kq a0 d0=some r)∧Aside0 (kq≤k)∧Drawn0 w wc)
 case first=>
  have H:=b0.out;clear b0;replace H:=qb H;obtain⟨e0,g0,H⟩:=H;replace H:=qc H;obtain⟨rfl,H⟩|⟨rfl,H⟩:=H
  ·by_cases n0:(a0.size:Int)>1
   ·rw[if_pos n0]at H;have p0:decide (1<(a0.size:Int))=true:=decide_eq_true n0;have q0:decide (1<a0.size)=true:=decide_eq_true ko_;clear n0;(first|rw[p0]|(simp only[i64_w,i32_w];rw[p0])|skip);replace H:=qL 0 H;obtain⟨r0,s0,H⟩:=H;have H':=qa H;clear H
    go_wp2_with(first|(refine gd 7 Tryz.func84 (spec_l1In.calls (a0.size:Int) 1 5 true _ g0.out) fun nd=>?_;have t0:0≤(0:Int):=ko_;have v0:0<a0.size:=(by have:(0:Int)<(a0.size:Int):=qo;omega);have w0:∀h:0<a0.size,((a0[0]'h).toNat :Int)=bt a0 0:=bt_at a0 0;clear t0;have qi7:(0<(a0.size:Int))=True:=eq_true (qo);replace v0:=eq_true v0))
    go_meet
    case rel=>exact⟨_,(((bt a0 0)==48)),(sd),H',⟨by first|omega|exact Nat.le_refl _⟩,dr⟩
   ·rw[if_neg n0]at H;have p0:decide (1<(a0.size:Int))=false:=decide_eq_false n0;have q0:decide (1<a0.size)=false:=decide_eq_false ko_;clear n0;(first|rw[p0]|(simp only[i64_w,i32_w];rw[p0])|skip);have H':=qa H;clear H
    go_wp2_with(first|(refine gd 7 Tryz.func84 (spec_l1In.calls (a0.size:Int) 1 5 true _ g0.out) fun nd=>?_))
    go_meet
    case rel=>exact⟨_,(false),(sd),H',⟨by first|omega|exact Nat.le_refl _⟩,dr⟩
  ·have H':=qa H;clear H
   go_wp2_with(first|(refine gd 7 Tryz.func84 (spec_l1In.calls (a0.size:Int) 1 5 false _ g0.out) fun nd=>?_))
   go_meet
   case rel=>exact⟨_,(true),(sd),H',⟨by first|omega|exact Nat.le_refl _⟩,dr⟩
 case rest=>
  clear b0;obtain⟨kq,d0,rfl,HA,x0,⟨mc1,rfl⟩⟩:=hcut;obtain⟨y0,rfl,H⟩:=kz kq HA;clear HA;simp only[spec_l1Digits.j0]at H;replace H:=qc H;obtain⟨rfl,H⟩|⟨rfl,H⟩:=H
  ·obtain rfl:=sj H;go_wp2;go_ret;exact⟨sd,dr⟩
  ·have H':=qa H;clear H;go_wp2
   go_loopg [3,4] y0 (fun kq A0 B0 w'=>∃(C0:Int) (D0:Int),A0= .int .i64 C0∧B0= .int .i64 D0∧Aside0 (spec_l1Digits.l0 kq a0 C0 D0=some r)∧Aside0 (kq≤y0)∧Drawn0 w w')
   case atStart=>exact⟨(0),(0),(sd),(sd),H',⟨Nat.le_refl _⟩,dr⟩
   case round=>
    clear H';obtain⟨C0,D0,rfl,rfl,HA,HK2,⟨m2,rfl⟩⟩:=hrel;obtain⟨k2,rfl,H⟩:=kz gk HA;clear HA;simp only[spec_l1Digits.l0]at H;replace H:=qe H;obtain⟨E0,H⟩|⟨E0,H⟩:=H
    ·replace H:=qd H;obtain⟨G0,H⟩:=H;replace H:=qe H;obtain⟨J0,H⟩|⟨J0,H⟩:=H
     ·obtain rfl:=sj H;have K0:0≤(D0:Int):=qo;have L0:D0<(a0.size:Int):=qo;have M0:=bt_at a0 D0;replace K0:=eq_true K0;replace L0:=eq_true L0;go_wp2;go_ret;exact⟨sd,dr⟩
     ·replace H:=qg H;obtain⟨N0,H⟩|⟨N0,H⟩:=H
      ·obtain rfl:=sj H;have K0:0≤(D0:Int):=qo;have L0:D0<(a0.size:Int):=qo;have M0:=bt_at a0 D0;replace K0:=eq_true K0;replace L0:=eq_true L0;have P0:0≤(D0:Int):=qo;have Q0:D0<(a0.size:Int):=qo;have R0:=bt_at a0 D0;replace P0:=eq_true P0;replace Q0:=eq_true Q0;go_wp2;go_ret;exact⟨sd,dr⟩
      ·have H':=qa H;clear H;have K0:0≤(D0:Int):=qo;have L0:D0<(a0.size:Int):=qo;have M0:=bt_at a0 D0;replace K0:=eq_true K0;replace L0:=eq_true L0;have P0:0≤(D0:Int):=qo;have Q0:D0<(a0.size:Int):=qo;have R0:=bt_at a0 D0;replace P0:=eq_true P0;replace Q0:=eq_true Q0;have U0:0≤(D0:Int):=qo;have V0:D0<(a0.size:Int):=qo;have W0:=bt_at a0 D0;replace U0:=eq_true U0;replace V0:=eq_true V0;go_wp2
       go_roundg k2
       case measure=>have:=x0.out;have:=HK2.out;omega
       case rel=>exact⟨(wrap64 ((wrap64 (10*C0))+(((bt a0 D0)-48)%256))),(wrap64 (D0+1)),(sd),(sd),H',⟨by have:=x0.out;have:=HK2.out;omega⟩,dr⟩
    ·obtain rfl:=sj H;go_wp2;go_ret;exact⟨sd,dr⟩

mutual
def spec_l1Number.j0:Nat→Int→Bool→Option (ByteArray)
 |0,_,_=>none
 |k+1,a0,b0=>if b0=true then(some (⟨#[45,57,50,50,51,51,55,50,48,51,54,56,53,52,55,55,53,56,48,56]⟩:ByteArray))else(if a0<0 then((spec_l1Number.f k (wrap64 (-a0))).bind fun c0=>(if 1+c0.size≤9223372036854775807 then(some ((⟨#[45]⟩:ByteArray)++c0))else(none)))else(if a0<10 then(some (strOfNums (([(wrap64 (48+a0))%256]:List Int))))else((spec_l1Number.f k (wrap64 (Int.tdiv a0 10))).bind fun d0=>((some (([(wrap64 (48+(Int.tmod a0 10)))%256]:List Int):List Int)).bind fun e0=>(if d0.size+(strOfNums e0).size ≤9223372036854775807 then(some (d0++(strOfNums e0)))else(none))))))
def spec_l1Number.f:Nat→Int→Option (ByteArray)
 |0,_=>none
 |k+1,g0=>if g0<0 then(spec_l1Number.j0 k g0 (g0==(wrap64 (-g0))))else(spec_l1Number.j0 k g0 false)
end

def spec_l1Number.T7:Bool×List (List Nat×List Nat):=(true,[([],[]),([0],[0]),([1],[1]),([],[]),([3],[3]),([4],[4]),([5],[5]),([6],[6]),([7],[7]),([2,8],[2,8]),([9,2,0,1,2,3,4,5,6,7,8,9],[9])])
def spec_l1Number.B7:List Nat:=[0,1,3,0,8,24,56,120,248,511,1023]
theorem spec_l1Number.tab7:rtab .any (opsOf Tryz.f82 7)=spec_l1Number.T7:=by kernel_rfl
theorem spec_l1Number.bits7:waitsOk spec_l1Number.T7.2 spec_l1Number.B7=true:=by kernel_rfl
theorem spec_l1Number.calls (k:Nat):∀(a0:Int) (r:ByteArray) (w:World) (h:spec_l1Number.f k a0=some r),
  Calls Tryz.prog 82 #[.int .i64 a0] w fun e w'=>e= .returned (.string r)∧Below w.heap.size w w':=by
 induction k using Nat.strongRecOn with
 |_ k ih=>
 intro a0 r w h
 cases k with
 |zero=>exact absurd h (by simp[spec_l1Number.f])
 |succ k=>
 simp only[spec_l1Number.f]at h;have HB:=qa (Below.refl w.heap.size w);have H:(if a0<0 then(spec_l1Number.j0 k a0 (a0==(wrap64 (-a0))))else(spec_l1Number.j0 k a0 false))=some r:=h;clear h;have b0:=qa H;clear H
 go_enter Tryz.func82,Tryz.ntmps82
 go_upto_region 1 with(fail)
 go_cut [10] (fun c0 wc=>∃(kq:Nat) (d0:Bool),c0= .bool d0∧Aside0 (spec_l1Number.j0 kq a0 d0=some r)∧Aside0 (kq≤k)∧Aside0 (Below w.heap.size w wc))
 case first=>
  have H:=b0.out;clear b0;replace H:=qe H;obtain⟨e0,H⟩|⟨e0,H⟩:=H
  ·(first|rw[e0]|(simp only[i64_w,i32_w];rw[e0])|skip);have H':=qa H;clear H;go_wp2;go_meet
   case rel=>exact⟨_,((a0==(wrap64 (-a0)))),(sd),H',⟨by first|omega|exact Nat.le_refl _⟩,⟨bl⟩⟩
  ·(first|rw[e0]|(simp only[i64_w,i32_w];rw[e0])|skip);have H':=qa H;clear H;go_wp2;go_meet
   case rel=>exact⟨_,(false),(sd),H',⟨by first|omega|exact Nat.le_refl _⟩,⟨bl⟩⟩
 case rest=>
  clear b0;obtain⟨kq,d0,rfl,HA,g0,HB⟩:=hcut;obtain⟨l0,rfl,H⟩:=kz kq HA;clear HA;simp only[spec_l1Number.j0]at H;replace H:=qc H;obtain⟨rfl,H⟩|⟨rfl,H⟩:=H
  ·obtain rfl:=sj H;go_wp2;go_ret;exact⟨er,bl⟩
  ·replace H:=qe H;obtain⟨n0,H⟩|⟨n0,H⟩:=H
   ·replace H:=qb H;obtain⟨p0,q0,H⟩:=H;replace H:=qN H;obtain⟨r0,s0,t0,v0,H⟩:=H;obtain rfl:=sj H
    go_wp2_with(first|(refine gb 15 Tryz.func82 (ih l0 (by have:=g0.out;omega) (wrap64 (-a0)) p0 _ q0.out) fun w0 hb=>?_;replace HB:=bs hb))
    go_ret;exact⟨er,bl⟩
   ·replace H:=qe H;obtain⟨x0,H⟩|⟨x0,H⟩:=H
    ·obtain⟨y0,A0⟩:∃y_:List Int,y_=(([(wrap64 (48+a0))%256]:List Int)):=⟨_,rfl⟩;(replace H:(some (strOfNums y0))=some r:=by first|(rw[A0];with_reducible exact H)|(have H2_:=(Option.bind_some _ _).symm.trans H;rw[A0];with_reducible exact H2_)|(have H2_:=(Option.bind_some _ _).symm.trans H;with_reducible exact H2_)|with_reducible exact H|(rw[A0];exact H)|exact H);have B0:=qa A0;clear A0;obtain rfl:=sj H
     go_wp2_with(first|(refine rli .u8 5 22 B0.out fun C0 D0 E0 hb=>?_;have G0:=qa (Kd.R_lower E0 (below_size (bl)));replace HB:=bs hb;clear hb E0;have J0:=own_string (P:=Tryz.prog) Tryz.underlying34 Tryz.underlying5 Tryz.underlying9 (Kd.own_of_R G0.out)))
     go_ret;exact⟨er,bl⟩
    ·replace H:=qb H;obtain⟨K0,L0,H⟩:=H;replace H:=qs H;obtain⟨M0,N0,H⟩:=H
     by_cases P0:K0.size+(strOfNums M0).size ≤9223372036854775807
     ·rw[if_pos P0]at H;have Q0:=eq_true P0;have R0:decide (K0.size+(strOfNums M0).size ≤9223372036854775807)=true:=decide_eq_true P0
      try have U0:(9223372036854775807<K0.size+(strOfNums M0).size)=False:=eq_false (Nat.not_lt.2 P0)
      obtain rfl:=sj H
      try go_wp2
      replace HB:=qa (below_drew1 HB.out);refine start_ (n:=11) (S:=fun w'=>True) (ds:=[]) _ kr_ rfl rfl trivial (fun hHeld=>?_);refine with_tabW spec_l1Number.tab7 spec_l1Number.bits7 (fun HT_ HW_=>?_);generalize wc.drew=V0 at HB hHeld ⊢;refine pur 0 24 (bz 11 1) HT_ ?_;refine pur 1 25 (bz 11 3) HT_ ?_;refine pur 3 27 (bz 11 11) HT_ ?_;refine pur 4 28 (bz 11 27) HT_ ?_;refine pur 5 29 (bz 11 59) HT_ ?_;refine pur 6 30 (bz 11 123) HT_ ?_;refine join_ (σ:=Value) 2 (bz 11 511) (fun s_=>[(26,.string K0),(31,s_),(32,.string (strOfNums M0))]) (fun s_ w'=>(Kd.R (Kd.int .u8) 5 w' w.heap.size (fun _=>True) s_ M0)∧(Below w.heap.size w w')) ?_ ?_;rotate_left
      ·intro hCont;refine two_ (i:=2) (j:=7) (Ni:=some 26) (Nj:=some 31) (bz 11 127) (bz 11 251) rfl rfl rfl rfl (two_of HT_.out kr_) kd_ kd_ (fun K hK=>?_) (fun K hK=>?_)
       ·skip
        (refine gsb Tryz.func82 (ih l0 (by have:=g0.out;omega) (wrap64 (Int.tdiv a0 10)) K0 _ L0.out) fun W0 hb=>?_);replace HB:=bs hb;(try clear hb);(try clear X0);(try clear hk);(try clear hi);refine hK.out _ _ trivial (fun hHeld=>?_);clear hK K;refine nm 26 ?_;(refine o1 7 (some 31) (bz 11 255) (one_of HT_.out kr_) fun K hK=>?_);refine Kd.R_lit_step (Kd.int .u8) _ 5 ?hg (N:=31) ?hd (xs:=([(wrap64 (48+(Int.tmod a0 10)))%256]:List Int)) (inner:=[.int .u8 ((wrap64 (48+(Int.tmod a0 10)))%256)]) (ok:=fun _=>True) (okp:=fun _=>True) ?hr ?hp (fun _ hk=>hk) trivial (Below.refl _ _) (Nat.le_refl _) (by simp) ?_;(case hd=>rfl);(case hg=>rfl);(case hr=>exact gr);(case hp=>exact(Reps.one (show Kd.M (Kd.int .u8) _ _ _ ((wrap64 (48+(Int.tmod a0 10)))%256) [.int .u8 ((wrap64 (48+(Int.tmod a0 10)))%256)]from rfl) (Reps.none _ _)));intro Y0 a1 b1 hb hg_ hnew_;clear hg_ hnew_;(first|rw[←N0.out]at b1|(simp only[Int.reduceToNat]at b1;rw[←N0.out]at b1));have c1:=qa (Kd.R_lower b1 (below_size (bl)));replace HB:=bs hb;clear hb b1;refine hK.out _ _ trivial (fun hHeld=>?_);clear hK K;refine nm 31 ?_;(refine o1 8 (some 32) (bz 11 511) (one_of HT_.out kr_) fun K hK=>?_);have d1:=own_string (P:=Tryz.prog) Tryz.underlying34 Tryz.underlying5 Tryz.underlying9 (Kd.own_of_R c1.out);refine value_ (w1:=?_) (v:=?_) (by rfl) rfl ?_ ?_;rotate_left 2
        ·go_simp
         constructor
         ·rfl
         ·rfl
        clear d1;refine hK.out _ _ trivial (fun hHeld=>?_);clear hK K;refine nm 32 ?_;exact norm_ z26_ (hCont (Y0) _ ⟨(kR c1),(bl)⟩)
       ·skip
        refine Kd.R_lit_step (Kd.int .u8) _ 5 ?hg (N:=31) ?hd (xs:=([(wrap64 (48+(Int.tmod a0 10)))%256]:List Int)) (inner:=[.int .u8 ((wrap64 (48+(Int.tmod a0 10)))%256)]) (ok:=fun _=>True) (okp:=fun _=>True) ?hr ?hp (fun _ hk=>hk) trivial (Below.refl _ _) (Nat.le_refl _) (by simp) ?_;(case hd=>rfl);(case hg=>rfl);(case hr=>exact gr);(case hp=>exact(Reps.one (show Kd.M (Kd.int .u8) _ _ _ ((wrap64 (48+(Int.tmod a0 10)))%256) [.int .u8 ((wrap64 (48+(Int.tmod a0 10)))%256)]from rfl) (Reps.none _ _)));intro Y0 W0 e1 hb hg_ hnew_;clear hg_ hnew_;(first|rw[←N0.out]at e1|(simp only[Int.reduceToNat]at e1;rw[←N0.out]at e1));have c1:=qa (Kd.R_lower e1 (below_size (bl)));replace HB:=bs hb;clear hb e1;refine hK.out _ _ trivial (fun hHeld=>?_);clear hK K;refine nm 31 ?_;refine two_ (i:=2) (j:=8) (Ni:=some 26) (Nj:=some 32) (bz 11 255) (bz 11 507) rfl rfl rfl rfl (two_of HT_.out kr_) kd_ kd_ (fun K hK=>?_) (fun K hK=>?_)
        ·skip
         (refine gsb Tryz.func82 (ih l0 (by have:=g0.out;omega) (wrap64 (Int.tdiv a0 10)) K0 _ L0.out) fun g1 hb=>?_);replace c1:=qa (Kd.R_below (kR c1) hb);replace HB:=bs hb;(try clear hb);(try clear X0);(try clear hk);(try clear hi);refine hK.out _ _ trivial (fun hHeld=>?_);clear hK K;refine nm 26 ?_;(refine o1 8 (some 32) (bz 11 511) (one_of HT_.out kr_) fun K hK=>?_);have d1:=own_string (P:=Tryz.prog) Tryz.underlying34 Tryz.underlying5 Tryz.underlying9 (Kd.own_of_R c1.out);refine value_ (w1:=?_) (v:=?_) (by rfl) rfl ?_ ?_;rotate_left 2
         ·go_simp
          constructor
          ·rfl
          ·rfl
         clear d1;refine hK.out _ _ trivial (fun hHeld=>?_);clear hK K;refine nm 32 ?_;exact norm_ z26_ (hCont (Y0) _ ⟨(kR c1),(bl)⟩)
        ·skip
         have j1:=own_string (P:=Tryz.prog) Tryz.underlying34 Tryz.underlying5 Tryz.underlying9 (Kd.own_of_R c1.out);refine value_ (w1:=?_) (v:=?_) (by rfl) rfl ?_ ?_;rotate_left 2
         ·go_simp
          constructor
          ·rfl
          ·rfl
         clear j1;refine hK.out _ _ trivial (fun hHeld=>?_);clear hK K;refine nm 32 ?_;(refine o1 2 (some 26) (bz 11 511) (one_of HT_.out kr_) fun K hK=>?_);(refine gsb Tryz.func82 (ih l0 (by have:=g0.out;omega) (wrap64 (Int.tdiv a0 10)) K0 _ L0.out) fun l1 hb=>?_);replace c1:=qa (Kd.R_below (kR c1) hb);replace HB:=bs hb;(try clear hb);(try clear X0);(try clear hk);(try clear hi);refine hK.out _ _ trivial (fun hHeld=>?_);clear hK K;refine nm 26 ?_;exact norm_ z26_ (hCont (Y0) _ ⟨(kR c1),(bl)⟩)
      rintro Y0 n1 ⟨h0_,h1_⟩;have n0_:Aside0 (Kd.R (Kd.int .u8) 5 n1 w.heap.size (fun _=>True) Y0 M0):=⟨h0_⟩;have n1_:Aside0 (Below w.heap.size w n1):=⟨h1_⟩;clear HB;clear h0_ h1_;have c1:=n0_;have HB:=n1_;clear n0_ n1_;have hHeld:=trivial;refine norm_ (a':=?_) ?_ ?_;rotate_left
      ·simp only[putAll,Act.put,List.setIfInBounds_toArray,List.set_cons_zero,List.set_cons_succ]
       rfl
      refine pur 9 33 (bz 11 1023) HT_ ?_;refine pur 10 2 (bz 11 2047) HT_ ?_;refine done_ (done_of HT_.out kr_) ?_
      try go_wp2
      go_ret;exact⟨er,bl⟩
     ·rw[if_neg P0]at H;exact absurd H (by simp)
attribute [local go_sem high] eqA55
mutual
def spec_DeedText.j0:Nat→Bool→Int→Int→Int→Option (ByteArray)
 |0,_,_,_,_=>none
 |k+1,a0,b0,c0,d0=>if a0=true then((spec_l1Number.f k c0).bind fun e0=>(if 6+e0.size≤9223372036854775807 then(some ((⟨#[116,105,109,101,115,32]⟩:ByteArray)++e0))else(none)))else(if b0=1 then((spec_l1In.f c0 0 9).bind fun g0=>(if g0=true then(spec_DeedText.j1 k (d0==0) b0 c0 d0)else(spec_DeedText.j1 k false b0 c0 d0)))else(spec_DeedText.j1 k false b0 c0 d0))
def spec_DeedText.j1:Nat→Bool→Int→Int→Int→Option (ByteArray)
 |0,_,_,_,_=>none
 |k+1,l0,b0,c0,d0=>if l0=true then((spec_l1Number.f k c0).bind fun n0=>(if 8+n0.size≤9223372036854775807 then(some ((⟨#[117,110,105,116,97,114,121,32]⟩:ByteArray)++n0))else(none)))else(if(b0==2&&(c0==0&&(d0==0)))=true then(some (⟨#[105,110,118,101,114,115,101]⟩:ByteArray))else(if b0=3 then((spec_l1In.f c0 0 99).bind fun p0=>(if p0=true then((spec_l1In.f d0 0 9999).bind fun q0=>(spec_DeedText.j2 k q0 b0 c0 d0))else(spec_DeedText.j2 k false b0 c0 d0)))else(spec_DeedText.j2 k false b0 c0 d0)))
def spec_DeedText.j2:Nat→Bool→Int→Int→Int→Option (ByteArray)
 |0,_,_,_,_=>none
 |k+1,r0,b0,c0,d0=>if r0=true then((spec_l1Number.f k c0).bind fun s0=>(if 4+s0.size≤9223372036854775807 then(if((⟨#[115,101,116,32]⟩:ByteArray)++s0).size +1≤9223372036854775807 then((spec_l1Number.f k d0).bind fun t0=>(if(((⟨#[115,101,116,32]⟩:ByteArray)++s0)++(⟨#[32]⟩:ByteArray)).size +t0.size≤9223372036854775807 then(some ((((⟨#[115,101,116,32]⟩:ByteArray)++s0)++(⟨#[32]⟩:ByteArray))++t0))else(none)))else(none))else(none)))else(if(b0==4&&(c0==0&&(d0==0)))=true then(some (⟨#[98,97,99,107]⟩:ByteArray))else(some (⟨#[]⟩:ByteArray)))
end

def spec_DeedText.f (k:Nat) (a0:Int) (b0:Int) (c0:Int):Option (ByteArray):=if a0=0 then((spec_l1In.f b0 0 9).bind fun d0=>(if d0=true then(spec_DeedText.j0 k (c0==0) a0 b0 c0)else(spec_DeedText.j0 k false a0 b0 c0)))else(spec_DeedText.j0 k false a0 b0 c0)
def spec_DeedText.T8:Bool×List (List Nat×List Nat):=(true,[([],[]),([0],[0]),([1],[1]),([2],[2]),([3],[3]),([],[]),([5],[5]),([6,2],[6]),([4,7],[4,7]),([8,7,0,1,2,3,4,5,6,7,8],[8])])
def spec_DeedText.B8:List Nat:=[0,1,3,7,15,0,32,103,255,511]
theorem spec_DeedText.tab8:rtab .any (opsOf Tryz.f79 8)=spec_DeedText.T8:=by kernel_rfl
theorem spec_DeedText.bits8:waitsOk spec_DeedText.T8.2 spec_DeedText.B8=true:=by kernel_rfl
theorem spec_DeedText.calls (k:Nat) (a0:Int) (b0:Int) (c0:Int) (r:ByteArray) (w:World) (h:spec_DeedText.f k a0 b0 c0=some r):
  Calls Tryz.prog 79 #[.agg #[.int .i64 a0,.int .i64 b0,.int .i64 c0]] w fun e w'=>e= .returned (.string r)∧Below w.heap.size w w':=by
 have d0:=Tryz.underlying55;have HB:=qa (Below.refl w.heap.size w);have H:=h;unfold spec_DeedText.f at H;clear h;have e0:=qa H;clear H
 go_enter Tryz.func79,Tryz.ntmps79
 go_upto_region 1 with(go_big_may;first|(refine bx 1 #[.int .i64 a0,.int .i64 b0,.int .i64 c0] 55 ?_;intro g0 hg l0 hbox hb;have n0:=qa (hbox);have p0:=gw hg;have q0:=gw hg;replace HB:=bs hb;clear hb hbox hg))
 (try simp only[Act.put,List.setIfInBounds_toArray,List.set_cons_zero,List.set_cons_succ])
 go_cut [3] (fun r0 wc=>∃(kq:Nat) (s0:Bool),r0= .bool s0∧Aside0 (spec_DeedText.j0 kq s0 a0 b0 c0=some r)∧Aside0 (kq≤k)∧Aside0 (wc.heap[g0]? =some (.cells #[.int .i64 a0,.int .i64 b0,.int .i64 c0] 55 (0,0)))∧Aside0 (Below w.heap.size w wc))
 case first=>
  have H:=e0.out;clear e0;replace H:=qq H;obtain⟨t0,v0,H⟩|⟨w0,t0,v0,H⟩:=H
  ·(first|rw[t0]|(simp only[i64_w,i32_w];rw[t0])|skip);replace H:=qb H;obtain⟨x0,y0,H⟩:=H;replace H:=qc H;obtain⟨rfl,H⟩|⟨rfl,H⟩:=H
   ·have H':=qa H;clear H;obtain⟨A0,B0,C0,D0,E0,G0⟩:=qk3 n0
    go_wp2_with(first|(go_at_call 84;(with_reducible refine gm (spec_l1In.calls b0 0 9 true _ y0.out) fun nd=>?_)))
    go_meet
    case rel=>exact⟨_,((c0==0)),(sd),H',⟨by first|omega|exact Nat.le_refl _⟩,⟨bk⟩,⟨bl⟩⟩
   ·have H':=qa H;clear H;obtain⟨J0,K0,L0,M0,N0,P0⟩:=qk3 n0
    go_wp2_with(first|(go_at_call 84;(with_reducible refine gm (spec_l1In.calls b0 0 9 false _ y0.out) fun nd=>?_)))
    go_meet
    case rel=>exact⟨_,(false),(sd),H',⟨by first|omega|exact Nat.le_refl _⟩,⟨bk⟩,⟨bl⟩⟩
  ·(first|rw[t0]|(simp only[i64_w,i32_w];rw[t0])|skip);have H':=qa H;clear H;obtain⟨Q0,R0,U0,V0,W0,X0⟩:=qk3 n0;go_wp2;go_meet
   case rel=>exact⟨_,(false),(sd),H',⟨by first|omega|exact Nat.le_refl _⟩,⟨bk⟩,⟨bl⟩⟩
 case rest=>
  clear e0;obtain⟨kq,s0,rfl,HA,Y0,n0,HB⟩:=hcut;obtain⟨a1,rfl,H⟩:=kz kq HA;clear HA;simp only[spec_DeedText.j0]at H;replace H:=qc H;obtain⟨rfl,H⟩|⟨rfl,H⟩:=H
  ·replace H:=qb H;obtain⟨b1,c1,H⟩:=H;replace H:=qN H;obtain⟨d1,e1,g1,l1,H⟩:=H;obtain rfl:=sj H;obtain⟨n1,p1,q1,r1,s1,t1⟩:=qk3 n0
   go_wp2_with(first|(refine gb 19 Tryz.func82 (spec_l1Number.calls a1 b0 b1 _ c1.out) fun v1 hb=>?_;replace n0:=qbb n0 hb;replace HB:=bs hb))
   go_ret;exact⟨er,bl⟩
  ·have w1:=qa H;clear H
   go_upto_region 3 with(fail)
   go_cut [21] (fun x1 wc=>∃(kq:Nat) (y1:Bool),x1= .bool y1∧Aside0 (spec_DeedText.j1 kq y1 a0 b0 c0=some r)∧Aside0 (kq≤a1)∧Aside0 (wc.heap[g0]? =some (.cells #[.int .i64 a0,.int .i64 b0,.int .i64 c0] 55 (0,0)))∧Aside0 (Below w.heap.size w wc))
   case first=>
    have H:=w1.out;clear w1;replace H:=qq H;obtain⟨A1,B1,H⟩|⟨C1,A1,B1,H⟩:=H
    ·(first|rw[A1]|(simp only[i64_w,i32_w];rw[A1])|skip);replace H:=qb H;obtain⟨D1,E1,H⟩:=H;replace H:=qc H;obtain⟨rfl,H⟩|⟨rfl,H⟩:=H
     ·have H':=qa H;clear H;obtain⟨G1,J1,K1,L1,M1,N1⟩:=qk3 n0
      go_wp2_with(first|(go_at_call 84;(with_reducible refine gm (spec_l1In.calls b0 0 9 true _ E1.out) fun nd=>?_)))
      go_meet
      case rel=>exact⟨_,((c0==0)),(sd),H',⟨by have:=Y0.out;first|omega|exact Nat.le_refl _⟩,⟨bk⟩,⟨bl⟩⟩
     ·have H':=qa H;clear H;obtain⟨P1,Q1,R1,U1,V1,W1⟩:=qk3 n0
      go_wp2_with(first|(go_at_call 84;(with_reducible refine gm (spec_l1In.calls b0 0 9 false _ E1.out) fun nd=>?_)))
      go_meet
      case rel=>exact⟨_,(false),(sd),H',⟨by have:=Y0.out;first|omega|exact Nat.le_refl _⟩,⟨bk⟩,⟨bl⟩⟩
    ·(first|rw[A1]|(simp only[i64_w,i32_w];rw[A1])|skip);have H':=qa H;clear H;obtain⟨X1,Y1,a2,b2,c2,d2⟩:=qk3 n0;go_wp2;go_meet
     case rel=>exact⟨_,(false),(sd),H',⟨by have:=Y0.out;first|omega|exact Nat.le_refl _⟩,⟨bk⟩,⟨bl⟩⟩
   case rest=>
    clear w1;obtain⟨kq,y1,rfl,HA,e2,n0,HB⟩:=hcut;obtain⟨g2,rfl,H⟩:=kz kq HA;clear HA;simp only[spec_DeedText.j1]at H;replace H:=qc H;obtain⟨rfl,H⟩|⟨rfl,H⟩:=H
    ·replace H:=qb H;obtain⟨l2,n2,H⟩:=H;replace H:=qN H;obtain⟨p2,q2,r2,s2,H⟩:=H;obtain rfl:=sj H;obtain⟨t2,v2,w2,x2,y2,A2⟩:=qk3 n0
     go_wp2_with(first|(refine gb 37 Tryz.func82 (spec_l1Number.calls g2 b0 l2 _ n2.out) fun B2 hb=>?_;replace n0:=qbb n0 hb;replace HB:=bs hb))
     go_ret;exact⟨er,bl⟩
    ·by_cases C2:(a0==2&&(b0==0&&(c0==0)))=true
     ·rw[if_pos C2]at H;have D2:(a0==2&&(b0==0&&(c0==0)))=true:=C2;(try(have E2:decide (a0=2&&(b0==0&&(c0==0)))=true:=by simpa using C2));(try(have G2:(a0==2&&(b0==0&&(c0==0)))=true:=by simpa using C2));clear C2;obtain rfl:=sj H;obtain⟨J2,K2,L2,M2,N2,P2⟩:=qk3 n0;go_wp2;go_ret;exact⟨er,bl⟩
     ·rw[if_neg C2]at H;(have D2:(a0==2&&(b0==0&&(c0==0)))=false:=by simpa using C2);(try(have E2:decide (a0=2&&(b0==0&&(c0==0)))=false:=by simpa using C2));(try(have G2:(a0==2&&(b0==0&&(c0==0)))=false:=by simpa using C2));(try(have Q2:¬(a0=2&&(b0==0&&(c0==0))):=by simpa using C2));clear C2;have R2:=qa H;clear H;obtain⟨U2,V2,W2,X2,Y2,a3⟩:=qk3 n0
      go_upto_region 7 with(fail)
      go_cut [43] (fun b3 wc=>∃(kq:Nat) (c3:Bool),b3= .bool c3∧Aside0 (spec_DeedText.j2 kq c3 a0 b0 c0=some r)∧Aside0 (kq≤g2)∧Aside0 (wc.heap[g0]? =some (.cells #[.int .i64 a0,.int .i64 b0,.int .i64 c0] 55 (0,0)))∧Aside0 (Below w.heap.size w wc))
      case first=>
       have H:=R2.out;clear R2;replace H:=qq H;obtain⟨d3,e3,H⟩|⟨g3,d3,e3,H⟩:=H
       ·(first|rw[d3]|(simp only[i64_w,i32_w];rw[d3])|skip);replace H:=qb H;obtain⟨j3,l3,H⟩:=H;replace H:=qc H;obtain⟨rfl,H⟩|⟨rfl,H⟩:=H
        ·replace H:=qb H;obtain⟨n3,p3,H⟩:=H;have H':=qa H;clear H;obtain⟨q3,r3,s3,t3,v3,w3⟩:=qk3 n0
         go_wp2_with(first|(go_at_call 84;(with_reducible refine gm (spec_l1In.calls b0 0 99 true _ l3.out) fun nd=>?_))|(go_at_call 84;(with_reducible refine gm (spec_l1In.calls c0 0 9999 n3 _ p3.out) fun nd=>?_)))
         go_meet
         case rel=>exact⟨_,(n3),(sd),H',⟨by have:=Y0.out;have:=e2.out;first|omega|exact Nat.le_refl _⟩,⟨bk⟩,⟨bl⟩⟩
        ·have H':=qa H;clear H;obtain⟨x3,y3,A3,B3,C3,D3⟩:=qk3 n0
         go_wp2_with(first|(go_at_call 84;(with_reducible refine gm (spec_l1In.calls b0 0 99 false _ l3.out) fun nd=>?_)))
         go_meet
         case rel=>exact⟨_,(false),(sd),H',⟨by have:=Y0.out;have:=e2.out;first|omega|exact Nat.le_refl _⟩,⟨bk⟩,⟨bl⟩⟩
       ·(first|rw[d3]|(simp only[i64_w,i32_w];rw[d3])|skip);have H':=qa H;clear H;obtain⟨E3,G3,J3,K3,L3,M3⟩:=qk3 n0;go_wp2;go_meet
        case rel=>exact⟨_,(false),(sd),H',⟨by have:=Y0.out;have:=e2.out;first|omega|exact Nat.le_refl _⟩,⟨bk⟩,⟨bl⟩⟩
      case rest=>
       clear R2;obtain⟨kq,c3,rfl,HA,N3,n0,HB⟩:=hcut;obtain⟨P3,rfl,H⟩:=kz kq HA;clear HA;simp only[spec_DeedText.j2]at H;replace H:=qc H;obtain⟨rfl,H⟩|⟨rfl,H⟩:=H
       ·replace H:=qb H;obtain⟨Q3,R3,H⟩:=H;replace H:=qN H;obtain⟨U3,V3,W3,X3,H⟩:=H;replace H:=qN H;obtain⟨Y3,a4,b4,c4,H⟩:=H
        try(have c41bq:=c4;simp only[ByteArray.size_append,show(⟨#[115,101,116,32]⟩:ByteArray).size =4 from rfl]at c41bq)
        replace H:=qb H;obtain⟨d4,e4,H⟩:=H;replace H:=qN H;obtain⟨g4,j4,l4,n4,H⟩:=H
        try(have c43bq:=n4;simp only[ByteArray.size_append,show(⟨#[115,101,116,32]⟩:ByteArray).size =4 from rfl,show(⟨#[32]⟩:ByteArray).size =1 from rfl]at c43bq)
        obtain rfl:=sj H
        try go_wp2
        replace n0:=qa (blk_drew n0.out);replace HB:=qa (below_drew1 HB.out);refine start_ (n:=10) (S:=fun w'=>w'.cell? ⟨g0,0,none⟩=some (.int .i64 a0)∧w'.cell? ⟨g0,1,none⟩=some (.int .i64 b0)∧w'.cell? ⟨g0,2,none⟩=some (.int .i64 c0)) (ds:=[]) _ kr_ rfl rfl ⟨(blk_cell n0.out 0).trans rfl,(blk_cell n0.out 1).trans rfl,(blk_cell n0.out 2).trans rfl⟩ (fun hHeld=>?_);refine with_tabW spec_DeedText.tab8 spec_DeedText.bits8 (fun HT_ HW_=>?_);generalize wc.drew=p4 at n0 HB hHeld ⊢;refine pur 0 57 (bz 10 1) HT_ ?_;refine pur 5 62 (bz 10 33) HT_ ?_;refine tk 1 58 (bz 10 35) hHeld (take_ofW HT_.out HW_.out kr_) ?_;refine tk 6 63 (bz 10 99) hHeld (take_ofW HT_.out HW_.out kr_) ?_;(refine o1 2 (some 59) (bz 10 103) (one_of HT_.out kr_) fun K hK=>?_);(refine gsb Tryz.func82 (spec_l1Number.calls P3 b0 Q3 _ R3.out) fun q4 hb=>?_);replace n0:=qbb n0 hb;replace HB:=bs hb;(try clear hb);(try clear r4);(try clear hk);(try clear hi);refine hK.out _ _ ⟨(blk_cell n0.out 0).trans rfl,(blk_cell n0.out 1).trans rfl,(blk_cell n0.out 2).trans rfl⟩ (fun hHeld=>?_);clear hK K;refine nm 59 ?_;refine pur 3 60 (bz 10 111) HT_ ?_;refine pur 4 61 (bz 10 127) HT_ ?_;(refine o1 7 (some 64) (bz 10 255) (one_of HT_.out kr_) fun K hK=>?_);(refine gsb Tryz.func82 (spec_l1Number.calls P3 c0 d4 _ e4.out) fun s4 hb=>?_);replace n0:=qbb n0 hb;replace HB:=bs hb;(try clear hb);(try clear r4);(try clear hk);(try clear hi);refine hK.out _ _ ⟨(blk_cell n0.out 0).trans rfl,(blk_cell n0.out 1).trans rfl,(blk_cell n0.out 2).trans rfl⟩ (fun hHeld=>?_);clear hK K;refine nm 64 ?_;refine pur 8 65 (bz 10 511) HT_ ?_;refine pur 9 2 (bz 10 1023) HT_ ?_;refine done_ (done_of HT_.out kr_) ?_
        try go_wp2
        go_ret;exact⟨er,bl⟩
       ·by_cases t4:(a0==4&&(b0==0&&(c0==0)))=true
        ·rw[if_pos t4]at H;have v4:(a0==4&&(b0==0&&(c0==0)))=true:=t4;(try(have w4:decide (a0=4&&(b0==0&&(c0==0)))=true:=by simpa using t4));(try(have x4:(a0==4&&(b0==0&&(c0==0)))=true:=by simpa using t4));clear t4;obtain rfl:=sj H;obtain⟨y4,A4,B4,C4,D4,E4⟩:=qk3 n0;go_wp2;go_ret;exact⟨er,bl⟩
        ·rw[if_neg t4]at H;(have v4:(a0==4&&(b0==0&&(c0==0)))=false:=by simpa using t4);(try(have w4:decide (a0=4&&(b0==0&&(c0==0)))=false:=by simpa using t4));(try(have x4:(a0==4&&(b0==0&&(c0==0)))=false:=by simpa using t4));(try(have G4:¬(a0=4&&(b0==0&&(c0==0))):=by simpa using t4));clear t4;obtain rfl:=sj H;obtain⟨J4,K4,L4,M4,N4,P4⟩:=qk3 n0;go_wp2;go_ret;exact⟨er,bl⟩
mutual
def spec_ReadDeed.j0:Nat→ByteArray→List ByteArray→List (S55)→Option (Int×Int×Int×Bool)
 |0,_,_,_=>none
 |k+1,a0,b0,c0=>if(b0.length:Int)=3 then(if 1<(b0.length:Int)then((spec_l1Digits.f k (rdOf ByteArray.empty b0 1)).bind fun d0=>(if 2<(b0.length:Int)then((spec_l1Digits.f k (rdOf ByteArray.empty b0 2)).bind fun e0=>(if c0.length<5864062014805 then(spec_ReadDeed.j1 k a0 (c0++[(⟨3,d0,e0⟩:S55)]))else(none)))else(none)))else(none))else(spec_ReadDeed.j1 k a0 c0)
def spec_ReadDeed.j1:Nat→ByteArray→List (S55)→Option (Int×Int×Int×Bool)
 |0,_,_=>none
 |k+1,a0,c0=>spec_ReadDeed.l0 k a0 c0 0
def spec_ReadDeed.l0:Nat→ByteArray→List (S55)→Int→Option (Int×Int×Int×Bool)
 |0,_,_,_=>none
 |k+1,a0,c0,g0=>if g0<(c0.length:Int)then(if a0.toList=([]:List UInt8)then(spec_ReadDeed.l0 k a0 c0 (wrap64 (g0+1)))else(if 0≤g0 then((spec_DeedText.f k ((rd_T55 c0 g0).f0) ((rd_T55 c0 g0).f1) ((rd_T55 c0 g0).f2)).bind fun n0=>(if n0.toList=a0.toList then(some ((rd_T55 c0 g0).f0,(rd_T55 c0 g0).f1,(rd_T55 c0 g0).f2,true))else(spec_ReadDeed.l0 k a0 c0 (wrap64 (g0+1)))))else(none)))else(some (0,0,0,false))
end

def spec_ReadDeed.f (k:Nat) (a0:ByteArray):Option (Int×Int×Int×Bool):=(spec_l1Cut.f k a0 32).bind fun b0=>((some (([(⟨2,0,0⟩:S55),(⟨4,0,0⟩:S55)]:List (S55)):List (S55))).bind fun c0=>(if(b0.length:Int)=2 then(if 1<(b0.length:Int)then((spec_l1Digits.f k (rdOf ByteArray.empty b0 1)).bind fun d0=>((spec_l1Digits.f k (rdOf ByteArray.empty b0 1)).bind fun e0=>((some (([(⟨0,d0,0⟩:S55),(⟨1,e0,0⟩:S55)]:List (S55)):List (S55))).bind fun g0=>(if c0.length+g0.length<5864062014805 then(spec_ReadDeed.j0 k a0 b0 (c0++g0))else(none)))))else(none))else(spec_ReadDeed.j0 k a0 b0 c0)))
def spec_ReadDeed.T4:Bool×List (List Nat×List Nat):=(true,[([],[]),([],[]),([1],[1]),([2],[2]),([3],[3]),([4],[4]),([],[]),([6],[6]),([7],[7]),([8,4],[8]),([9],[9]),([5,10],[5,10]),([0,11,9],[0,11]),([12,12,0,1,2,3,4,5,6,7,8,9,10,11,12],[0,12])])
def spec_ReadDeed.B4:List Nat:=[0,0,2,6,14,30,0,64,192,478,990,2046,4095,8191]
theorem spec_ReadDeed.tab4:rtab .any (opsOf Tryz.f41 4)=spec_ReadDeed.T4:=by kernel_rfl
theorem spec_ReadDeed.bits4:waitsOk spec_ReadDeed.T4.2 spec_ReadDeed.B4=true:=by kernel_rfl
def spec_ReadDeed.T6:Bool×List (List Nat×List Nat):=(true,[([],[]),([],[]),([1],[1]),([2],[2]),([3],[3]),([],[]),([5],[5]),([6],[6]),([7,4],[7]),([4,8],[4,8]),([9],[9]),([0,10,8],[0,10]),([11,11,0,1,2,3,4,5,6,7,8,9,10,11],[0,11])])
def spec_ReadDeed.B6:List Nat:=[0,0,2,6,14,0,32,96,254,510,1022,2047,4095]
theorem spec_ReadDeed.tab6:rtab .any (opsOf Tryz.f41 6)=spec_ReadDeed.T6:=by kernel_rfl
theorem spec_ReadDeed.bits6:waitsOk spec_ReadDeed.T6.2 spec_ReadDeed.B6=true:=by kernel_rfl
theorem spec_ReadDeed.calls (k:Nat) (a0:ByteArray) (b0:Int) (c0:Int) (d0:Int) (e0:Bool) (w:World) (h:spec_ReadDeed.f k a0=some (b0,c0,d0,e0)):
  Calls Tryz.prog 41 #[.string a0] w fun e w'=>e= .returned (.tuple #[.agg #[.int .i64 b0,.int .i64 c0,.int .i64 d0],.bool e0])∧Below w.heap.size w w':=by
 have g0:=Tryz.underlying55;have HB:=qa (Below.refl w.heap.size w);have H:=h;unfold spec_ReadDeed.f at H;clear h;replace H:=qb H;obtain⟨n0,p0,H⟩:=H;replace H:=qs H;obtain⟨q0,r0,H⟩:=H;have s0:=qa H;clear H
 go_enter Tryz.func41,Tryz.ntmps41
 go_upto_if 14 with(go_big_may;first|(refine bx 2 #[.int .i64 0,.int .i64 0,.int .i64 0] 55 ?_;intro t0 hg v0 hbox hb;have w0:=qa (hbox);have x0:=gw hg;have y0:=gw hg;replace HB:=bs hb;clear hb hbox hg)|(refine ge_ 8 Tryz.func47 (spec_l1Cut.calls k a0 32 n0 _ p0.out) fun A0 B0 C0 hb=>?_;have D0:=qa (Kd.R_lower C0 (below_size (bl)));replace w0:=qbb w0 hb;replace HB:=bs hb)|((with_reducible refine gate_dst (N:=11) rfl ?_);refine Kd.R_lit k55 _ 55 ?hg (N:=11) ?hd (xs:=([(⟨2,0,0⟩:S55),(⟨4,0,0⟩:S55)]:List (S55))) (inner:=[.int .i64 2,.int .i64 0,.int .i64 0,.int .i64 4,.int .i64 0,.int .i64 0]) (ok:=fun _=>True) (okp:=fun _=>True) ?hr ?hp (fun _ hk=>hk) trivial (Below.refl _ _) (Nat.le_refl _) (by simp) ?_;(case hd=>rfl);(case hg=>rfl);(case hr=>exact gr);(case hp=>exact(Reps.c3 (show Kd.M k55 _ _ _ (⟨2,0,0⟩:S55) [.int .i64 2,.int .i64 0,.int .i64 0]from(k55_mkM _ _ _ (⟨2,0,0⟩:S55))) (Reps.c3 (show Kd.M k55 _ _ _ (⟨4,0,0⟩:S55) [.int .i64 4,.int .i64 0,.int .i64 0]from(k55_mkM _ _ _ (⟨4,0,0⟩:S55))) (Reps.none _ _))));intro E0 G0 J0 hb hg_ hnew_;clear hg_ hnew_;(first|rw[←r0.out]at J0|(simp only[Int.reduceToNat]at J0;rw[←r0.out]at J0));replace D0:=qa (Kd.R_below (kR D0) hb);have K0:=qa (Kd.R_lower (Kd.R_newB J0 (g:=t0) (o:= .cells #[.int .i64 0,.int .i64 0,.int .i64 0] 55 (0,0)) (bk)) (below_size (bl)));replace w0:=qbb w0 hb;replace HB:=bs hb;clear hb J0;obtain⟨L0,M0,rfl⟩:=Kd.R_slice D0.out))
 (try simp only[Act.put,List.setIfInBounds_toArray,List.set_cons_zero,List.set_cons_succ])
 go_cut [5] (fun N0 wc=>∃(kq:Nat) (P0:List (S55)),Aside0 (spec_ReadDeed.j0 kq a0 n0 P0=some (b0,c0,d0,e0))∧Aside0 (kq≤k)∧Aside0 (Kd.R Kd.string 9 wc w.heap.size (fun _=>True) (.slice L0 n0.length M0) n0)∧Aside0 (Kd.R k55 55 wc w.heap.size (fun k_=>k_≠t0) N0 P0)∧Aside0 (wc.heap[t0]? =some (.cells #[.int .i64 0,.int .i64 0,.int .i64 0] 55 (0,0)))∧Aside0 (Below w.heap.size w wc))
 case first=>
  have H:=s0.out;clear s0;replace H:=qq H;obtain⟨Q0,R0,H⟩|⟨U0,Q0,R0,H⟩:=H
  ·(first|rw[Q0]|(simp only[i64_w,i32_w];rw[Q0])|skip);replace H:=qL 1 H;obtain⟨V0,W0,H⟩:=H;replace H:=qb H;obtain⟨X0,Y0,H⟩:=H;replace H:=qb H;obtain⟨a1,b1,H⟩:=H;replace H:=qs H;obtain⟨c1,d1,H⟩:=H;replace H:=qn H;obtain⟨e1,H⟩:=H;have g1:=qa e1;clear e1;obtain⟨l1,hy_⟩:∃y_:List (S55),y_=(q0++c1):=⟨_,rfl⟩;replace H:(spec_ReadDeed.j0 k a0 n0 l1)=some (b0,c0,d0,e0):=yh;have n1:=qa hy_;clear hy_;have H':=qa H;clear H
   try go_wp2
   replace D0:=qa (Kd.R_drew D0.out);replace K0:=qa (Kd.R_drew K0.out);replace w0:=qa (blk_drew w0.out);replace HB:=qa (below_drew1 HB.out);have p1:0≤(1:Int):=ko_;have q1:1<(n0.length:Int):=qo;obtain⟨r1,s1,t1⟩:=Kd.at_string (Kd.R_reads' D0.out).2.2 1 p1 q1;cases s1;(try simp only[show(1:Int).toNat =1 from rfl,Nat.reduceMul,Nat.reduceEqDiff,Go.Addr.add,↓reduceIte]at t1);have qi563:(1<n0.length)=True:=eq_true ko_;(try rw[show((1:Int)).toNat =1 from rfl]at t1);replace p1:=eq_true p1;replace q1:=eq_true q1;have v1:0≤(1:Int):=ko_;have w1:1<(n0.length:Int):=qo;obtain⟨x1,y1,A1⟩:=Kd.at_string (Kd.R_reads' D0.out).2.2 1 v1 w1;obtain rfl:r1=x1:=(by injection y1);(try simp only[show(1:Int).toNat =1 from rfl,Nat.reduceMul,Nat.reduceEqDiff,Go.Addr.add,↓reduceIte]at A1);have qi565:(1<n0.length)=True:=eq_true ko_;(try rw[show((1:Int)).toNat =1 from rfl]at A1);replace v1:=eq_true v1;replace w1:=eq_true w1;refine start_ (n:=14) (S:=fun w'=>w'.cell? ⟨r1.block,r1.off+1,none⟩=some (.string (rdOf ByteArray.empty n0 1))∧w'.cell? ⟨r1.block,r1.off+1,none⟩=some (.string (rdOf ByteArray.empty n0 1))) (ds:=[12]) _ kr_ rfl rfl ⟨t1,A1⟩ (fun hHeld=>?_);refine with_tabW spec_ReadDeed.tab4 spec_ReadDeed.bits4 (fun HT_ HW_=>?_);generalize G0.drew=B1 at D0 K0 w0 HB t1 A1 hHeld ⊢;refine pur 0 15 (bz 14 1) HT_ ?_;refine pur 1 16 (bz 14 3) HT_ ?_;refine pur 2 17 (bz 14 7) HT_ ?_;refine pur 6 21 (bz 14 71) HT_ ?_;refine pur 7 22 (bz 14 199) HT_ ?_;refine tk 3 18 (bz 14 207) hHeld (take_ofW HT_.out HW_.out kr_) ?_;refine tk 8 23 (bz 14 463) hHeld (take_ofW HT_.out HW_.out kr_) ?_;(refine o1 4 (some 19) (bz 14 479) (one_of HT_.out kr_) fun K hK=>?_);(refine gsd Tryz.func48 (spec_l1Digits.calls k (rdOf ByteArray.empty n0 1) X0 _ Y0.out) fun nd=>?_);refine hK.out _ _ ⟨hHeld.1,hHeld.2⟩ (fun hHeld=>?_);clear hK K;refine nm 19 ?_;refine pur 5 20 (bz 14 511) HT_ ?_;(refine o1 9 (some 24) (bz 14 1023) (one_of HT_.out kr_) fun K hK=>?_);(refine gsd Tryz.func48 (spec_l1Digits.calls k (rdOf ByteArray.empty n0 1) a1 _ b1.out) fun nd=>?_);refine hK.out _ _ ⟨hHeld.1,hHeld.2⟩ (fun hHeld=>?_);clear hK K;refine nm 24 ?_;refine pur 10 25 (bz 14 2047) HT_ ?_;(refine o1 11 (some 26) (bz 14 4095) (one_of HT_.out kr_) fun K hK=>?_);refine Kd.R_lit_step k55 _ 55 ?hg (N:=26) ?hd (xs:=([(⟨0,X0,0⟩:S55),(⟨1,a1,0⟩:S55)]:List (S55))) (inner:=[.int .i64 0,.int .i64 X0,.int .i64 0,.int .i64 1,.int .i64 a1,.int .i64 0]) (ok:=fun _=>True) (okp:=fun _=>True) ?hr ?hp (fun _ hk=>hk) trivial (Below.refl _ _) (Nat.le_refl _) (by simp) ?_;(case hd=>rfl);(case hg=>rfl);(case hr=>exact gr);(case hp=>exact(Reps.c3 (show Kd.M k55 _ _ _ (⟨0,X0,0⟩:S55) [.int .i64 0,.int .i64 X0,.int .i64 0]from(k55_mkM _ _ _ (⟨0,X0,0⟩:S55))) (Reps.c3 (show Kd.M k55 _ _ _ (⟨1,a1,0⟩:S55) [.int .i64 1,.int .i64 a1,.int .i64 0]from(k55_mkM _ _ _ (⟨1,a1,0⟩:S55))) (Reps.none _ _))));intro C1 D1 E1 hb hg_ hnew_;have HS0_:=(hb.cell (World.block_lt_of_cell? _ _ (hHeld.1))).trans (hHeld.1);have HS1_:=(hb.cell (World.block_lt_of_cell? _ _ (hHeld.2))).trans (hHeld.2);clear hg_ hnew_;(first|rw[←d1.out]at E1|(simp only[Int.reduceToNat]at E1;rw[←d1.out]at E1));replace D0:=qa (Kd.R_below (kR D0) hb);have G1:=qa (Kd.R_lower (Kd.R_newB (Kd.R_new' E1 (Kd.R_lt (kR K0))) (g:=t0) (o:= .cells #[.int .i64 0,.int .i64 0,.int .i64 0] 55 (0,0)) (bk)) (below_size (bl)));replace K0:=qa (Kd.R_elder' (kR K0) (Kd.R_base E1) hb);replace w0:=qbb w0 hb;replace HB:=bs hb;clear hb E1;obtain⟨J1,K1,L1⟩:=Kd.R_slice G1.out;(first|subst L1|(injection L1 with f1_ f2_ f3_;have f4_:=f1_.symm;have f5_:=f3_.symm;clear f1_ f2_ f3_;subst f4_;subst f5_));refine hK.out _ _ ⟨HS0_,HS1_⟩ (fun hHeld=>?_);clear hK K;refine nm 26 ?_;refine last_ (i:=12) (N:=some 27) (bz 14 8191) rfl rfl (one_of HT_.out kr_) kd_ (fun K hK=>?_);refine Kd.R_append_rows_step k55 (w0:=w) w.heap.size (by rfl) (.tmp 15) (.tmp 26) 47 55 (.agg #[(.int .i64 0),(.int .i64 0),(.int .i64 0)]) 24 rfl Tryz.underlying47 info55 rfl kd_ ko_ E0 q0 c1 _ _ _ (fun k_=>some k_≠(.slice J1 c1.length K1:Value).ownBlock ∧k_≠t0) (fun _=>False) rfl rfl ?aO ?aR (fun _ _ h=>h) (fun _ h=>h.elim) ?aF ?aB ?aS ?aL ?_;(case aR=>exact cx (Kd.R_reads' G1.out).2.2);(case aB=>exact(bl));(case aF=>exact(fun k_ hk=>⟨Kd.fresh' (Kd.R_lt (kR G1)) k_ hk,Kd.freshB (g:=t0) (o:= .cells #[.int .i64 0,.int .i64 0,.int .i64 0] 55 (0,0)) (bk) k_ hk⟩));(case aO=>exact(by(with_reducible repeat(first|apply Kd.R_alloc|apply Kd.R_drewN|apply Kd.R_drew));exact Kd.R_mono K0.out (fun _ hk=>⟨hk.2,hk.1.2⟩)));(case aS=>exact(below_size (bl)));(case aL=>have:=g1.out;omega);intro M1 N1 ho hb hg hat;rw[←n1.out]at ho;replace w0:=qa (blk_grown (g:=t0) (o:= .cells #[.int .i64 0,.int .i64 0,.int .i64 0] 55 (0,0)) (bk) hg (Kd.R_away K0.out (fun _ hk=>hk.1.2)));replace D0:=qa (Kd.R_over' (kR D0) (Kd.R_typed (kR K0)) kd_ hg);replace G1:=qa (Kd.R_after (ok:=(fun k_=>k_≠t0)) (by(with_reducible repeat(first|apply Kd.R_alloc|apply Kd.R_drewN|apply Kd.R_drew));exact Kd.R_mono G1.out (fun _ hk=>⟨hk.2,hk.1.2⟩)) hg hat);replace HB:=qa (hb);have P1:=qa (ho);clear K0;clear ho hb hg hat;refine hK.out _ _ ?_;clear hK K;refine nm 27 ?_;refine pur 13 5 (bz 14 16383) HT_ ?_;refine done_ (done_of HT_.out kr_) ?_
   try go_wp2
   go_meet
   case rel=>exact⟨_,(l1),H',⟨by first|omega|exact Nat.le_refl _⟩,⟨kR D0⟩,⟨by(with_reducible repeat(first|apply Kd.R_alloc|apply Kd.R_drewN|apply Kd.R_drew));exact Kd.R_mono P1.out (fun _ hk=>hk.2)⟩,⟨bk⟩,⟨bl⟩⟩
  ·(first|rw[Q0]|(simp only[i64_w,i32_w];rw[Q0])|skip);have H':=qa H;clear H;go_wp2;go_meet
   case rel=>exact⟨_,(q0),H',⟨by first|omega|exact Nat.le_refl _⟩,⟨kR D0⟩,⟨by(with_reducible repeat(first|apply Kd.R_alloc|apply Kd.R_drewN|apply Kd.R_drew));exact Kd.R_mono K0.out (fun _ hk=>hk.2)⟩,⟨bk⟩,⟨bl⟩⟩
 case rest=>
  clear s0;obtain⟨kq,P0,HA,Q1,R1,U1,w0,HB⟩:=hcut;obtain⟨V1,rfl,H⟩:=kz kq HA;clear HA;simp only[spec_ReadDeed.j0]at H;have W1:=qa H;clear H
  go_upto_if 30 with(fail)
  go_cut [5] (fun N0 wc=>∃(kq:Nat) (X1:List (S55)),Aside0 (spec_ReadDeed.j1 kq a0 X1=some (b0,c0,d0,e0))∧Aside0 (kq≤V1)∧Aside0 (Kd.R k55 55 wc w.heap.size (fun k_=>k_≠t0) N0 X1)∧Aside0 (wc.heap[t0]? =some (.cells #[.int .i64 0,.int .i64 0,.int .i64 0] 55 (0,0)))∧Aside0 (Below w.heap.size w wc))
  case first=>
   have H:=W1.out;clear W1;replace H:=qq H;obtain⟨Y1,a2,H⟩|⟨b2,Y1,a2,H⟩:=H
   ·(first|rw[Y1]|(simp only[i64_w,i32_w];rw[Y1])|skip);replace H:=qL 1 H;obtain⟨c2,d2,H⟩:=H;replace H:=qb H;obtain⟨e2,g2,H⟩:=H;replace H:=qL 2 H;obtain⟨j2,l2,H⟩:=H;replace H:=qb H;obtain⟨n2,p2,H⟩:=H;replace H:=qn H;obtain⟨q2,H⟩:=H;have r2:=qa q2;clear q2;obtain⟨s2,hy_⟩:∃y_:List (S55),y_=(P0++[(⟨3,e2,n2⟩:S55)]):=⟨_,rfl⟩;replace H:(spec_ReadDeed.j1 V1 a0 s2)=some (b0,c0,d0,e0):=yh;have t2:=qa hy_;clear hy_;have H':=qa H;clear H
    try go_wp2
    replace R1:=qa (Kd.R_drew R1.out);replace U1:=qa (Kd.R_drew U1.out);replace w0:=qa (blk_drew w0.out);replace HB:=qa (below_drew1 HB.out);have v2:0≤(1:Int):=ko_;have w2:1<(n0.length:Int):=qo;obtain⟨x2,y2,A2⟩:=Kd.at_string (Kd.R_reads' R1.out).2.2 1 v2 w2;cases y2;(try simp only[show(1:Int).toNat =1 from rfl,Nat.reduceMul,Nat.reduceEqDiff,Go.Addr.add,↓reduceIte]at A2);have qi573:(1<n0.length)=True:=eq_true ko_;(try rw[show((1:Int)).toNat =1 from rfl]at A2);replace v2:=eq_true v2;replace w2:=eq_true w2;have B2:0≤(2:Int):=ko_;have C2:2<(n0.length:Int):=qo;obtain⟨D2,E2,G2⟩:=Kd.at_string (Kd.R_reads' R1.out).2.2 2 B2 C2;obtain rfl:x2=D2:=(by injection E2);(try simp only[show(2:Int).toNat =2 from rfl,Nat.reduceMul,Nat.reduceEqDiff,Go.Addr.add,↓reduceIte]at G2);have qi575:(2<n0.length)=True:=eq_true ko_;(try rw[show((2:Int)).toNat =2 from rfl]at G2);replace B2:=eq_true B2;replace C2:=eq_true C2;refine start_ (n:=13) (S:=fun w'=>w'.cell? ⟨x2.block,x2.off+1,none⟩=some (.string (rdOf ByteArray.empty n0 1))∧w'.cell? ⟨x2.block,x2.off+2,none⟩=some (.string (rdOf ByteArray.empty n0 2))) (ds:=[10,11]) _ kr_ rfl rfl ⟨A2,G2⟩ (fun hHeld=>?_);refine with_tabW spec_ReadDeed.tab6 spec_ReadDeed.bits6 (fun HT_ HW_=>?_);generalize wc.drew=J2 at R1 U1 w0 HB A2 G2 hHeld ⊢;refine pur 0 31 (bz 13 1) HT_ ?_;refine pur 1 32 (bz 13 3) HT_ ?_;refine pur 2 33 (bz 13 7) HT_ ?_;refine pur 5 36 (bz 13 39) HT_ ?_;refine pur 6 37 (bz 13 103) HT_ ?_;refine tk 3 34 (bz 13 111) hHeld (take_ofW HT_.out HW_.out kr_) ?_;refine tk 7 38 (bz 13 239) hHeld (take_ofW HT_.out HW_.out kr_) ?_;(refine o1 4 (some 35) (bz 13 255) (one_of HT_.out kr_) fun K hK=>?_);(refine gsd Tryz.func48 (spec_l1Digits.calls V1 (rdOf ByteArray.empty n0 1) e2 _ g2.out) fun nd=>?_);refine hK.out _ _ ⟨hHeld.1,hHeld.2⟩ (fun hHeld=>?_);clear hK K;refine nm 35 ?_;(refine o1 8 (some 39) (bz 13 511) (one_of HT_.out kr_) fun K hK=>?_);(refine gsd Tryz.func48 (spec_l1Digits.calls V1 (rdOf ByteArray.empty n0 2) n2 _ p2.out) fun nd=>?_);refine hK.out _ _ ⟨hHeld.1,hHeld.2⟩ (fun hHeld=>?_);clear hK K;refine nm 39 ?_;refine pur 9 40 (bz 13 1023) HT_ ?_;refine last_ (i:=10) (N:=some 41) (bz 13 2047) rfl rfl (one_of HT_.out kr_) kd_ (fun K hK=>?_);refine value_ (w1:=?_) (v:=?_) (by rfl) rfl ?_ ?_;rotate_left 2
    ·go_simp
     constructor
     ·rfl
     ·rfl
    refine hK.out _ _ ?_;clear hK K;refine nm 41 ?_;refine last_ (i:=11) (N:=some 42) (bz 13 4095) rfl rfl (one_of HT_.out kr_) kd_ (fun K hK=>?_);refine Kd.R_append_step k55 (w0:=w) w.heap.size (by rfl) (.tmp 31) (.tmp 41) 47 55 (.agg #[(.int .i64 0),(.int .i64 0),(.int .i64 0)]) 24 rfl Tryz.underlying47 info55 rfl kd_ ko_ u5 P0 (⟨3,e2,n2⟩:S55) [.int .i64 3,.int .i64 e2,.int .i64 n2] (fun k_=>k_≠t0) (fun _=>False) rfl rfl ?aP (fun _ hk=>hk.elim) ?aF ?aO ?aB ?aS ?aL ?_;(case aP=>exact k55_mkM _ _ _ (⟨3,e2,n2⟩:S55));(case aB=>exact(bl));(case aF=>exact(fun k_ hk=>Kd.freshB (g:=t0) (o:= .cells #[.int .i64 0,.int .i64 0,.int .i64 0] 55 (0,0)) (bk) k_ hk));(case aO=>exact(kR U1));(case aS=>exact(below_size (bl)));(case aL=>have:=r2.out;omega);intro K2 L2 ho hb hg hat;rw[←t2.out]at ho;replace R1:=qa (Kd.R_over' (kR R1) (Kd.R_typed (kR U1)) kd_ hg);replace w0:=qa (blk_grown (g:=t0) (o:= .cells #[.int .i64 0,.int .i64 0,.int .i64 0] 55 (0,0)) (bk) hg (Kd.R_away U1.out (fun _ hk=>hk)));replace HB:=qa (hb);have M2:=qa (ho);clear U1;clear ho hb hg hat;refine hK.out _ _ ?_;clear hK K;refine nm 42 ?_;refine pur 12 5 (bz 13 8191) HT_ ?_;refine done_ (done_of HT_.out kr_) ?_
    try go_wp2
    go_meet
    case rel=>exact⟨_,(s2),H',⟨by have:=Q1.out;first|omega|exact Nat.le_refl _⟩,⟨kR M2⟩,⟨bk⟩,⟨bl⟩⟩
   ·(first|rw[Y1]|(simp only[i64_w,i32_w];rw[Y1])|skip);have H':=qa H;clear H;go_wp2;go_meet
    case rel=>exact⟨_,(P0),H',⟨by have:=Q1.out;first|omega|exact Nat.le_refl _⟩,⟨kR U1⟩,⟨bk⟩,⟨bl⟩⟩
  case rest=>
   clear W1;obtain⟨kq,X1,HA,N2,U1,w0,HB⟩:=hcut;obtain⟨P2,rfl,H⟩:=kz kq HA;clear HA;simp only[spec_ReadDeed.j1]at H;have H':=qa H;clear H;go_wp2
   go_loopg [6] P2 (fun kq Q2 w'=>∃(R2:Int) (U2:Int) (V2:Int) (W2:Int),Q2= .int .i64 R2∧Aside0 (spec_ReadDeed.l0 kq a0 X1 R2=some (b0,c0,d0,e0))∧Aside0 (kq≤P2)∧Aside0 (Kd.R k55 55 w' w.heap.size (fun k_=>k_≠t0) u5 X1)∧Aside0 (w'.heap[t0]? =some (.cells #[.int .i64 U2,.int .i64 V2,.int .i64 W2] 55 (0,0)))∧Aside0 (Below w.heap.size w w'))
   case atStart=>exact⟨(0),(0),(0),(0),(sd),H',⟨Nat.le_refl _⟩,⟨kR U1⟩,⟨bk⟩,⟨bl⟩⟩
   case round=>
    clear H';obtain⟨R2,U2,V2,W2,rfl,HA,HK3,U1,w0,HB⟩:=hrel;obtain⟨k3,rfl,H⟩:=kz gk HA;clear HA;simp only[spec_ReadDeed.l0]at H;replace H:=qe H;obtain⟨X2,H⟩|⟨X2,H⟩:=H
    ·replace H:=qq H;obtain⟨Y2,a3,H⟩|⟨b3,Y2,a3,H⟩:=H
     ·have H':=qa H;clear H;obtain⟨d3,e3,rfl⟩:=Kd.R_slice U1.out;go_wp2
      go_roundg k3
      case measure=>have:=Q1.out;have:=N2.out;have:=HK3.out;omega
      case rel=>exact⟨(wrap64 (R2+1)),(U2),(V2),(W2),(sd),H',⟨by have:=Q1.out;have:=N2.out;have:=HK3.out;omega⟩,⟨kR U1⟩,⟨bk⟩,⟨bl⟩⟩
     ·replace H:=qd H;obtain⟨g3,H⟩:=H;replace H:=qb H;obtain⟨j3,l3,H⟩:=H;replace H:=qq H;obtain⟨n3,p3,H⟩|⟨q3,n3,p3,H⟩:=H
      ·simp only[Option.some.injEq,Prod.mk.injEq]at H;obtain⟨rfl,rfl,rfl,rfl⟩:=H;obtain⟨r3,s3,rfl⟩:=Kd.R_slice U1.out;have t3:0≤(R2:Int):=qo;have v3:R2<(X1.length:Int):=qo;obtain⟨w3,x3,y3,A3,B3⟩:=at_T55 (Kd.R_reads' U1.out).2.2 R2 t3 v3;cases x3;replace t3:=eq_true t3;replace v3:=eq_true v3
       go_wp2_with(first|(go_at_call 79;(with_reducible refine(spec_DeedText.calls k3 ((rd_T55 X1 R2).f0) ((rd_T55 X1 R2).f1) ((rd_T55 X1 R2).f2) j3 _ l3.out).mono ?_);rintro e C3 ⟨rfl,hb⟩;replace U1:=qa (Kd.R_below (kR U1) hb);replace w0:=qbb w0 hb;replace HB:=bs hb;have D3:0≤(R2:Int):=qo;have E3:R2<(X1.length:Int):=qo;obtain⟨G3,J3,K3,L3,M3⟩:=at_T55 (Kd.R_reads' U1.out).2.2 R2 D3 E3;obtain rfl:w3=G3:=(by injection J3);replace D3:=eq_true D3;replace E3:=eq_true E3;obtain⟨N3,P3,Q3,R3,U3,V3⟩:=qk3 w0))
       refine bodyPost_ret (results_ct rfl _ _ t0 55 #[.int .i64 ((rd_T55 X1 R2).f0),.int .i64 ((rd_T55 X1 R2).f1),.int .i64 ((rd_T55 X1 R2).f2)] (0,0) _ rfl (kP w0) Tryz.underlying55 rfl kr_) rfl ?_;exact⟨er,bl⟩
      ·have H':=qa H;clear H;obtain⟨W3,X3,rfl⟩:=Kd.R_slice U1.out;have t3:0≤(R2:Int):=qo;have v3:R2<(X1.length:Int):=qo;obtain⟨w3,x3,y3,A3,B3⟩:=at_T55 (Kd.R_reads' U1.out).2.2 R2 t3 v3;cases x3;replace t3:=eq_true t3;replace v3:=eq_true v3
       go_wp2_with(first|(go_at_call 79;(with_reducible refine(spec_DeedText.calls k3 ((rd_T55 X1 R2).f0) ((rd_T55 X1 R2).f1) ((rd_T55 X1 R2).f2) j3 _ l3.out).mono ?_);rintro e Y3 ⟨rfl,hb⟩;replace U1:=qa (Kd.R_below (kR U1) hb);replace w0:=qbb w0 hb;replace HB:=bs hb))
       go_roundg k3
       case measure=>have:=Q1.out;have:=N2.out;have:=HK3.out;omega
       case rel=>exact⟨(wrap64 (R2+1)),(U2),(V2),(W2),(sd),H',⟨by have:=Q1.out;have:=N2.out;have:=HK3.out;omega⟩,⟨kR U1⟩,⟨bk⟩,⟨bl⟩⟩
    ·simp only[Option.some.injEq,Prod.mk.injEq]at H;obtain⟨rfl,rfl,rfl,rfl⟩:=H;obtain⟨a4,b4,rfl⟩:=Kd.R_slice U1.out;obtain⟨c4,d4,e4,g4,j4,l4⟩:=qk3 w0;go_wp2;refine bodyPost_ret (results_ct rfl _ _ t0 55 #[.int .i64 0,.int .i64 0,.int .i64 0] (0,0) _ rfl (kP w0) Tryz.underlying55 rfl kr_) rfl ?_;exact⟨er,bl⟩
mutual
def spec_l2Times.l0:Nat→List Int→List Int→List Int→Int→Option (List Int)
 |0,_,_,_,_=>none
 |k+1,a0,b0,c0,d0=>if d0≤24 then(spec_l2Times.l1 k a0 b0 c0 d0 1)else(some c0)
def spec_l2Times.l1:Nat→List Int→List Int→List Int→Int→Int→Option (List Int)
 |0,_,_,_,_,_=>none
 |k+1,a0,b0,c0,d0,e0=>if(wrap64 (d0*e0))≤24 then(if 0≤(wrap64 ((wrap64 (d0*e0))-1))then(if(wrap64 ((wrap64 (d0*e0))-1))<(c0.length:Int)then(if 0≤(wrap64 (d0-1))then(if(wrap64 (d0-1))<(a0.length:Int)then(if 0≤(wrap64 (e0-1))then(if(wrap64 (e0-1))<(b0.length:Int)then(spec_l2Times.l1 k a0 b0 (c0.set ((wrap64 ((wrap64 (d0*e0))-1)):Int).toNat (wrap64 ((rd c0 (wrap64 ((wrap64 (d0*e0))-1)))+(wrap64 ((rd a0 (wrap64 (d0-1)))*(rd b0 (wrap64 (e0-1)))))))) d0 (wrap64 (e0+1)))else(none))else(none))else(none))else(none))else(none))else(none))else(spec_l2Times.l0 k a0 b0 c0 (wrap64 (d0+1)))
end

def spec_l2Times.f (k:Nat) (a0:List Int) (b0:List Int):Option (List Int):=if 24≤35184372088832 then(spec_l2Times.l0 k a0 b0 (List.replicate 24 0) 1)else(none)
theorem spec_l2Times.mono_l:∀k,(∀a0 b0 c0 d0,LeO (spec_l2Times.l0 k a0 b0 c0 d0) (spec_l2Times.l0 (k+1) a0 b0 c0 d0))∧(∀a0 b0 c0 d0 e0,LeO (spec_l2Times.l1 k a0 b0 c0 d0 e0) (spec_l2Times.l1 (k+1) a0 b0 c0 d0 e0))
 |0=>⟨fun _ _ _ _ r h=>by simp[spec_l2Times.l0]at h,fun _ _ _ _ _ r h=>by simp[spec_l2Times.l1]at h⟩
 |k+1=>by
  obtain⟨ih0,ih1⟩:=spec_l2Times.mono_l k;refine⟨?_,?_⟩
  ·intro a0 b0 c0 d0;unfold spec_l2Times.l0;exact mz
  ·intro a0 b0 c0 d0 e0;unfold spec_l2Times.l1;exact mz
theorem spec_l2Times.mono:∀a0 b0 k,LeO (spec_l2Times.f k a0 b0) (spec_l2Times.f (k+1) a0 b0):=by
 intro a0 b0 k;obtain⟨ih0,ih1⟩:=spec_l2Times.mono_l k;unfold spec_l2Times.f;exact mz
def spec_l2Times.T8:Bool×List (List Nat×List Nat):=(true,[([],[]),([],[]),([],[]),([1,2],[1,2]),([3],[3]),([],[]),([],[]),([],[]),([6,7],[6,7]),([8],[8]),([5,9],[5,9]),([10],[10]),([],[]),([],[]),([13],[13]),([12,14],[12,14]),([15],[15]),([],[]),([],[]),([18],[18]),([17,19],[17,19]),([20],[20]),([16,21],[16,21]),([11,22],[11,22]),([0,4,0,1,2,3,4,5,6,7,8,9,10,11,12,13,14,15,16,17,18,19,20,21,22,23],[0,4]),([24,23,0,1,2,3,4,5,6,7,8,9,10,11,12,13,14,15,16,17,18,19,20,21,22,23],[23,24])])
def spec_l2Times.B8:List Nat:=[0,0,0,6,14,0,0,0,192,448,992,2016,0,0,8192,28672,61440,0,0,262144,917504,1966080,4190208,8388576,16777215,33554431]
theorem spec_l2Times.tab8:rtab .any (opsOf Tryz.f151 8)=spec_l2Times.T8:=by kernel_rfl
theorem spec_l2Times.bits8:waitsOk spec_l2Times.T8.2 spec_l2Times.B8=true:=by kernel_rfl
theorem spec_l2Times.calls (k:Nat) (a0:Option Addr) (b0:Nat) (c0:List Int) (d0:Option Addr) (e0:Nat) (g0:List Int) (r:List Int) (w:World) (j0:Kd.C (Kd.int .i64) w a0 c0.length c0) (n0:c0.length≤b0) (p0:Kd.C (Kd.int .i64) w d0 g0.length g0) (q0:g0.length≤e0) (h:spec_l2Times.f k c0 g0=some r):
  Calls Tryz.prog 151 #[.slice a0 c0.length b0,.slice d0 g0.length e0] w fun e w'=>∃v0_:Value,e= .returned (v0_)∧Kd.R (Kd.int .i64) 3 w' w.heap.size (fun _=>True) v0_ r∧Below w.heap.size w w':=by
 have r0:=qa j0;have s0:=qa n0;clear j0 n0;have t0:=qa p0;have v0:=qa q0;clear p0 q0;have HB:=qa (Below.refl w.heap.size w);have H:=h;unfold spec_l2Times.f at H;clear h
 by_cases w0:24≤35184372088832
 ·rw[if_pos w0]at H;have x0:=eq_true w0;have y0:decide (24≤35184372088832)=true:=decide_eq_true w0;clear w0;obtain⟨A0,hy_⟩:∃y_:List Int,y_=(List.replicate 24 0):=⟨_,rfl⟩;replace H:(spec_l2Times.l0 k c0 g0 A0 1)=some r:=yh;have B0:=qa hy_;clear hy_;have H':=qa H;clear H
  go_enter Tryz.func151,Tryz.ntmps151
  go_wp2_with(first|((with_reducible refine gate_dst (N:=8) rfl ?_);refine Kd.R_make (Kd.int .i64) _ 3 rfl (N:=8) rfl 22 _ _ rfl 24 rfl rfl Tryz.underlying22 (.int .i64 0) 8 info3 rfl kd_ ko_ 0 (ok:=fun _=>True) (okp:=fun _=>True) rfl (fun _ hk=>hk) trivial ko_ ko_ (Below.refl _ _) (Nat.le_refl _) ?_;intro C0 D0 E0 hb hg_ hnew_;clear hg_ hnew_;(first|rw[←B0.out]at E0|(simp only[Int.reduceToNat]at E0;rw[←B0.out]at E0));have G0:=qa (Kd.R_lower E0 (below_size (bl)));replace HB:=bs hb;clear hb E0))
  go_loopg [6] k (fun kq J0 w'=>∃(K0:List Int) (L0:Int),J0= .int .i64 L0∧Aside0 (spec_l2Times.l0 kq c0 g0 K0 L0=some r)∧Aside0 (kq≤k)∧Aside0 (Kd.R (Kd.int .i64) 3 w' w.heap.size (fun _=>True) C0 K0)∧Aside0 (Below w.heap.size w w'))
  case atStart=>exact⟨(A0),(1),(sd),H',⟨Nat.le_refl _⟩,⟨kR G0⟩,⟨bl⟩⟩
  case round=>
   clear H';obtain⟨K0,L0,rfl,HA,HK1,M0,HB⟩:=hrel;obtain⟨k1,rfl,H⟩:=kz gk HA;clear HA;simp only[spec_l2Times.l0]at H;replace H:=qe H;obtain⟨N0,H⟩|⟨N0,H⟩:=H
   ·have H':=qa H;clear H;go_wp2
    go_loopg [7] k1 (fun kq P0 w'=>∃(Q0:List Int) (R0:Int),P0= .int .i64 R0∧Aside0 (spec_l2Times.l1 kq c0 g0 Q0 L0 R0=some r)∧Aside0 (kq≤k1)∧Aside0 (Kd.R (Kd.int .i64) 3 w' w.heap.size (fun _=>True) C0 Q0)∧Aside0 (Below w.heap.size w w'))
    case atStart=>exact⟨(K0),(1),(sd),H',⟨Nat.le_refl _⟩,⟨kR M0⟩,⟨bl⟩⟩
    case round=>
     clear H';obtain⟨Q0,R0,rfl,HA,HK2,M0,HB⟩:=hrel;obtain⟨k2,rfl,H⟩:=kz gk HA;clear HA;simp only[spec_l2Times.l1]at H;replace H:=qe H;obtain⟨U0,H⟩|⟨U0,H⟩:=H
     ·obtain⟨V0,W0⟩:∃j_:Int,(wrap64 ((wrap64 (L0*R0))-1))=j_:=⟨_,rfl⟩;(first|rw[W0]at H|(try simp only[W0]at H));have X0:(IntKind.i64.wrap ((wrap64 (L0*R0))-1))=V0:=(i64_w _).trans W0;replace H:=qd H;obtain⟨Y0,H⟩:=H;replace H:=qd H;obtain⟨a1,H⟩:=H;obtain⟨b1,c1⟩:∃j_:Int,(wrap64 (L0-1))=j_:=⟨_,rfl⟩;(first|rw[c1]at H|(try simp only[c1]at H));have d1:(IntKind.i64.wrap (L0-1))=b1:=(i64_w _).trans c1;replace H:=qd H;obtain⟨e1,H⟩:=H;replace H:=qd H;obtain⟨g1,H⟩:=H;obtain⟨j1,n1⟩:∃j_:Int,(wrap64 (R0-1))=j_:=⟨_,rfl⟩;(first|rw[n1]at H|(try simp only[n1]at H));have p1:(IntKind.i64.wrap (R0-1))=j1:=(i64_w _).trans n1;replace H:=qd H;obtain⟨q1,H⟩:=H;replace H:=qd H;obtain⟨r1,H⟩:=H;obtain⟨s1,hy_⟩:∃y_:List Int,y_=(Q0.set ((V0):Int).toNat (wrap64 ((rd Q0 (V0))+(wrap64 ((rd c0 (b1))*(rd g0 (j1))))))):=⟨_,rfl⟩;replace H:(spec_l2Times.l1 k2 c0 g0 s1 L0 (wrap64 (R0+1)))=some r:=yh;have t1:=qa hy_;clear hy_;have H':=qa H;clear H
      try go_wp2
      replace M0:=qa (Kd.R_drew M0.out);replace HB:=qa (below_drew1 HB.out);obtain⟨v1,w1,x1⟩:=Kd.R_slice M0.out;(first|subst x1|(injection x1 with f1_ f2_ f3_;have f4_:=f1_.symm;have f5_:=f3_.symm;clear f1_ f2_ f3_;subst f4_;subst f5_));obtain⟨y1,⟨⟩,A1,B1,C1⟩:=ai (Kd.R_reads' M0.out).2.2 (V0);have D1:0≤((b1):Int):=qo;have E1:(b1)<(c0.length:Int):=qo;obtain⟨G1,J1,K1⟩:=Kd.at_int r0.out (b1) D1 E1;have L1:=K1;cases J1;(try replace K1:=(HB.out.cell (World.block_lt_of_cell? w _ K1)).trans K1);replace D1:=eq_true D1;replace E1:=eq_true E1;have M1:0≤((j1):Int):=qo;have N1:(j1)<(g0.length:Int):=qo;obtain⟨P1,Q1,R1⟩:=Kd.at_int t0.out (j1) M1 N1;have U1:=R1;cases Q1;(try replace R1:=(HB.out.cell (World.block_lt_of_cell? w _ R1)).trans R1);replace M1:=eq_true M1;replace N1:=eq_true N1;have V1:0≤((V0):Int):=qo;have W1:((V0):Int)<((Q0.length:Int):Int):=qo;obtain⟨X1,Y1,a2,b2,gl17,cl17,HG17⟩:=Kd.R_form M0.out ko_;(first|cases a2|(injection a2 with ea_ en_ ec_;(first|subst ea_|(injection ea_ with ea_;subst ea_));subst ec_;clear en_));have GB17:=qa b2;have GG17:=qa HG17;clear b2 gl17 HG17;(first|simp only[add_plain]at A1|skip);obtain⟨c2,d2⟩:=Kd.R_celln 0 M0.out ((V0):Int) V1 W1;replace V1:=eq_true V1;replace W1:=eq_true W1;have HP20:=Kd.R_putn M0.out ((V0):Int) (wrap64 ((rd Q0 (V0))+(wrap64 ((rd c0 (b1))*(rd g0 (j1))))));rw[←t1.out]at HP20;have HQ20:=qa HP20;clear HP20;refine start_ (n:=26) (S:=fun w'=>w'.cell? ⟨X1,((V0)).toNat,none⟩=some (.int .i64 (rd Q0 (V0)))∧w'.cell? (G1.add ((b1)).toNat)=some (.int .i64 (rd c0 (b1)))∧w'.cell? (P1.add ((j1)).toNat)=some (.int .i64 (rd g0 (j1)))) (ds:=[25]) _ kr_ rfl rfl ⟨A1,((HB.out.cell (World.block_lt_of_cell? w _ L1)).trans L1),((HB.out.cell (World.block_lt_of_cell? w _ U1)).trans U1)⟩ (fun hHeld=>?_);refine with_tabW spec_l2Times.tab8 spec_l2Times.bits8 (fun HT_ HW_=>?_);generalize wr.drew=e2 at M0 HB GG17 HQ20 d2 c2 A1 K1 R1 hHeld ⊢;refine pur 0 19 (bz 26 1) HT_ ?_;refine pur 1 20 (bz 26 3) HT_ ?_;refine pur 2 21 (bz 26 7) HT_ ?_;refine pur 3 22 (bz 26 15) HT_ ?_;refine pur 4 23 (bz 26 31) HT_ ?_;refine pur 5 24 (bz 26 63) HT_ ?_;refine pur 6 25 (bz 26 127) HT_ ?_;refine pur 7 26 (bz 26 255) HT_ ?_;refine pur 8 27 (bz 26 511) HT_ ?_;refine pur 9 28 (bz 26 1023) HT_ ?_;refine pur 10 29 (bz 26 2047) HT_ ?_;refine pur 12 31 (bz 26 6143) HT_ ?_;refine pur 13 32 (bz 26 14335) HT_ ?_;refine pur 14 33 (bz 26 30719) HT_ ?_;refine pur 15 34 (bz 26 63487) HT_ ?_;refine pur 17 36 (bz 26 194559) HT_ ?_;refine pur 18 37 (bz 26 456703) HT_ ?_;refine pur 19 38 (bz 26 980991) HT_ ?_;refine pur 20 39 (bz 26 2029567) HT_ ?_;refine tk 11 30 (bz 26 2031615) hHeld (take_ofW HT_.out HW_.out kr_) ?_;refine tk 16 35 (bz 26 2097151) hHeld (take_ofW HT_.out HW_.out kr_) ?_;refine tk 21 40 (bz 26 4194303) hHeld (take_ofW HT_.out HW_.out kr_) ?_;refine pur 22 41 (bz 26 8388607) HT_ ?_;refine pur 23 42 (bz 26 16777215) HT_ ?_;refine pur 24 43 (bz 26 33554431) HT_ ?_;refine last_ (i:=25) (N:=none) (bz 26 67108863) rfl rfl (one_of HT_.out kr_) kd_ (fun K hK=>?_);refine skip_ (w1:=?_) (by rfl) rfl ?_ ?_;rotate_left
      ·go_simp
       rfl
      refine hK.out _ _ ?_;clear hK K;refine done_ (done_of HT_.out kr_) ?_
      try go_wp2
      go_roundg k2
      case measure=>have:=HK1.out;have:=HK2.out;omega
      case rel=>exact⟨(s1),(wrap64 (R0+1)),(sd),H',⟨by have:=HK1.out;have:=HK2.out;omega⟩,⟨by(with_reducible repeat(first|apply Kd.R_alloc|apply Kd.R_drewN|apply Kd.R_drew));exact HQ20.out⟩,⟨by repeat(first|(with_reducible first|exact HB.out|apply below_alloc|apply pw_below_drewN|apply below_drew1|refine below_set ?_ GB17.out)|exact HB.out)⟩⟩
     ·have H':=qa H;clear H;go_wp2
      go_roundg k2
      case measure=>have:=HK1.out;have:=HK2.out;omega
      case rel=>exact⟨(Q0),(wrap64 (L0+1)),(sd),H',⟨by have:=HK1.out;have:=HK2.out;omega⟩,⟨kR M0⟩,⟨bl⟩⟩
   ·obtain rfl:=sj H;go_wp2;go_ret;exact⟨_,er,kR M0,bl⟩
 ·rw[if_neg w0]at H;exact absurd H (by simp)

mutual
def spec_TimesOf.j0:Nat→List Int→List Int→Bool→Option (List Int×Bool)
 |0,_,_,_=>none
 |k+1,a0,b0,c0=>if c0=true then(some ((([]:List Int)),false))else(spec_TimesOf.l0 k a0 b0 0)
def spec_TimesOf.l0:Nat→List Int→List Int→Int→Option (List Int×Bool)
 |0,_,_,_=>none
 |k+1,a0,b0,d0=>if d0<24 then(if 0≤d0 then(if d0<(a0.length:Int)then((spec_l1In.f (rd a0 d0) (-10000) 10000).bind fun e0=>(if e0=true then(if d0<(b0.length:Int)then((spec_l1In.f (rd b0 d0) (-10000) 10000).bind fun g0=>(if g0=true then(spec_TimesOf.l0 k a0 b0 (wrap64 (d0+1)))else(some ((([]:List Int)),false))))else(none))else(some ((([]:List Int)),false))))else(none))else(none))else((spec_l2Times.f k a0 b0).bind fun n0=>(some (n0,true)))
end

def spec_TimesOf.f (k:Nat) (a0:List Int) (b0:List Int):Option (List Int×Bool):=(spec_RowOk.f k a0).bind fun c0=>(if c0=true then((spec_RowOk.f k b0).bind fun d0=>(spec_TimesOf.j0 k a0 b0 (!d0)))else(spec_TimesOf.j0 k a0 b0 true))
theorem spec_TimesOf.mono_l:∀k,(∀a0 b0 c0,LeO (spec_TimesOf.j0 k a0 b0 c0) (spec_TimesOf.j0 (k+1) a0 b0 c0))∧(∀a0 b0 c0,LeO (spec_TimesOf.l0 k a0 b0 c0) (spec_TimesOf.l0 (k+1) a0 b0 c0))
 |0=>⟨fun _ _ _ r h=>by simp[spec_TimesOf.j0]at h,fun _ _ _ r h=>by simp[spec_TimesOf.l0]at h⟩
 |k+1=>by
  obtain⟨ih0,ih1⟩:=spec_TimesOf.mono_l k;refine⟨?_,?_⟩
  ·intro a0 b0 c0;unfold spec_TimesOf.j0;have m0:= @spec_RowOk.mono;have m1:= @spec_l2Times.mono;exact mz
  ·intro a0 b0 c0;unfold spec_TimesOf.l0;have m0:= @spec_RowOk.mono;have m1:= @spec_l2Times.mono;exact mz
theorem spec_TimesOf.mono:∀a0 b0 k,LeO (spec_TimesOf.f k a0 b0) (spec_TimesOf.f (k+1) a0 b0):=by
 intro a0 b0 k;obtain⟨ih0,ih1⟩:=spec_TimesOf.mono_l k;unfold spec_TimesOf.f;have m0:= @spec_RowOk.mono;have m1:= @spec_l2Times.mono;exact mz
theorem spec_TimesOf.calls (k:Nat) (a0:Option Addr) (b0:Nat) (c0:List Int) (d0:Option Addr) (e0:Nat) (g0:List Int) (n0:List Int) (p0:Bool) (w:World) (q0:Kd.C (Kd.int .i64) w a0 c0.length c0) (r0:c0.length≤b0) (s0:Kd.C (Kd.int .i64) w d0 g0.length g0) (t0:g0.length≤e0) (h:spec_TimesOf.f k c0 g0=some (n0,p0)):
  Calls Tryz.prog 121 #[.slice a0 c0.length b0,.slice d0 g0.length e0] w fun e w'=>∃v0_:Value,e= .returned (.tuple #[v0_,.bool p0])∧Kd.R (Kd.int .i64) 3 w' w.heap.size (fun _=>True) v0_ n0∧Below w.heap.size w w':=by
 have v0:=qa q0;have w0:=qa r0;clear q0 r0;have x0:=qa s0;have y0:=qa t0;clear s0 t0;have HB:=qa (Below.refl w.heap.size w);have H:=h;unfold spec_TimesOf.f at H;clear h;have A0:=qa H;clear H
 go_enter Tryz.func121,Tryz.ntmps121
 go_upto_region 1 with(fail)
 go_cut [14] (fun B0 wc=>∃(kq:Nat) (C0:Bool),B0= .bool C0∧Aside0 (spec_TimesOf.j0 kq c0 g0 C0=some (n0,p0))∧Aside0 (kq≤k)∧Aside0 (Below w.heap.size w wc))
 case first=>
  have H:=A0.out;clear A0;replace H:=qb H;obtain⟨D0,E0,H⟩:=H;replace H:=qc H;obtain⟨rfl,H⟩|⟨rfl,H⟩:=H
  ·replace H:=qb H;obtain⟨G0,J0,H⟩:=H;have H':=qa H;clear H
   go_wp2_with(first|(refine gd 8 Tryz.func69 (spec_RowOk.calls k _ _ c0 true _ (cx (Kd.C_below v0.out HB.out)) w0.out E0.out) fun nd=>?_)|(go_at_call 69;(with_reducible refine(spec_RowOk.calls k _ _ g0 G0 _ ?K0 ?L0 J0.out).mono ?_);(case K0=>exact cx (Kd.C_below x0.out (bl)));(case L0=>exact y0.out);rintro e w' ⟨rfl,⟨nd,rfl⟩⟩))
   go_meet
   case rel=>exact⟨_,(!G0),(sd),H',⟨by first|omega|exact Nat.le_refl _⟩,⟨bl⟩⟩
  ·have H':=qa H;clear H
   go_wp2_with(first|(refine gd 8 Tryz.func69 (spec_RowOk.calls k _ _ c0 false _ (cx (Kd.C_below v0.out HB.out)) w0.out E0.out) fun nd=>?_))
   go_meet
   case rel=>exact⟨_,(true),(sd),H',⟨by first|omega|exact Nat.le_refl _⟩,⟨bl⟩⟩
 case rest=>
  clear A0;obtain⟨kq,C0,rfl,HA,M0,HB⟩:=hcut;obtain⟨N0,rfl,H⟩:=kz kq HA;clear HA;simp only[spec_TimesOf.j0]at H;replace H:=qc H;obtain⟨rfl,H⟩|⟨rfl,H⟩:=H
  ·obtain⟨P0,hy_⟩:∃y_:List Int,y_=(([]:List Int)):=⟨_,rfl⟩;replace H:(some (P0,false))=some (n0,p0):=yh;have Q0:=qa hy_;clear hy_;simp only[Option.some.injEq,Prod.mk.injEq]at H;obtain⟨rfl,rfl⟩:=H
   go_wp2_with(first|(refine rli .i64 3 15 Q0.out fun R0 U0 V0 hb=>?_;have W0:=qa (Kd.R_lower V0 (below_size (bl)));replace HB:=bs hb;clear hb V0))
   go_ret2;exact⟨_,er,kR W0,bl⟩
  ·have H':=qa H;clear H;go_wp2
   go_loopg [6] N0 (fun kq X0 w'=>∃(Y0:Int),X0= .int .i64 Y0∧Aside0 (spec_TimesOf.l0 kq c0 g0 Y0=some (n0,p0))∧Aside0 (kq≤N0)∧Aside0 (Below w.heap.size w w'))
   case atStart=>exact⟨(0),(sd),H',⟨Nat.le_refl _⟩,⟨bl⟩⟩
   case round=>
    clear H';obtain⟨Y0,rfl,HA,HK2,HB⟩:=hrel;obtain⟨k2,rfl,H⟩:=kz gk HA;clear HA;simp only[spec_TimesOf.l0]at H;replace H:=qe H;obtain⟨a1,H⟩|⟨a1,H⟩:=H
    ·replace H:=qd H;obtain⟨b1,H⟩:=H;replace H:=qd H;obtain⟨c1,H⟩:=H;replace H:=qb H;obtain⟨d1,e1,H⟩:=H;replace H:=qc H;obtain⟨rfl,H⟩|⟨rfl,H⟩:=H
     ·replace H:=qd H;obtain⟨g1,H⟩:=H;replace H:=qb H;obtain⟨j1,l1,H⟩:=H;replace H:=qc H;obtain⟨rfl,H⟩|⟨rfl,H⟩:=H
      ·have H':=qa H;clear H;obtain⟨n1,⟨⟩,p1,q1,r1⟩:=ai v0.out Y0;(try replace p1:=(HB.out.cell (World.block_lt_of_cell? w _ p1)).trans p1)
       go_wp2_with(first|(refine gd 24 Tryz.func84 (spec_l1In.calls (rd c0 Y0) (-10000) 10000 true _ e1.out) fun nd=>?_;obtain⟨s1,⟨⟩,t1,v1,w1⟩:=ai x0.out Y0;replace t1:=(HB.out.cell (World.block_lt_of_cell? w _ t1)).trans t1)|(go_at_call 84;(with_reducible refine gm (spec_l1In.calls (rd g0 Y0) (-10000) 10000 true _ l1.out) fun nd=>?_)))
       go_roundg k2
       case measure=>have:=M0.out;have:=HK2.out;omega
       case rel=>exact⟨(wrap64 (Y0+1)),(sd),H',⟨by have:=M0.out;have:=HK2.out;omega⟩,⟨bl⟩⟩
      ·obtain⟨x1,hy_⟩:∃y_:List Int,y_=(([]:List Int)):=⟨_,rfl⟩;replace H:(some (x1,false))=some (n0,p0):=yh;have y1:=qa hy_;clear hy_;simp only[Option.some.injEq,Prod.mk.injEq]at H;obtain⟨rfl,rfl⟩:=H;obtain⟨n1,⟨⟩,p1,q1,r1⟩:=ai v0.out Y0;(try replace p1:=(HB.out.cell (World.block_lt_of_cell? w _ p1)).trans p1)
       go_wp2_with(first|(refine gd 24 Tryz.func84 (spec_l1In.calls (rd c0 Y0) (-10000) 10000 true _ e1.out) fun nd=>?_;obtain⟨s1,⟨⟩,t1,v1,w1⟩:=ai x0.out Y0;replace t1:=(HB.out.cell (World.block_lt_of_cell? w _ t1)).trans t1)|(go_at_call 84;(with_reducible refine gm (spec_l1In.calls (rd g0 Y0) (-10000) 10000 false _ l1.out) fun nd=>?_))|(refine rli .i64 3 34 y1.out fun A1 B1 C1 hb=>?_;have D1:=qa (Kd.R_lower C1 (below_size (bl)));replace HB:=bs hb;clear hb C1))
       go_ret2;exact⟨_,er,kR D1,bl⟩
     ·obtain⟨E1,hy_⟩:∃y_:List Int,y_=(([]:List Int)):=⟨_,rfl⟩;replace H:(some (E1,false))=some (n0,p0):=yh;have G1:=qa hy_;clear hy_;simp only[Option.some.injEq,Prod.mk.injEq]at H;obtain⟨rfl,rfl⟩:=H;obtain⟨n1,⟨⟩,p1,q1,r1⟩:=ai v0.out Y0;(try replace p1:=(HB.out.cell (World.block_lt_of_cell? w _ p1)).trans p1)
      go_wp2_with(first|(refine gd 24 Tryz.func84 (spec_l1In.calls (rd c0 Y0) (-10000) 10000 false _ e1.out) fun nd=>?_)|(refine rli .i64 3 34 G1.out fun J1 K1 L1 hb=>?_;have M1:=qa (Kd.R_lower L1 (below_size (bl)));replace HB:=bs hb;clear hb L1))
      go_ret2;exact⟨_,er,kR M1,bl⟩
    ·replace H:=qb H;obtain⟨N1,P1,H⟩:=H;simp only[Option.some.injEq,Prod.mk.injEq]at H;obtain⟨rfl,rfl⟩:=H
     go_wp2_with(first|(refine ge_ 37 Tryz.func151 (spec_l2Times.calls k2 _ _ c0 _ _ g0 N1 _ (cx (Kd.C_below v0.out HB.out)) w0.out (cx (Kd.C_below x0.out HB.out)) y0.out P1.out) fun Q1 R1 U1 hb=>?_;have V1:=qa (Kd.R_lower U1 (below_size (bl)));replace HB:=bs hb))
     go_ret2;exact⟨_,er,kR V1,bl⟩
end Go.Proofs.YtdmlkjjlgkdnlaaGreatDoor.PFnExactDeskSay
