import Derived.Test.YtdmlkjjlgkdnlaaGreatDoorPFnDeskSayx13
namespace Go.Proofs.YtdmlkjjlgkdnlaaGreatDoor.PFnDeskSay
open Go.RowKit Go.Proofs.YtdmlkjjlgkdnlaaGreatDoorW.PrintWords Go.Proofs.YtdmlkjjlgkdnlaaGreatDoorW.PrintLast Go.Proofs.YtdmlkjjlgkdnlaaGreatDoorW.PrintMore
attribute [local go_sem] Iz Ix Jy Jx Hy Hx Iy Iw
set_option linter.unusedVariables false
set_option linter.unusedSimpArgs false
set_option maxHeartbeats 8000000
set_option maxRecDepth 100000
mutual
def Az.j0:Nat->LI->BA->Int->Bool->Option (BA)
 |0,_,_,_,_=>none
 |k+1,a0,b0,c0,d0=>if d0=true then(some (⟨#[119,104,97,116]⟩:BA))else((Bk.f c0).bind fun e0=>(if e0=true then(if b0.toList=([97,116]:List UInt8)then(Az.j1 k a0 b0 c0 (decide (c0>24)))else(Az.j1 k a0 b0 c0 false))else(Az.j1 k a0 b0 c0 true)))
def Az.j1:Nat->LI->BA->Int->Bool->Option (BA)
 |0,_,_,_,_=>none
 |k+1,a0,b0,c0,g0=>if g0=true then(some (⟨#[110,111,110,101]⟩:BA))else(if b0.toList=([97,116]:List UInt8)then(if 0<=(wrap64 (c0-1))then(if(wrap64 (c0-1))<(a0.length:Int)then((Ce.f (rd a0 (wrap64 (c0-1)))).bind fun l0=>(some l0))else(none))else(none))else(if b0.toList=([112,114,105,109,101,115]:List UInt8)then((Dq.f k c0).bind fun n0=>(some n0))else(if b0.toList=([100,105,118,105,115,111,114,115]:List UInt8)then((As.f k c0).bind fun p0=>((Ea.f k p0).bind fun q0=>(some q0)))else(if b0.toList=([119,97,121]:List UInt8)then((Et.f k c0).bind fun r0=>((Ea.f k r0).bind fun s0=>(some s0)))else(if b0.toList=([115,117,109]:List UInt8)then((Ek.f k c0).bind fun t0=>((Ce.f t0).bind fun v0=>(some v0)))else(if b0.toList=([107,105,110,100]:List UInt8)then((some (([(⟨#[112,111,111,114]⟩:BA),(⟨#[112,101,114,102,101,99,116]⟩:BA),(⟨#[114,105,99,104]⟩:BA)]:LB):LB)).bind fun w0=>((Im.f k c0).bind fun x0=>(if 0<=(wrap64 (x0+1))then(if(wrap64 (x0+1))<(w0.length:Int)then(some (rdOf ByteArray.empty w0 (wrap64 (x0+1))))else(none))else(none))))else(if b0.toList=([97,112,97,114,116]:List UInt8)then((Fi.f k c0).bind fun y0=>((Ce.f y0).bind fun A0=>(some A0)))else((Ew.f k c0).bind fun B0=>((Ce.f B0).bind fun C0=>(some C0))))))))))
end

def Az.f (k:Nat) (a0:LI) (b0:BA):Option (BA):=if b0.toList=([102,105,114,115,116]:List UInt8)then(if 8<=(a0.length:Int)then((Ea.f k (a0.take 8)).bind fun c0=>(some c0))else(none))else(if b0.toList=([109,117,108,116,105,112,108,105,99,97,116,105,118,101]:List UInt8)then((Gf.f k a0).bind fun d0=>((impl_yes.f d0).bind fun e0=>(some e0)))else(if b0.toList=([102,117,108,108]:List UInt8)then((Jh.f k a0).bind fun g0=>((impl_yes.f g0).bind fun l0=>(some l0)))else((Jr.f b0 (⟨#[32]⟩:BA)).bind fun n0=>((Cf.f n0.2.1).bind fun p0=>((Cp.f k (([(⟨#[97,116]⟩:BA),(⟨#[112,114,105,109,101,115]⟩:BA),(⟨#[100,105,118,105,115,111,114,115]⟩:BA),(⟨#[119,97,121]⟩:BA),(⟨#[115,117,109]⟩:BA),(⟨#[107,105,110,100]⟩:BA),(⟨#[97,112,97,114,116]⟩:BA),(⟨#[115,113,117,97,114,101,115]⟩:BA)]:LB)) n0.1).bind fun q0=>(if q0=true then(if p0.2.isNone=true then(if p0.1<0 then(Az.j0 k a0 n0.1 p0.1 true)else(if(n0.2.1.size:Int)>5 then(Az.j0 k a0 n0.1 p0.1 true)else((Ce.f p0.1).bind fun r0=>(Az.j0 k a0 n0.1 p0.1 (r0.toList != n0.2.1.toList)))))else(Az.j0 k a0 n0.1 p0.1 true))else(Az.j0 k a0 n0.1 p0.1 true)))))))
theorem Az.c (k:Nat) (a0:OA) (b0:Nat) (c0:LI) (d0:BA) (r:BA) (w:World) (e0:Kd.C ki w a0 c0.length c0) (g0:c0.length<=b0) (h:Az.f k c0 d0=some r) (hG_:GL w):
  Calls Tryz.prog 55 #[.slice a0 c0.length b0,.string d0] w fun e w'=>e= .returned (.string r)/\Below w.heap.size w w':=by
 have l0:=Tryz.underlying98;have n0:=qa e0;have p0:=qa g0;clear e0 g0;have HB:=qa (Below.refl w.heap.size w);have H:=h;unfold Az.f at H;clear h;replace H:=qq H;obtain⟨q0,r0,H⟩|⟨s0,q0,r0,H⟩:=H
 .replace H:=qn H;obtain⟨t0,H⟩:=H;have v0:=eq_true t0;have w0:decide (8<=(c0.length:Int))=true:=decide_eq_true t0;clear t0;replace H:=qb H;obtain⟨x0,y0,H⟩:=H;obtain rfl:=sj H;obtain⟨i06,A0,_,B0,_⟩:=info_parts Je;obtain⟨C0,hA6,hC6⟩:=print_take_of (P:=Tryz.prog) (Value.int .i64) 0 22 3 .i64 Tryz.underlying22 A0 B0 a0 b0 c0 8 ko_ (qo) p0.out;have D0:=qa (Kd.C_of_reads (h1:=fun _=>rfl) (hA6 _ (Kd.reads_of_C n0.out)));have E0:=qa hC6;clear hA6 hC6 A0 B0
  go_enter Tryz.func55,Tryz.ntmps55
  go_wp2_with(first|((with_reducible refine gate_callee (f:=102) rfl ?_);refine goesL_ (some 15) rfl rfl Tryz.func102 kr_ rfl #[.slice a0 (c0.take 8).length b0] rfl z14_ ?_;(with_reducible refine(Ea.c k _ _ (c0.take 8) x0 _ ?G0 ?J0 y0.out ?K0).mono ?_);(case G0=>exact cx D0.out);(case J0=>exact E0.out);(case K0=>exact Ed hG_ (bl));rintro e L0 ⟨rfl,hb⟩;refine⟨_,rfl,?_⟩;replace HB:=bs hb))
  go_ret;exact⟨er,bl⟩
 .replace H:=qq H;obtain⟨M0,N0,H⟩|⟨P0,M0,N0,H⟩:=H
  .replace H:=qb H;obtain⟨Q0,R0,H⟩:=H;replace H:=qb H;obtain⟨U0,V0,H⟩:=H;obtain rfl:=sj H
   go_enter Tryz.func55,Tryz.ntmps55
   go_wp2_with(first|(refine gd 19 Tryz.func104 (Gf.c k _ _ c0 Q0 _ (cx n0.out) p0.out R0.out) fun nd=>?_)|(refine gd 20 Tryz.func103 (impl_yes.calls Q0 U0 _ V0.out) fun nd=>?_))
   go_ret;exact⟨er,bl⟩
  .replace H:=qq H;obtain⟨W0,X0,H⟩|⟨Y0,W0,X0,H⟩:=H
   .replace H:=qb H;obtain⟨a1,b1,H⟩:=H;replace H:=qb H;obtain⟨c1,d1,H⟩:=H;obtain rfl:=sj H
    go_enter Tryz.func55,Tryz.ntmps55
    go_wp2_with(first|(refine gd 24 Tryz.func105 (Jh.c k _ _ c0 a1 _ (cx n0.out) p0.out b1.out) fun nd=>?_)|(refine gd 25 Tryz.func103 (impl_yes.calls a1 c1 _ d1.out) fun nd=>?_))
    go_ret;exact⟨er,bl⟩
   .replace H:=qb H;obtain⟨⟨e1,g1,l1⟩,n1,H⟩:=H;(try dsimp only at H);replace H:=qb H;obtain⟨⟨p1,q1⟩,r1,H⟩:=H;(try dsimp only at H);have s1:=qa H;clear H
    go_enter Tryz.func55,Tryz.ntmps55
    go_upto_region 10 with(go_big_may;first|(refine gb 28 Tryz.func75 (Jr.c d0 (⟨#[32]⟩:BA) e1 g1 l1 _ n1.out (Ed hG_ (bl))) fun t1 hb=>?_;replace HB:=bs hb)|(refine gol (some 34) Tryz.func94 #[.string g1] ?_;(with_reducible refine(Cf.c g1 p1 q1 _ r1.out ?G0).mono ?_);(case G0=>exact Ed hG_ (bl));rintro e v1 ⟨ev_,hev_,rfl,hb⟩;refine⟨_,rfl,?_⟩;replace HB:=bs hb;(try simp only[Ca,Bz])))
    (try simp only[Act.put,sA,sZ,sS])
    go_cut [59] (fun w1 wc=>∃(kq:Nat) (x1:Bool),w1= .bool x1/\Aside0 (Az.j0 kq c0 e1 p1 x1=some r)/\Aside0 (kq<=k)/\Aside0 (Below w.heap.size w wc))
    case first=>
     have H:=s1.out;clear s1;obtain⟨y1,hy_⟩:∃y_:LB,y_=(([(⟨#[97,116]⟩:BA),(⟨#[112,114,105,109,101,115]⟩:BA),(⟨#[100,105,118,105,115,111,114,115]⟩:BA),(⟨#[119,97,121]⟩:BA),(⟨#[115,117,109]⟩:BA),(⟨#[107,105,110,100]⟩:BA),(⟨#[97,112,97,114,116]⟩:BA),(⟨#[115,113,117,97,114,101,115]⟩:BA)]:LB)):=⟨_,rfl⟩;replace H:((Cp.f k y1 e1).bind fun A1=>(if A1=true then(if q1.isNone=true then(if p1<0 then(Az.j0 k c0 e1 p1 true)else(if(g1.size:Int)>5 then(Az.j0 k c0 e1 p1 true)else((Ce.f p1).bind fun B1=>(Az.j0 k c0 e1 p1 (B1.toList != g1.toList)))))else(Az.j0 k c0 e1 p1 true))else(Az.j0 k c0 e1 p1 true)))=some r:=yh;have C1:=qa hy_;clear hy_;replace H:=qb H;obtain⟨A1,D1,H⟩:=H;replace H:=qc H;obtain⟨rfl,H⟩|⟨rfl,H⟩:=H
     .rcases q1 with _|E1
      .obtain rfl:=ev0_ hev_;(have H1:(if p1<0 then(Az.j0 k c0 e1 p1 true)else(if(g1.size:Int)>5 then(Az.j0 k c0 e1 p1 true)else((Ce.f p1).bind fun B1=>(Az.j0 k c0 e1 p1 (B1.toList != g1.toList)))))=some r:=by rw[if_pos (show(none:Option Int).isNone =true by rfl)]at H;exact H);clear H;have H:=H1;clear H1
       try simp only[Ca,Bz]
       replace H:=qe H;obtain⟨G1,H⟩|⟨G1,H⟩:=H
       ·(first|rw[G1]|(simp only[Bv,Fc];rw[G1])|skip);have H':=qa H;clear H
        go_wp2_with(first|(refine rls 9 37 C1.out fun J1 K1 L1 hb=>?_;have M1:=lR L1;replace HB:=bs hb;clear hb L1;obtain⟨N1,P1,rfl⟩:=Kd.An M1.out)|(refine gd 39 Tryz.func106 (Cp.c k _ _ y1 e1 true _ (cx (Kd.Ab M1.out).2.2) ((Kd.Ab M1.out).2.1) D1.out) fun nd=>?_))
        go_meet
        case rel=>exact⟨_,(true),(sd),H',⟨by first|omega|exact Nat.le_refl _⟩,⟨bl⟩⟩
       ·(first|rw[G1]|(simp only[Bv,Fc];rw[G1])|skip)
        by_cases Q1:(g1.size:Int)>5
        .rw[if_pos Q1]at H;have R1:decide (5<(g1.size:Int))=true:=decide_eq_true Q1;have U1:decide (5<g1.size)=true:=decide_eq_true ko_;clear Q1;have H':=qa H;clear H
         go_wp2_with(first|(refine rls 9 37 C1.out fun J1 V1 W1 hb=>?_;have M1:=lR W1;replace HB:=bs hb;clear hb W1;obtain⟨X1,Y1,rfl⟩:=Kd.An M1.out)|(refine gd 39 Tryz.func106 (Cp.c k _ _ y1 e1 true _ (cx (Kd.Ab M1.out).2.2) ((Kd.Ab M1.out).2.1) D1.out) fun nd=>?_))
         go_meet
         case rel=>exact⟨_,(true),(sd),H',⟨by first|omega|exact Nat.le_refl _⟩,⟨bl⟩⟩
        .rw[if_neg Q1]at H;have R1:decide (5<(g1.size:Int))=false:=decide_eq_false Q1;have U1:decide (5<g1.size)=false:=decide_eq_false ko_;clear Q1;replace H:=qb H;obtain⟨B1,a2,H⟩:=H;have H':=qa H;clear H
         go_wp2_with(first|(refine rls 9 37 C1.out fun J1 b2 c2 hb=>?_;have M1:=lR c2;replace HB:=bs hb;clear hb c2;obtain⟨d2,e2,rfl⟩:=Kd.An M1.out)|(refine gd 39 Tryz.func106 (Cp.c k _ _ y1 e1 true _ (cx (Kd.Ab M1.out).2.2) ((Kd.Ab M1.out).2.1) D1.out) fun nd=>?_)|(go_at_call 77;(with_reducible refine(Ce.c p1 B1 _ a2.out ?G0).mono ?_);(case G0=>exact Ed hG_ (bl));rintro e g2 ⟨rfl,hb⟩;replace M1:=bR M1 hb;replace HB:=bs hb))
         go_meet
         case rel=>exact⟨_,((B1.toList != g1.toList)),(sd),H',⟨by first|omega|exact Nat.le_refl _⟩,⟨bl⟩⟩
      .obtain⟨te_,pe_,rfl⟩:=ev1_ hev_;(have H1:(Az.j0 k c0 e1 p1 true)=some r:=by rw[if_neg (show ¬(some E1).isNone =true by simp)]at H;exact H);clear H;have H:=H1;clear H1
       try simp only[Ca,Bz]
       have H':=qa H;clear H
       go_wp2_with(first|(refine rls 9 37 C1.out fun J1 j2 l2 hb=>?_;have M1:=lR l2;replace HB:=bs hb;clear hb l2;obtain⟨n2,p2,rfl⟩:=Kd.An M1.out)|(refine gd 39 Tryz.func106 (Cp.c k _ _ y1 e1 true _ (cx (Kd.Ab M1.out).2.2) ((Kd.Ab M1.out).2.1) D1.out) fun nd=>?_))
       go_meet
       case rel=>exact⟨_,(true),(sd),H',⟨by first|omega|exact Nat.le_refl _⟩,⟨bl⟩⟩
     .have H':=qa H;clear H
      go_wp2_with(first|(refine rls 9 37 C1.out fun J1 q2 r2 hb=>?_;have M1:=lR r2;replace HB:=bs hb;clear hb r2;obtain⟨s2,t2,rfl⟩:=Kd.An M1.out)|(refine gd 39 Tryz.func106 (Cp.c k _ _ y1 e1 false _ (cx (Kd.Ab M1.out).2.2) ((Kd.Ab M1.out).2.1) D1.out) fun nd=>?_))
      go_meet
      case rel=>exact⟨_,(true),(sd),H',⟨by first|omega|exact Nat.le_refl _⟩,⟨bl⟩⟩
    case rest=>
     clear s1;obtain⟨kq,x1,rfl,HA,v2,HB⟩:=hcut;obtain⟨w2,rfl,H⟩:=kz kq HA;clear HA;simp only[Az.j0]at H;replace H:=qc H;obtain⟨rfl,H⟩|⟨rfl,H⟩:=H
     .obtain rfl:=sj H;go_wp2;go_ret;exact⟨er,bl⟩
     .have x2:=qa H;clear H
      go_upto_region 12 with(fail)
      go_cut [70] (fun y2 wc=>∃(kq:Nat) (A2:Bool),y2= .bool A2/\Aside0 (Az.j1 kq c0 e1 p1 A2=some r)/\Aside0 (kq<=w2)/\Aside0 (Below w.heap.size w wc))
      case first=>
       have H:=x2.out;clear x2;replace H:=qb H;obtain⟨B2,C2,H⟩:=H;replace H:=qc H;obtain⟨rfl,H⟩|⟨rfl,H⟩:=H
       .replace H:=qq H;obtain⟨D2,E2,H⟩|⟨G2,D2,E2,H⟩:=H
        ·(first|rw[D2]|(simp only[Bv,Fc];rw[D2])|skip);have H':=qa H;clear H
         go_wp2_with(first|(refine gd 61 Tryz.func107 (Bk.c p1 true _ C2.out) fun nd=>?_))
         go_meet
         case rel=>exact⟨_,(decide (p1>24)),(sd),H',⟨by have:=v2.out;first|omega|exact Nat.le_refl _⟩,⟨bl⟩⟩
        ·(first|rw[D2]|(simp only[Bv,Fc];rw[D2])|skip);have H':=qa H;clear H
         go_wp2_with(first|(refine gd 61 Tryz.func107 (Bk.c p1 true _ C2.out) fun nd=>?_))
         go_meet
         case rel=>exact⟨_,(false),(sd),H',⟨by have:=v2.out;first|omega|exact Nat.le_refl _⟩,⟨bl⟩⟩
       .have H':=qa H;clear H
        go_wp2_with(first|(refine gd 61 Tryz.func107 (Bk.c p1 false _ C2.out) fun nd=>?_))
        go_meet
        case rel=>exact⟨_,(true),(sd),H',⟨by have:=v2.out;first|omega|exact Nat.le_refl _⟩,⟨bl⟩⟩
      case rest=>
       clear x2;obtain⟨kq,A2,rfl,HA,J2,HB⟩:=hcut;obtain⟨K2,rfl,H⟩:=kz kq HA;clear HA;simp only[Az.j1]at H;replace H:=qc H;obtain⟨rfl,H⟩|⟨rfl,H⟩:=H
       .obtain rfl:=sj H;go_wp2;go_ret;exact⟨er,bl⟩
       .replace H:=qq H;obtain⟨L2,M2,H⟩|⟨N2,L2,M2,H⟩:=H
        .obtain⟨P2,Q2⟩:∃j_:Int,(wrap64 (p1-1))=j_:=⟨_,rfl⟩;(first|rw[Q2]at H|(try simp only[Q2]at H));have R2:(IntKind.i64.wrap (p1-1))=P2:=(Bv _).trans Q2;replace H:=qd H;obtain⟨U2,H⟩:=H;replace H:=qd H;obtain⟨V2,H⟩:=H;replace H:=qb H;obtain⟨W2,X2,H⟩:=H;obtain rfl:=sj H;obtain⟨Y2,⟨⟩,a3,b3,c3⟩:=ai n0.out (P2);(try replace a3:=(HB.out.cell (World.block_lt_of_cell? w _ a3)).trans a3)
         go_wp2_with(first|((with_reducible refine gate_callee (f:=77) rfl ?_);refine goesL_ (some 79) rfl rfl Tryz.func77 kr_ rfl #[.int .i64 (rd c0 (P2))] rfl (by(try simp only[List.map_toArray,List.map_cons,List.map_nil]);first|done|(simp only[Q2];rfl)|rfl|(simp only[List.length_drop,List.length_take];rfl)) ?_;(with_reducible refine(Ce.c (rd c0 (P2)) W2 _ X2.out ?G0).mono ?_);(case G0=>exact Ed hG_ (bl));rintro e d3 ⟨rfl,hb⟩;refine⟨_,rfl,?_⟩;replace HB:=bs hb))
         go_ret;exact⟨by first|rfl|(simp[Ca,Bz];exact⟨rfl,rfl⟩)|(simp[Ca,Bz] <;> rfl)|(simp only[<-Q2];first|rfl|(simp[Ca,Bz] <;> rfl))|(simp[*,Ca,Bz] <;> rfl),bl⟩
        .replace H:=qq H;obtain⟨e3,g3,H⟩|⟨j3,e3,g3,H⟩:=H
         .replace H:=qb H;obtain⟨l3,n3,H⟩:=H;obtain rfl:=sj H
          go_wp2_with(first|(refine gb 83 Tryz.func108 (Dq.c K2 p1 l3 _ n3.out (Ed hG_ (bl))) fun p3 hb=>?_;replace HB:=bs hb))
          go_ret;exact⟨er,bl⟩
         .replace H:=qq H;obtain⟨q3,r3,H⟩|⟨s3,q3,r3,H⟩:=H
          .replace H:=qb H;obtain⟨t3,v3,H⟩:=H;replace H:=qb H;obtain⟨w3,x3,H⟩:=H;obtain rfl:=sj H
           go_wp2_with(first|(refine ge_ 87 Tryz.func109 (As.c K2 p1 t3 _ v3.out) fun y3 A3 B3 hb=>?_;have C3:=lR B3;replace HB:=bs hb;obtain⟨D3,E3,rfl⟩:=Kd.An C3.out)|(refine gb 88 Tryz.func102 (Ea.c K2 _ _ t3 w3 _ (cx (Kd.Ab C3.out).2.2) ((Kd.Ab C3.out).2.1) x3.out (Ed hG_ (bl))) fun G3 hb=>?_;replace C3:=bR C3 hb;replace HB:=bs hb))
           go_ret;exact⟨er,bl⟩
          .replace H:=qq H;obtain⟨J3,K3,H⟩|⟨L3,J3,K3,H⟩:=H
           .replace H:=qb H;obtain⟨M3,N3,H⟩:=H;replace H:=qb H;obtain⟨P3,Q3,H⟩:=H;obtain rfl:=sj H
            go_wp2_with(first|(refine ge_ 92 Tryz.func110 (Et.c K2 p1 M3 _ N3.out) fun R3 U3 B3 hb=>?_;have V3:=lR B3;replace HB:=bs hb;obtain⟨W3,X3,rfl⟩:=Kd.An V3.out)|(refine gb 93 Tryz.func102 (Ea.c K2 _ _ M3 P3 _ (cx (Kd.Ab V3.out).2.2) ((Kd.Ab V3.out).2.1) Q3.out (Ed hG_ (bl))) fun Y3 hb=>?_;replace V3:=bR V3 hb;replace HB:=bs hb))
            go_ret;exact⟨er,bl⟩
           .replace H:=qq H;obtain⟨a4,b4,H⟩|⟨c4,a4,b4,H⟩:=H
            .replace H:=qb H;obtain⟨d4,e4,H⟩:=H;replace H:=qb H;obtain⟨g4,j4,H⟩:=H;obtain rfl:=sj H
             go_wp2_with(first|(refine gb 97 Tryz.func111 (Ek.c K2 p1 d4 _ e4.out) fun l4 hb=>?_;replace HB:=bs hb)|(refine gb 98 Tryz.func77 (Ce.c d4 g4 _ j4.out (Ed hG_ (bl))) fun n4 hb=>?_;replace HB:=bs hb))
             go_ret;exact⟨er,bl⟩
            .replace H:=qq H;obtain⟨p4,q4,H⟩|⟨r4,p4,q4,H⟩:=H
             .replace H:=qs H;obtain⟨s4,t4,H⟩:=H;replace H:=qb H;obtain⟨v4,w4,H⟩:=H;obtain⟨x4,y4⟩:∃j_:Int,(wrap64 (v4+1))=j_:=⟨_,rfl⟩;(first|rw[y4]at H|(try simp only[y4]at H));(try rw[y4]at w4);have A4:(IntKind.i64.wrap (v4+1))=x4:=(Bv _).trans y4;replace H:=qd H;obtain⟨B4,H⟩:=H;replace H:=qd H;obtain⟨C4,H⟩:=H;obtain rfl:=sj H
              go_wp2_with(first|(refine rls 9 101 t4.out fun D4 E4 G4 hb=>?_;have J4:=lR G4;replace HB:=bs hb;clear hb G4)|(refine gb 103 Tryz.func112 (Im.c K2 p1 v4 _ w4.out) fun K4 hb=>?_;replace J4:=bR J4 hb;replace HB:=bs hb;obtain⟨L4,M4,rfl⟩:=Kd.An J4.out;obtain⟨N4,⟨⟩,P4,Q4,R4⟩:=as_ (Kd.Ab J4.out).2.2 (x4)))
              go_ret;exact⟨by first|rfl|(simp[Ca,Bz];exact⟨rfl,rfl⟩)|(simp[Ca,Bz] <;> rfl)|(simp only[<-y4];first|rfl|(simp[Ca,Bz] <;> rfl))|(simp[*,Ca,Bz] <;> rfl),bl⟩
             .replace H:=qq H;obtain⟨U4,V4,H⟩|⟨W4,U4,V4,H⟩:=H
              .replace H:=qb H;obtain⟨X4,Y4,H⟩:=H;replace H:=qb H;obtain⟨a5,b5,H⟩:=H;obtain rfl:=sj H
               go_wp2_with(first|(refine gb 110 Tryz.func113 (Fi.c K2 p1 X4 _ Y4.out) fun c5 hb=>?_;replace HB:=bs hb)|(refine gb 111 Tryz.func77 (Ce.c X4 a5 _ b5.out (Ed hG_ (bl))) fun d5 hb=>?_;replace HB:=bs hb))
               go_ret;exact⟨er,bl⟩
              .replace H:=qb H;obtain⟨e5,g5,H⟩:=H;replace H:=qb H;obtain⟨j5,l5,H⟩:=H;obtain rfl:=sj H
               go_wp2_with(first|(refine gb 113 Tryz.func114 (Ew.c K2 p1 e5 _ g5.out) fun n5 hb=>?_;replace HB:=bs hb)|(refine gb 114 Tryz.func77 (Ce.c e5 j5 _ l5.out (Ed hG_ (bl))) fun p5 hb=>?_;replace HB:=bs hb))
               go_ret;exact⟨er,bl⟩
def Cx.f (k:Nat) (a0:LI) (b0:LL) (c0:BA):Option (LI×LL×BA):=(Ej.f k a0 b0).bind fun d0=>(if d0=true then((Dc.f k c0).bind fun e0=>(if e0.2.2.2=true then((Ah.f k a0 b0 e0.1 e0.2.1 e0.2.2.1).bind fun g0=>(if g0.2.2=true then(some (g0.1,g0.2.1,(⟨#[111,107]⟩:BA)))else(some (g0.1,g0.2.1,(⟨#[110,111,116]⟩:BA)))))else((Bx.f k a0 b0).bind fun j0=>((Az.f k a0 c0).bind fun l0=>(some (j0.1,j0.2,l0))))))else(some (([]:LI),([]:LL),(⟨#[]⟩:BA))))
def Cx.T9:Bool×List (List Nat×List Nat):=(true,[([],[]),([0],[0]),([],[]),([2],[2]),([],[]),([3,4,1],[3,4]),([1,5,0,1],[1]),([5,6,0,1,2,3,4,5,6],[5])])
def Cx.B9:List Nat:=[0,1,0,4,0,31,63,127]
theorem Cx.tab9:rtab .any (opsOf Tryz.f11 9)=Cx.T9:=by kernel_rfl
theorem Cx.bits9:Gg Cx.T9.2 Cx.B9=true:=by kernel_rfl
theorem Cx.c (k:Nat) (a0:OA) (b0:Nat) (c0:LI) (d0:OA) (e0:Nat) (g0:LL) (j0:BA) (l0:LI) (n0:LL) (p0:BA) (w:World) (q0:Kd.C ki w a0 c0.length c0) (r0:c0.length<=b0) (s0:Kd.C (Kd.slice 3 ki) w d0 g0.length g0) (t0:g0.length<=e0) (h:Cx.f k c0 g0 j0=some (l0,n0,p0)) (hG_:GL w):
  Calls Tryz.prog 11 #[.agg #[.slice a0 c0.length b0,.slice d0 g0.length e0],.string j0] w fun e w'=>∃v0_ v1_:Value,e= .returned (.tuple #[.agg #[v0_,v1_],.string p0])/\Kd.R ki 3 w' w.heap.size (fun _=>True) v0_ l0/\Kd.Q (Kd.slice 3 ki) 22 w' w.heap.size (N1 v0_) v1_ n0/\Below w.heap.size w w':=by
 have v0:=Tryz.underlying27;have w0:=Tryz.underlying55;have x0:=qa q0;have y0:=qa r0;clear q0 r0;have A0:=qa s0;have B0:=qa t0;clear s0 t0;have HB:=qa (Below.refl w.heap.size w);have H:=h;unfold Cx.f at H;clear h;replace H:=qb H;obtain⟨C0,D0,H⟩:=H;replace H:=qc H;obtain⟨rfl,H⟩|⟨rfl,H⟩:=H
 .replace H:=qb H;obtain⟨⟨E0,G0,J0,K0⟩,L0,H⟩:=H;(try dsimp only at H);replace H:=qc H;obtain⟨rfl,H⟩|⟨rfl,H⟩:=H
  .replace H:=qb H;obtain⟨⟨M0,N0,P0⟩,Q0,H⟩:=H;(try dsimp only at H);replace H:=qc H;obtain⟨rfl,H⟩|⟨rfl,H⟩:=H
   .simp only[Option.some.injEq,Prod.mk.injEq]at H;obtain⟨rfl,rfl,rfl⟩:=H
    go_enter Tryz.func11,Tryz.ntmps11
    go_wp2_with(first|(refine bx 2 #[.slice a0 c0.length b0,.slice d0 g0.length e0] 27 ?_;intro R0 hg U0 hbox hb;have V0:=qa (hbox);have W0:=gw hg;replace HB:=bs hb;clear hb hbox hg)|(refine bx 4 #[.slice none 0 0,.slice none 0 0] 27 ?_;intro X0 hg Y0 hbox hb;have a1:=qa (hbox);have b1:=gw hg;replace HB:=bs hb;obtain⟨c1,d1⟩:=qnn hg V0;replace V0:=qbb V0 hb;clear hb hbox hg;obtain⟨_,_⟩:=o2 c1 d1;obtain⟨e1,g1,j1,l1⟩:=qk2 V0)|(refine gb 11 Tryz.func37 (Ej.c k _ _ c0 _ _ g0 true _ (cx (Kd.Ai x0.out HB.out)) y0.out (cx (Kd.Ai A0.out HB.out)) B0.out D0.out) fun n1 hb=>?_;replace V0:=qbb V0 hb;replace a1:=qbb a1 hb;replace HB:=bs hb)|(refine gb 16 Tryz.func52 (Dc.c k j0 E0 G0 J0 true _ L0.out (Ed hG_ (bl))) fun p1 hb=>?_;replace V0:=qbb V0 hb;replace a1:=qbb a1 hb;replace HB:=bs hb)|(refine bx 6 #[.int .i64 0,.int .i64 0,.int .i64 0] 55 ?_;intro q1 hg r1 hbox hb;have s1:=qa (hbox);have t1:=gw hg;replace HB:=bs hb;obtain⟨v1,w1⟩:=qnn hg V0;replace V0:=qbb V0 hb;obtain⟨x1,y1⟩:=qnn hg a1;replace a1:=qbb a1 hb;clear hb hbox hg;obtain⟨_,_,_,_⟩:=o4 w1 v1 y1 x1;obtain⟨A1,B1,C1,D1,E1,G1⟩:=qk3 s1;obtain⟨J1,K1,L1,M1⟩:=qk2 V0)|(refine gol (some 23) Tryz.func53 #[.agg #[.slice a0 c0.length b0,.slice d0 g0.length e0],.agg #[.int .i64 E0,.int .i64 G0,.int .i64 J0]] ?_;(with_reducible refine(Ah.c k _ _ c0 _ _ g0 E0 G0 J0 M0 N0 true _ ?P1 ?Q1 ?R1 ?U1 Q0.out).mono ?_);(case P1=>exact Kd.Ai x0.out (bl));(case Q1=>exact y0.out);(case R1=>exact Kd.Ai A0.out (bl));(case U1=>exact B0.out);rintro e V1 ⟨W1,X1,rfl,Y1,a2,hb⟩;refine⟨_,rfl,?_⟩;have b2:=lR Y1;have c2:=lQ a2;replace V0:=qbb V0 hb;replace a1:=qbb a1 hb;replace s1:=qa (Fb (g:=q1) (o:= .cells #[.int .i64 E0,.int .i64 G0,.int .i64 J0] 55 (0,0)) (kP s1) hb);replace HB:=bs hb)|(refine bx 8 #[.slice none 0 0,.slice none 0 0] 27 ?_;intro d2 hg e2 hbox hb;replace b2:=bR b2 hb;replace c2:=bQ c2 hb;have g2:=qa (hbox);have j2:=gw hg;replace HB:=bs hb;obtain⟨l2,n2⟩:=qnn hg V0;replace V0:=qbb V0 hb;obtain⟨p2,q2⟩:=qnn hg a1;replace a1:=qbb a1 hb;obtain⟨r2,s2⟩:=qnn hg s1;replace s1:=qbb s1 hb;clear hb hbox hg;obtain⟨t2,v2,rfl⟩:=Kd.An b2.out;obtain⟨_,_,_,_,_,_⟩:=o6 n2 l2 q2 p2 s2 r2;obtain⟨w2,x2,y2,A2⟩:=qk2 g2;obtain⟨B2,C2,D2,_⟩:=Kd.Fj c2.out;subst D2;obtain⟨E2,G2,J2,K2⟩:=qk2 a1))
    refine bodyPost_ret (Da rfl _ _ X0 27 #[.slice t2 M0.length v2,.slice B2 N0.length C2] (0,0) _ rfl (by(with_reducible repeat(first|refine Bb ?_ _|refine Ak ?_|refine Aw ?_ _));refine Fy (cs:=#[.slice t2 M0.length v2,.slice none 0 0]) ?_ 1 _ rfl;(with_reducible repeat(first|refine Bb ?_ _|refine Ak ?_|refine Aw ?_ _));refine Fy (cs:=#[.slice none 0 0,.slice none 0 0]) ?_ 0 _ rfl;(with_reducible repeat(first|refine Bb ?_ _|refine Ak ?_|refine Aw ?_ _));refine Fs ?_ p2.out _;(with_reducible repeat(first|refine Bb ?_ _|refine Ak ?_|refine Aw ?_ _));refine Fs ?_ p2.out _;(with_reducible repeat(first|refine Bb ?_ _|refine Ak ?_|refine Aw ?_ _));exact a1.out) Tryz.underlying27 rfl kr_) rfl ?_;exact⟨_,_,er,kGR b2.out g2 a1 (fun _ hk=>trivial),kGQ c2.out g2 a1 (fun _ hk=>hk.1.1),bl⟩
   .simp only[Option.some.injEq,Prod.mk.injEq]at H;obtain⟨rfl,rfl,rfl⟩:=H
    go_enter Tryz.func11,Tryz.ntmps11
    go_wp2_with(first|(refine bx 2 #[.slice a0 c0.length b0,.slice d0 g0.length e0] 27 ?_;intro R0 hg L2 hbox hb;have V0:=qa (hbox);have W0:=gw hg;replace HB:=bs hb;clear hb hbox hg)|(refine bx 4 #[.slice none 0 0,.slice none 0 0] 27 ?_;intro X0 hg M2 hbox hb;have a1:=qa (hbox);have b1:=gw hg;replace HB:=bs hb;obtain⟨c1,d1⟩:=qnn hg V0;replace V0:=qbb V0 hb;clear hb hbox hg;obtain⟨_,_⟩:=o2 c1 d1;obtain⟨N2,P2,Q2,R2⟩:=qk2 V0)|(refine gb 11 Tryz.func37 (Ej.c k _ _ c0 _ _ g0 true _ (cx (Kd.Ai x0.out HB.out)) y0.out (cx (Kd.Ai A0.out HB.out)) B0.out D0.out) fun U2 hb=>?_;replace V0:=qbb V0 hb;replace a1:=qbb a1 hb;replace HB:=bs hb)|(refine gb 16 Tryz.func52 (Dc.c k j0 E0 G0 J0 true _ L0.out (Ed hG_ (bl))) fun V2 hb=>?_;replace V0:=qbb V0 hb;replace a1:=qbb a1 hb;replace HB:=bs hb)|(refine bx 6 #[.int .i64 0,.int .i64 0,.int .i64 0] 55 ?_;intro q1 hg W2 hbox hb;have s1:=qa (hbox);have t1:=gw hg;replace HB:=bs hb;obtain⟨v1,w1⟩:=qnn hg V0;replace V0:=qbb V0 hb;obtain⟨x1,y1⟩:=qnn hg a1;replace a1:=qbb a1 hb;clear hb hbox hg;obtain⟨_,_,_,_⟩:=o4 w1 v1 y1 x1;obtain⟨X2,Y2,a3,b3,c3,d3⟩:=qk3 s1;obtain⟨e3,g3,j3,l3⟩:=qk2 V0)|(refine gol (some 23) Tryz.func53 #[.agg #[.slice a0 c0.length b0,.slice d0 g0.length e0],.agg #[.int .i64 E0,.int .i64 G0,.int .i64 J0]] ?_;(with_reducible refine(Ah.c k _ _ c0 _ _ g0 E0 G0 J0 M0 N0 false _ ?P1 ?Q1 ?R1 ?U1 Q0.out).mono ?_);(case P1=>exact Kd.Ai x0.out (bl));(case Q1=>exact y0.out);(case R1=>exact Kd.Ai A0.out (bl));(case U1=>exact B0.out);rintro e n3 ⟨W1,X1,rfl,Y1,a2,hb⟩;refine⟨_,rfl,?_⟩;have b2:=lR Y1;have c2:=lQ a2;replace V0:=qbb V0 hb;replace a1:=qbb a1 hb;replace s1:=qa (Fb (g:=q1) (o:= .cells #[.int .i64 E0,.int .i64 G0,.int .i64 J0] 55 (0,0)) (kP s1) hb);replace HB:=bs hb)|(refine bx 8 #[.slice none 0 0,.slice none 0 0] 27 ?_;intro d2 hg p3 hbox hb;replace b2:=bR b2 hb;replace c2:=bQ c2 hb;have g2:=qa (hbox);have j2:=gw hg;replace HB:=bs hb;obtain⟨l2,n2⟩:=qnn hg V0;replace V0:=qbb V0 hb;obtain⟨p2,q2⟩:=qnn hg a1;replace a1:=qbb a1 hb;obtain⟨r2,s2⟩:=qnn hg s1;replace s1:=qbb s1 hb;clear hb hbox hg;obtain⟨q3,r3,rfl⟩:=Kd.An b2.out;obtain⟨_,_,_,_,_,_⟩:=o6 n2 l2 q2 p2 s2 r2;obtain⟨s3,t3,v3,w3⟩:=qk2 g2;obtain⟨x3,y3,A3,_⟩:=Kd.Fj c2.out;subst A3;obtain⟨B3,C3,D3,E3⟩:=qk2 a1))
    refine bodyPost_ret (Da rfl _ _ X0 27 #[.slice q3 M0.length r3,.slice x3 N0.length y3] (0,0) _ rfl (by(with_reducible repeat(first|refine Bb ?_ _|refine Ak ?_|refine Aw ?_ _));refine Fy (cs:=#[.slice q3 M0.length r3,.slice none 0 0]) ?_ 1 _ rfl;(with_reducible repeat(first|refine Bb ?_ _|refine Ak ?_|refine Aw ?_ _));refine Fy (cs:=#[.slice none 0 0,.slice none 0 0]) ?_ 0 _ rfl;(with_reducible repeat(first|refine Bb ?_ _|refine Ak ?_|refine Aw ?_ _));refine Fs ?_ p2.out _;(with_reducible repeat(first|refine Bb ?_ _|refine Ak ?_|refine Aw ?_ _));refine Fs ?_ p2.out _;(with_reducible repeat(first|refine Bb ?_ _|refine Ak ?_|refine Aw ?_ _));exact a1.out) Tryz.underlying27 rfl kr_) rfl ?_;exact⟨_,_,er,kGR b2.out g2 a1 (fun _ hk=>trivial),kGQ c2.out g2 a1 (fun _ hk=>hk.1.1),bl⟩
  .replace H:=qb H;obtain⟨⟨G3,J3⟩,K3,H⟩:=H;(try dsimp only at H);replace H:=qb H;obtain⟨L3,M3,H⟩:=H;simp only[Option.some.injEq,Prod.mk.injEq]at H;obtain⟨rfl,rfl,rfl⟩:=H
   go_enter Tryz.func11,Tryz.ntmps11
   try go_wp2_with(first|(refine bx 2 #[.slice a0 c0.length b0,.slice d0 g0.length e0] 27 ?_;intro R0 hg N3 hbox hb;have V0:=qa (hbox);have W0:=gw hg;replace HB:=bs hb;clear hb hbox hg)|(refine bx 4 #[.slice none 0 0,.slice none 0 0] 27 ?_;intro X0 hg P3 hbox hb;have a1:=qa (hbox);have b1:=gw hg;replace HB:=bs hb;obtain⟨c1,d1⟩:=qnn hg V0;replace V0:=qbb V0 hb;clear hb hbox hg;obtain⟨_,_⟩:=o2 c1 d1;obtain⟨Q3,R3,U3,V3⟩:=qk2 V0)|(refine gb 11 Tryz.func37 (Ej.c k _ _ c0 _ _ g0 true _ (cx (Kd.Ai x0.out HB.out)) y0.out (cx (Kd.Ai A0.out HB.out)) B0.out D0.out) fun W3 hb=>?_;replace V0:=qbb V0 hb;replace a1:=qbb a1 hb;replace HB:=bs hb)|(refine gb 16 Tryz.func52 (Dc.c k j0 E0 G0 J0 false _ L0.out (Ed hG_ (bl))) fun X3 hb=>?_;replace V0:=qbb V0 hb;replace a1:=qbb a1 hb;replace HB:=bs hb)|(refine bx 6 #[.int .i64 0,.int .i64 0,.int .i64 0] 55 ?_;intro q1 hg Y3 hbox hb;have s1:=qa (hbox);have t1:=gw hg;replace HB:=bs hb;obtain⟨v1,w1⟩:=qnn hg V0;replace V0:=qbb V0 hb;obtain⟨x1,y1⟩:=qnn hg a1;replace a1:=qbb a1 hb;clear hb hbox hg;obtain⟨_,_,_,_⟩:=o4 w1 v1 y1 x1;obtain⟨a4,b4,c4,d4,e4,g4⟩:=qk3 s1))
   have n0_:Aside0 ((((Y3.setCell ⟨q1,0,none⟩ (.int .i64 E0)).setCell ⟨q1,1,none⟩ (.int .i64 G0)).setCell ⟨q1,2,none⟩ (.int .i64 J0)).heap[R0]? =some (.cells #[.slice a0 c0.length b0,.slice d0 g0.length e0] 27 (0,0))):=⟨kb V0⟩;have n1_:Aside0 ((((Y3.setCell ⟨q1,0,none⟩ (.int .i64 E0)).setCell ⟨q1,1,none⟩ (.int .i64 G0)).setCell ⟨q1,2,none⟩ (.int .i64 J0)).heap[X0]? =some (.cells #[.slice none 0 0,.slice none 0 0] 27 (0,0))):=⟨kb a1⟩;have n2_:Aside0 ((((Y3.setCell ⟨q1,0,none⟩ (.int .i64 E0)).setCell ⟨q1,1,none⟩ (.int .i64 G0)).setCell ⟨q1,2,none⟩ (.int .i64 J0)).heap[q1]? =some (.cells #[.int .i64 E0,.int .i64 G0,.int .i64 J0] 55 (0,0))):=⟨kP s1⟩;have n3_:Aside0 (Below w.heap.size w (((Y3.setCell ⟨q1,0,none⟩ (.int .i64 E0)).setCell ⟨q1,1,none⟩ (.int .i64 G0)).setCell ⟨q1,2,none⟩ (.int .i64 J0))):=⟨bl⟩;(try clear V0);(try clear a1);(try clear s1);(try clear HB);generalize (((Y3.setCell ⟨q1,0,none⟩ (.int .i64 E0)).setCell ⟨q1,1,none⟩ (.int .i64 G0)).setCell ⟨q1,2,none⟩ (.int .i64 J0))=j4 at n0_ n1_ n2_ n3_ ⊢;have V0:=n0_;have a1:=n1_;have s1:=n2_;have HB:=n3_;clear n0_ n1_ n2_ n3_;replace V0:=qa (Ak V0.out);replace a1:=qa (Ak a1.out);replace s1:=qa (Ak s1.out);replace HB:=qa (Dd HB.out);refine Hq (n:=8) (S:=fun w'=>w'.cell? ⟨R0,0,none⟩=some (.slice a0 c0.length b0)/\w'.cell? ⟨R0,1,none⟩=some (.slice d0 g0.length e0)) (ds:=[]) _ kr_ rfl rfl ⟨bc V0 0,bc V0 1⟩ (fun hHeld=>?_);refine Gd Cx.tab9 Cx.bits9 (fun HT_ HW_=>?_);generalize j4.drew=l4 at V0 a1 s1 HB hHeld ⊢;refine pur 2 32 (bz 8 4) HT_ ?_;refine pur 4 34 (bz 8 20) HT_ ?_;refine tk 0 30 (bz 8 21) hHeld (Ez HT_.out HW_.out kr_) ?_;refine tk 3 33 (bz 8 29) hHeld (Ez HT_.out HW_.out kr_) ?_;(refine o1 1 (some 31) (bz 8 31) (Dr HT_.out kr_) fun K hK=>?_);refine Gw Tryz.func54 kr_ rfl #[.agg #[.slice a0 c0.length b0,.slice d0 g0.length e0]] (by rfl) rfl rfl am ?_
   with_reducible refine(Bx.c k _ _ c0 _ _ g0 G3 J3 _ ?P1 ?Q1 ?R1 ?U1 K3.out).mono ?_
   (case P1=>exact cx (Kd.Ai x0.out HB.out));(case Q1=>exact y0.out);(case R1=>exact cx (Kd.Ai A0.out HB.out));(case U1=>exact B0.out);rintro e n4 ⟨p4,q4,rfl,Y1,a2,hb⟩;refine⟨_,rfl,?_⟩;have r4:=lR Y1;have s4:=lS a2;replace V0:=qbb V0 hb;replace a1:=qbb a1 hb;replace s1:=qbb s1 hb;replace HB:=bs hb;(try clear hb);(try clear t4);(try clear hk);(try clear hi);(try clear Y1);(try clear a2);refine hK.out _ _ ⟨bc V0 0,bc V0 1⟩ (fun hHeld=>?_);clear hK K;refine nm 31 ?_;(refine o1 5 (some 35) (bz 8 63) (Dr HT_.out kr_) fun K hK=>?_);(refine gsb Tryz.func55 (Az.c k _ _ c0 j0 L3 _ (cx (Kd.Ai x0.out HB.out)) y0.out M3.out (Ed hG_ (bl))) fun v4 hb=>?_);replace r4:=bR r4 hb;replace s4:=bS s4 hb;replace V0:=qbb V0 hb;replace a1:=qbb a1 hb;replace s1:=qbb s1 hb;replace HB:=bs hb;(try clear hb);(try clear t4);(try clear hk);(try clear hi);obtain⟨w4,x4,y4⟩:=Kd.An r4.out;(first|subst y4|(injection y4 with f1_ f2_ f3_;have f4_:=f1_.symm;have f5_:=f3_.symm;clear f1_ f2_ f3_;subst f4_;subst f5_));obtain⟨A4,B4,C4⟩:=Kd.Ft s4.out;(first|subst C4|(injection C4 with f1_ f2_ f3_;have f4_:=f1_.symm;have f5_:=f3_.symm;clear f1_ f2_ f3_;subst f4_;subst f5_));refine hK.out _ _ ⟨bc V0 0,bc V0 1⟩ (fun hHeld=>?_);clear hK K;refine nm 35 ?_;(refine o1 6 none (bz 8 127) (Dr HT_.out kr_) fun K hK=>?_);have D4:v4.cell? ⟨X0,0,none⟩=some (.slice none 0 0):=bc a1 0;have E4:=Cn a1.out 0;obtain⟨_,_,_,_⟩:=o4 c1 y1 d1 x1;have G4:v4.cell? ⟨X0,1,none⟩=some (.slice none 0 0):=bc a1 1;have J4:=Cn a1.out 1;obtain⟨_,_,_,_⟩:=o4 c1 y1 d1 x1;refine skip_ (w1:=?_) (by rfl) rfl ?_ ?_;rotate_left
   .go_simp
    rfl
   refine hK.out _ _ ⟨((cell_far (p:=⟨X0,_,none⟩) c1.out _).trans (((cell_far (p:=⟨X0,_,none⟩) c1.out _).trans (hHeld.1)))),((cell_far (p:=⟨X0,_,none⟩) c1.out _).trans (((cell_far (p:=⟨X0,_,none⟩) c1.out _).trans (hHeld.2))))⟩ (fun hHeld=>?_);clear hK K;refine pur 7 5 (bz 8 255) HT_ ?_;refine Ka (Hs HT_.out kr_) ?_
   try go_wp2
   refine bodyPost_ret (Da rfl _ _ X0 27 #[.slice w4 G3.length x4,.slice A4 J3.length B4] (0,0) _ rfl (kP a1) Tryz.underlying27 rfl kr_) rfl ?_;exact⟨_,_,er,kFR r4 a1 (fun _ hk=>trivial),Kd.Gv ((Kd.S_R (kFS s4 a1 (fun _ hk=>hk.1)))),bl⟩
 .simp only[Option.some.injEq,Prod.mk.injEq]at H;obtain⟨rfl,rfl,rfl⟩:=H
  go_enter Tryz.func11,Tryz.ntmps11
  go_wp2_with(first|(refine bx 2 #[.slice a0 c0.length b0,.slice d0 g0.length e0] 27 ?_;intro R0 hg K4 hbox hb;have V0:=qa (hbox);have W0:=gw hg;replace HB:=bs hb;clear hb hbox hg)|(refine bx 4 #[.slice none 0 0,.slice none 0 0] 27 ?_;intro X0 hg L4 hbox hb;have a1:=qa (hbox);have b1:=gw hg;replace HB:=bs hb;obtain⟨c1,d1⟩:=qnn hg V0;replace V0:=qbb V0 hb;clear hb hbox hg;obtain⟨_,_⟩:=o2 c1 d1;obtain⟨M4,N4,P4,Q4⟩:=qk2 V0)|(refine gb 11 Tryz.func37 (Ej.c k _ _ c0 _ _ g0 false _ (cx (Kd.Ai x0.out HB.out)) y0.out (cx (Kd.Ai A0.out HB.out)) B0.out D0.out) fun R4 hb=>?_;replace V0:=qbb V0 hb;replace a1:=qbb a1 hb;replace HB:=bs hb;obtain⟨U4,V4,W4,X4⟩:=qk2 a1))
  refine bodyPost_ret (Da rfl _ _ X0 27 #[.slice none 0 0,.slice none 0 0] (0,0) _ rfl (kP a1) Tryz.underlying27 rfl kr_) rfl ?_;exact⟨_,_,er,z2_,Kd.Gv ((Kd.S_R z5_)),bl⟩

/-- A state of type 105 at block g of W; what its slices lead to came in by w0. -/
def Aa (a0 W:World) (g:Nat) (f0:LI) (f1:Int):Prop:=∃b0 c0,W.heap[g]? =some (.cells #[.slice b0 f0.length c0,.int .i64 f1] 105 (0,0))/\a0.heap.size<=g/\Kd.C (Kd.int .u8) a0 b0 f0.length f0
theorem Aa.grown {a0 W:World} {g:Nat} {f0:LI} {f1:Int} {W1:World} {row:Option Nat} (h:Aa a0 W g f0 f1) (hw:W.grownBy W1 row) (hne:some g≠row):Aa a0 W1 g f0 f1:=by
 obtain⟨b0,c0,hb,hg,d0⟩:=h;exact⟨b0,c0,Bn hb hw hne,hg,d0⟩
theorem Aa.own_neN {a0 W:World} {g:Nat} {f0:LI} {f1:Int} {α:Type} {d:Kd α} {e:Nat} {base:Nat} {ok:Nat->Prop} {v:Value} {xs:List α} (h:Aa a0 W g f0 f1) (ho:Kd.N d e W base ok v xs) (ht:e≠105):some g≠v.ownBlock:=by
 obtain⟨b0,c0,hb,hg,d0⟩:=h;exact Kd.N_ne ho hb ht
theorem Aa.fresh {a0 W:World} {g:Nat} {f0:LI} {f1:Int} (h:Aa a0 W g f0 f1):∀k,W.heap.size<=k->k≠g:=by
 obtain⟨b0,c0,hb,hg,d0⟩:=h;exact Kd.freshB hb
theorem Aa.kept {a0 W:World} {g:Nat} {f0:LI} {f1:Int} {W1:World} {S:Nat->Prop} (h:Aa a0 W g f0 f1) (hk:Kept W W1 S) (hne:¬S g):Aa a0 W1 g f0 f1:=by
 obtain⟨b0,c0,hb,hg,d0⟩:=h;exact⟨b0,c0,blk_kept hb hk hne,hg,d0⟩
theorem Aa.below {a0 W:World} {g:Nat} {f0:LI} {f1:Int} {W1:World} (h:Aa a0 W g f0 f1) (hw:Below W.heap.size W W1):Aa a0 W1 g f0 f1:=h.grown (grown_of_below hw none) (by simp)
theorem Aa.alloc {a0 W:World} {g:Nat} {f0:LI} {f1:Int} (h:Aa a0 W g f0 f1) (o:Obj):Aa a0 (W.alloc o) g f0 f1:=h.below (Fg (Below.refl _ _) o)
theorem Aa.drewN {a0 W:World} {g:Nat} {f0:LI} {f1:Int} (h:Aa a0 W g f0 f1) (m:Nat):Aa a0 (W.drewN m) g f0 f1:=h
theorem Aa.drew {a0 W:World} {g:Nat} {f0:LI} {f1:Int} (h:Aa a0 W g f0 f1):Aa a0 W.drew g f0 f1:=h
theorem Aa.at_ {a0 W:World} {g:Nat} {f0:LI} {f1:Int} {w':World} {m:Nat} (hq:W.drewN m=w') (h:Aa a0 W g f0 f1):Aa a0 w' g f0 f1:=by subst hq;exact Aa.drewN h m
theorem Aa.apart {a0 W:World} {g:Nat} {f0:LI} {f1:Int} {α:Type} {d:Kd α} {e:Nat} {base:Nat} {ok:Nat->Prop} {v:Value} {xs:List α} (h:Aa a0 W g f0 f1) (ho:d.R e W base ok v xs) (ht:∀q,q∈e::d.E->q≠105):d.R e W base (fun k=>ok k/\k≠g) v xs:=by
 obtain⟨b0,c0,hb,hg,d0⟩:=h;exact Kd.Ig ho hb ht
theorem Aa.own_ne {a0 W:World} {g:Nat} {f0:LI} {f1:Int} {α:Type} {d:Kd α} {e:Nat} {base:Nat} {ok:Nat->Prop} {v:Value} {xs:List α} (h:Aa a0 W g f0 f1) (ho:d.R e W base ok v xs) (ht:e≠105):some g≠v.ownBlock:=by
 obtain⟨b0,c0,hb,hg,d0⟩:=h;exact Kd.R_ne ho hb ht
theorem Aa.apartQ {a0 W:World} {g:Nat} {f0:LI} {f1:Int} {α:Type} {d:Kd α} {e:Nat} {base:Nat} {ok:Nat->Prop} {v:Value} {xs:List α} (h:Aa a0 W g f0 f1) (ho:d.Q e W base ok v xs) (ht:∀q,q∈e::d.E->q≠105):d.Q e W base (fun k=>ok k/\k≠g) v xs:=by
 obtain⟨b0,c0,hb,hg,d0⟩:=h;exact Kd.Jz ho hb ht
theorem Aa.own_neQ {a0 W:World} {g:Nat} {f0:LI} {f1:Int} {α:Type} {d:Kd α} {e:Nat} {base:Nat} {ok:Nat->Prop} {v:Value} {xs:List α} (h:Aa a0 W g f0 f1) (ho:d.Q e W base ok v xs) (ht:e≠105):some g≠v.ownBlock:=by
 obtain⟨b0,c0,hb,hg,d0⟩:=h;exact Kd.Q_ne ho hb ht
theorem Aa.apartS {a0 W:World} {g:Nat} {f0:LI} {f1:Int} {α:Type} {d:Kd α} {e:Nat} {base:Nat} {ok:Nat->Prop} {v:Value} {xs:List α} (h:Aa a0 W g f0 f1) (ho:d.S e W base ok v xs) (ht:∀q,q∈e::d.E->q≠105):d.S e W base (fun k=>ok k/\k≠g) v xs:=by
 obtain⟨b0,c0,hb,hg,d0⟩:=h;exact Kd.S_types ho hb ht
theorem Aa.own_neS {a0 W:World} {g:Nat} {f0:LI} {f1:Int} {α:Type} {d:Kd α} {e:Nat} {base:Nat} {ok:Nat->Prop} {v:Value} {xs:List α} (h:Aa a0 W g f0 f1) (ho:d.S e W base ok v xs) (ht:e≠105):some g≠v.ownBlock:=by
 obtain⟨b0,c0,hb,hg,d0⟩:=h;exact Kd.S_ne ho hb ht
theorem Aa.lt {a0 W:World} {g:Nat} {f0:LI} {f1:Int} (h:Aa a0 W g f0 f1):g<W.heap.size:=by
 obtain⟨b0,c0,hb,hg,d0⟩:=h;exact blk_lt hb
theorem Aa.ge {a0 W:World} {g:Nat} {f0:LI} {f1:Int} (h:Aa a0 W g f0 f1):a0.heap.size<=g:=by
 obtain⟨b0,c0,hb,hg,d0⟩:=h;exact hg
theorem Aa.ne_blk {a0 W:World} {g:Nat} {f0:LI} {f1:Int} {a:Nat} {cs:Array Value} {t:TypeId} {fr:Nat×Nat} (h:Aa a0 W g f0 f1) (b0:W.heap[a]? =some (.cells cs t fr)) (ht:t≠105):g≠a:=by
 obtain⟨c0,d0,hb,hg,e0⟩:=h;rintro rfl;rw[hb]at b0;(injection b0 with b0);(injection b0 with _ g0);exact ht g0.symm
theorem Aa.far {a0 W:World} {g:Nat} {f0:LI} {f1:Int} {p:Addr} (h:Aa a0 W g f0 f1) (hne:g≠p.block) (u:Value):Aa a0 (W.setCell p u) g f0 f1:=by
 obtain⟨b0,c0,hb,hg,d0⟩:=h;exact⟨b0,c0,Fs hb hne u,hg,d0⟩
theorem cellS105_0 {W:World} {g:Nat} {a0:OA} {b0:Nat} {f0:LI} {f1:Int} (h:W.heap[g]? =some (.cells #[.slice a0 f0.length b0,.int .i64 f1] 105 (0,0))):W.cell? ⟨g,0,none⟩=some (.slice a0 f0.length b0):=(Ip h 0).trans rfl
theorem cellS105_1 {W:World} {g:Nat} {a0:OA} {b0:Nat} {f0:LI} {f1:Int} (h:W.heap[g]? =some (.cells #[.slice a0 f0.length b0,.int .i64 f1] 105 (0,0))):W.cell? ⟨g,1,none⟩=some (.int .i64 f1):=(Ip h 1).trans rfl
theorem Aa.set_1 {a0 W:World} {g:Nat} {f0:LI} {f1:Int} (h:Aa a0 W g f0 f1) (x:Int):Aa a0 (W.setCell ⟨g,1,none⟩ (.int .i64 x)) g f0 x:=by
 obtain⟨b0,c0,hb,hg,d0⟩:=h;exact⟨b0,c0,by simpa using blk_set hb 1 (.int .i64 x),hg,d0⟩
theorem Aa.new (a0 W:World) (b0:OA) (c0:Nat) (f0:LI) (f1:Int) (hB:Below a0.heap.size a0 W) (d0:Kd.C (Kd.int .u8) a0 b0 f0.length f0):Aa a0 (W.alloc (.cells #[.slice b0 f0.length c0,.int .i64 f1] 105)) W.heap.size f0 f1:=⟨b0,c0,by simpa using heap_alloc_new W _,hB.size,d0⟩

def Jg.f (a0:LI):Option (LI×Int):=if(a0.length:Int)>2000 then(if 2000<=(a0.length:Int)then(some (a0.take 2000,0))else(none))else(some (a0,0))
theorem Jg.c (a0:OA) (b0:Nat) (c0:LI) (d0:LI) (e0:Int) (g0 w:World) (hB:Below g0.heap.size g0 w) (j0:Kd.C (Kd.int .u8) g0 a0 c0.length c0) (l0:c0.length<=b0) (h:Jg.f c0=some (d0,e0)):
  Calls Tryz.prog 62 #[.slice a0 c0.length b0] w fun e w'=>∃g_:Nat,e= .returned (.pointer (some ⟨g_,0,none⟩))/\Aa g0 w' g_ d0 e0/\Below g0.heap.size g0 w'/\Below w.heap.size w w':=by
 have n0:=Tryz.underlying105;have p0:=qa j0;have q0:=qa l0;clear j0 l0;have HBW:=qa (Below.refl w.heap.size w);have HW0:=qa hB.size;have HB:=qa hB;clear hB;have H:=h;unfold Jg.f at H;clear h
 by_cases r0:(c0.length:Int)>2000
 .rw[if_pos r0]at H;have s0:decide (2000<(c0.length:Int))=true:=decide_eq_true r0;have t0:decide (2000<c0.length)=true:=decide_eq_true ko_;clear r0;replace H:=qn H;obtain⟨v0,H⟩:=H;have w0:=eq_true v0;have x0:decide (2000<=(c0.length:Int))=true:=decide_eq_true v0;clear v0;simp only[Option.some.injEq,Prod.mk.injEq]at H;obtain⟨rfl,rfl⟩:=H;obtain⟨i04,y0,_,A0,_⟩:=info_parts info5;obtain⟨B0,hA4,hC4⟩:=print_take_of (P:=Tryz.prog) (Value.int .u8) 0 34 5 .i64 Tryz.underlying34 y0 A0 a0 b0 c0 2000 ko_ (qo) q0.out;have C0:=qa (Kd.C_of_reads (h1:=fun _=>rfl) (hA4 _ (Kd.reads_of_C p0.out)));have D0:=qa hC4;clear hA4 hC4 y0 A0
  go_enter Tryz.func62,Tryz.ntmps62
  go_wp2_with(first|(refine bx 10 #[.slice a0 (c0.take 2000).length b0,.int .i64 0] 105 ?_;intro E0 hg G0 hbox hb;replace HB:=bs hb;have J0:=qa (hbox);have K0:=qa ((by rw[hg];exact(Cj z13_):w.heap.size<=E0));have L0:=qa ((Nat.le_trans HW0.out (by rw[hg];exact(Cj z13_):w.heap.size<=E0):g0.heap.size<=E0));replace HBW:=qa (Ir HBW.out hb);clear hb hbox hg))
  go_ret;exact⟨_,rfl,(show Aa g0 _ E0 (c0.take 2000) 0 from⟨_,_,bk,L0.out,C0.out⟩),bl,by repeat(first|(with_reducible first|exact HBW.out|apply Fg|apply Fe|apply Dd|refine Fw ?_ K0.out)|exact HBW.out)⟩
 .rw[if_neg r0]at H;have s0:decide (2000<(c0.length:Int))=false:=decide_eq_false r0;have t0:decide (2000<c0.length)=false:=decide_eq_false ko_;clear r0;simp only[Option.some.injEq,Prod.mk.injEq]at H;obtain⟨rfl,rfl⟩:=H
  go_enter Tryz.func62,Tryz.ntmps62
  go_wp2_with(first|(refine bx 10 #[.slice a0 c0.length b0,.int .i64 0] 105 ?_;intro M0 hg N0 hbox hb;replace HB:=bs hb;have P0:=qa (hbox);have Q0:=qa ((by rw[hg];exact(Cj z13_):w.heap.size<=M0));have R0:=qa ((Nat.le_trans HW0.out (by rw[hg];exact(Cj z13_):w.heap.size<=M0):g0.heap.size<=M0));replace HBW:=qa (Ir HBW.out hb);clear hb hbox hg))
  go_ret;exact⟨_,rfl,(show Aa g0 _ M0 c0 0 from⟨_,_,bk,R0.out,p0.out⟩),bl,by repeat(first|(with_reducible first|exact HBW.out|apply Fg|apply Fe|apply Dd|refine Fw ?_ Q0.out)|exact HBW.out)⟩

def Ar.f (a0:Int) (b0:Int) (c0:Int):Option (Bool):=if a0>=b0 then(some (decide (a0<=c0)))else(some false)
theorem Ar.c (a0:Int) (b0:Int) (c0:Int) (r:Bool) (w:World) (h:Ar.f a0 b0 c0=some r):
  Calls Tryz.prog 84 #[.int .i64 a0,.int .i64 b0,.int .i64 c0] w fun e w'=>e= .returned (.bool r)/\Drawn0 w w':=by
 have H:=h;unfold Ar.f at H;clear h;replace H:=qu H;obtain⟨d0,H⟩|⟨d0,H⟩:=H
 .obtain rfl:=sj H
  go_enter Tryz.func84,Tryz.ntmps84
  go_wp2;go_ret;exact⟨sd,dr⟩
 .obtain rfl:=sj H
  go_enter Tryz.func84,Tryz.ntmps84
  go_wp2;go_ret;exact⟨sd,dr⟩

def Bi.l0:Nat->LI->Int->Option (Bool)
 |0,_,_=>none
 |k+1,a0,b0=>if b0<(a0.length:Int)then(if 0<=b0 then((Ar.f (rd a0 b0) (-1000000000) 1000000000).bind fun c0=>(if c0=true then(Bi.l0 k a0 (wrap64 (b0+1)))else(some false)))else(none))else(some ((a0.length:Int)==24))
def Bi.f (k:Nat) (a0:LI):Option (Bool):=Bi.l0 k a0 0
theorem Bi.mono_l:∀k,(∀a0 b0,LeO (Bi.l0 k a0 b0) (Bi.l0 (k+1) a0 b0))
 |0=>fun _ _ r h=>by simp[Bi.l0]at h
 |k+1=>by
  have ih0:=Bi.mono_l k
  .intro a0 b0;unfold Bi.l0;exact mz
theorem Bi.mono:∀a0 k,LeO (Bi.f k a0) (Bi.f (k+1) a0):=by
 intro a0 k;have ih0:=Bi.mono_l k;unfold Bi.f;exact mz
theorem Bi.c (k:Nat) (a0:OA) (b0:Nat) (c0:LI) (r:Bool) (w:World) (d0:Kd.C ki w a0 c0.length c0) (e0:c0.length<=b0) (h:Bi.f k c0=some r):
  Calls Tryz.prog 69 #[.slice a0 c0.length b0] w fun e w'=>e= .returned (.bool r)/\Drawn0 w w':=by
 have g0:=qa d0;have j0:=qa e0;clear d0 e0;have H:=h;unfold Bi.f at H;clear h;have H':=qa H;clear H
 go_enter Tryz.func69,Tryz.ntmps69
 go_wp2
 go_loopg [3] k (fun kq n0 w'=>∃(p0:Int),n0= .int .i64 p0/\Aside0 (Bi.l0 kq c0 p0=some r)/\Aside0 (kq<=k)/\Drawn0 w w')
 case atStart=>exact⟨(0),(sd),H',⟨Nat.le_refl _⟩,dr⟩
 case round=>
  clear H';obtain⟨p0,rfl,HA,HK1,⟨m1,rfl⟩⟩:=hrel;obtain⟨k1,rfl,H⟩:=kz gk HA;clear HA;simp only[Bi.l0]at H;replace H:=qe H;obtain⟨q0,H⟩|⟨q0,H⟩:=H
  .replace H:=qd H;obtain⟨r0,H⟩:=H;replace H:=qb H;obtain⟨s0,t0,H⟩:=H;replace H:=qc H;obtain⟨rfl,H⟩|⟨rfl,H⟩:=H
   .have H':=qa H;clear H;obtain⟨v0,⟨⟩,w0,x0,y0⟩:=ai g0.out p0
    go_wp2_with(first|(refine gd 14 Tryz.func84 (Ar.c (rd c0 p0) (-1000000000) 1000000000 true _ t0.out) fun nd=>?_))
    go_roundg k1
    case measure=>have:=HK1.out;omega
    case rel=>exact⟨(wrap64 (p0+1)),(sd),H',⟨by have:=HK1.out;omega⟩,dr⟩
   .obtain rfl:=sj H;obtain⟨v0,⟨⟩,w0,x0,y0⟩:=ai g0.out p0
    go_wp2_with(first|(refine gd 14 Tryz.func84 (Ar.c (rd c0 p0) (-1000000000) 1000000000 false _ t0.out) fun nd=>?_))
    go_ret;exact⟨sd,dr⟩
  .obtain rfl:=sj H;go_wp2;go_ret;exact⟨sd,dr⟩

def Dj.l0:Nat->Int->LI->LL->Option (Bool)
 |0,_,_,_=>none
 |k+1,a0,b0,c0=>if a0<(c0.length:Int)then(if 0<=a0 then((Bi.f k (Bl c0 a0)).bind fun d0=>(if d0=true then(Dj.l0 k (wrap64 (a0+1)) b0 c0)else(some false)))else(none))else((Bi.f k b0).bind fun e0=>(if e0=true then(some (decide ((c0.length:Int)<=8)))else(some false)))
def Dj.f (k:Nat) (a0:LI) (b0:LL):Option (Bool):=Dj.l0 k 0 a0 b0
theorem Dj.c (k:Nat) (a0:OA) (b0:Nat) (c0:LI) (d0:OA) (e0:Nat) (g0:LL) (r:Bool) (w:World) (j0:Kd.C ki w a0 c0.length c0) (n0:c0.length<=b0) (p0:Kd.C (Kd.slice 3 ki) w d0 g0.length g0) (q0:g0.length<=e0) (h:Dj.f k c0 g0=some r):
  Calls Tryz.prog 20 #[.agg #[.slice a0 c0.length b0,.slice d0 g0.length e0]] w fun e w'=>e= .returned (.bool r)/\Below w.heap.size w w':=by
 have r0:=Tryz.underlying27;have s0:=qa j0;have t0:=qa n0;clear j0 n0;have v0:=qa p0;have w0:=qa q0;clear p0 q0;have HB:=qa (Below.refl w.heap.size w);have H:=h;unfold Dj.f at H;clear h;have H':=qa H;clear H
 go_enter Tryz.func20,Tryz.ntmps20
 go_wp2_with(first|((with_reducible refine El (N:=1) rfl ?_);(try(refine Ds (by rfl) ?_;dsimp only));refine bx 1 #[.slice a0 c0.length b0,.slice d0 g0.length e0] 27 ?_;intro x0 hg y0 hbox hb;have A0:=qa (hbox);have B0:=gw hg;replace HB:=bs hb;clear hb hbox hg))
 go_loopg [3] k (fun kq C0 w'=>∃(D0:Int),C0= .int .i64 D0/\Aside0 (Dj.l0 kq D0 c0 g0=some r)/\Aside0 (kq<=k)/\Aside0 (w'.heap[x0]? =some (.cells #[(.slice a0 c0.length b0),(.slice d0 g0.length e0)] 27 (0,0)))/\Aside0 (Below w.heap.size w w'))
 case atStart=>exact⟨(0),(sd),H',⟨Nat.le_refl _⟩,⟨bk⟩,⟨bl⟩⟩
 case round=>
  clear H';obtain⟨D0,rfl,HA,HK1,A0,HB⟩:=hrel;obtain⟨k1,rfl,H⟩:=kz gk HA;clear HA;simp only[Dj.l0]at H;replace H:=qe H;obtain⟨E0,H⟩|⟨E0,H⟩:=H
  .replace H:=qd H;obtain⟨G0,H⟩:=H;replace H:=qb H;obtain⟨J0,K0,H⟩:=H;replace H:=qc H;obtain⟨rfl,H⟩|⟨rfl,H⟩:=H
   .have H':=qa H;clear H;obtain⟨L0,M0,N0,P0⟩:=qk2 A0;obtain⟨Q0,R0,U0,⟨⟩,V0,W0,X0,Y0,a1⟩:=cg_L1 v0.out D0;(try replace V0:=(HB.out.cell (World.block_lt_of_cell? w _ V0)).trans V0)
    go_wp2_with(first|(refine gd 16 Tryz.func69 (Bi.c k1 _ _ (Bl g0 D0) true _ (cx (Kd.Ai W0.out HB.out)) X0.out K0.out) fun nd=>?_))
    go_roundg k1
    case measure=>have:=HK1.out;omega
    case rel=>exact⟨(wrap64 (D0+1)),(sd),H',⟨by have:=HK1.out;omega⟩,⟨bk⟩,⟨bl⟩⟩
   .obtain rfl:=sj H;obtain⟨b1,c1,d1,e1⟩:=qk2 A0;obtain⟨Q0,R0,U0,⟨⟩,V0,W0,X0,Y0,a1⟩:=cg_L1 v0.out D0;(try replace V0:=(HB.out.cell (World.block_lt_of_cell? w _ V0)).trans V0)
    go_wp2_with(first|(refine gd 16 Tryz.func69 (Bi.c k1 _ _ (Bl g0 D0) false _ (cx (Kd.Ai W0.out HB.out)) X0.out K0.out) fun nd=>?_))
    go_ret;exact⟨er,bl⟩
  .replace H:=qb H;obtain⟨g1,j1,H⟩:=H;replace H:=qc H;obtain⟨rfl,H⟩|⟨rfl,H⟩:=H
   .obtain rfl:=sj H;obtain⟨l1,n1,p1,q1⟩:=qk2 A0
    go_wp2_with(first|(refine gd 20 Tryz.func69 (Bi.c k1 _ _ c0 true _ (cx (Kd.Ai s0.out HB.out)) t0.out j1.out) fun nd=>?_))
    go_ret;exact⟨er,bl⟩
   .obtain rfl:=sj H;obtain⟨r1,s1,t1,v1⟩:=qk2 A0
    go_wp2_with(first|(refine gd 20 Tryz.func69 (Bi.c k1 _ _ c0 false _ (cx (Kd.Ai s0.out HB.out)) t0.out j1.out) fun nd=>?_))
    go_ret;exact⟨er,bl⟩
def Cg.l0:Nat->Int->LI->LL->LI->LL->Option (LI×LL)
 |0,_,_,_,_,_=>none
 |k+1,a0,b0,c0,d0,e0=>if a0<(c0.length:Int)then((some (([]:LI):LI)).bind fun g0=>(if 0<=a0 then(if g0.length+(Bl c0 a0).length <17592186044416 then(if e0.length<5864062014805 then(Cg.l0 k (wrap64 (a0+1)) b0 c0 d0 (e0++[(g0++(Bl c0 a0))]))else(none))else(none))else(none)))else(some (d0,e0))
def Cg.f (k:Nat) (a0:LI) (b0:LL):Option (LI×LL):=(some (([]:LI):LI)).bind fun c0=>(if c0.length+a0.length<17592186044416 then(Cg.l0 k 0 a0 b0 (c0++a0) ([]:LL))else(none))
def Cg.T5:Bool×List (List Nat×List Nat):=(true,[([],[]),([0],[0]),([],[]),([],[]),([3],[3]),([],[]),([4,5],[4,5]),([6],[6]),([2,7],[2,7]),([8],[8]),([1,9,8],[1,9]),([0,1,2,3,4,5,6,7,8,9,10],[]),([11,10,10,0,1,2,3,4,5,6,7,8,9,10],[10,11])])
def Cg.B5:List Nat:=[0,1,0,0,8,0,56,120,252,508,1023,2047,4095]
theorem Cg.tab5:rtab .any (opsOf Tryz.f40 5)=Cg.T5:=by kernel_rfl
theorem Cg.bits5:Gg Cg.T5.2 Cg.B5=true:=by kernel_rfl
theorem Cg.c (k:Nat) (a0:OA) (b0:Nat) (c0:LI) (d0:OA) (e0:Nat) (g0:LL) (j0:LI) (n0:LL) (w:World) (p0:Kd.C ki w a0 c0.length c0) (q0:c0.length<=b0) (r0:Kd.C (Kd.slice 3 ki) w d0 g0.length g0) (s0:g0.length<=e0) (h:Cg.f k c0 g0=some (j0,n0)):
  Calls Tryz.prog 40 #[.agg #[.slice a0 c0.length b0,.slice d0 g0.length e0]] w fun e w'=>∃v0_ v1_:Value,e= .returned (.agg #[v0_,v1_])/\Kd.R ki 3 w' w.heap.size (fun _=>True) v0_ j0/\Kd.S (Kd.slice 3 ki) 22 w' w.heap.size (N1 v0_) v1_ n0/\Below w.heap.size w w':=by
 have t0:=Tryz.underlying27;have v0:=qa p0;have w0:=qa q0;clear p0 q0;have x0:=qa r0;have y0:=qa s0;clear r0 s0;have HB:=qa (Below.refl w.heap.size w);have H:=h;unfold Cg.f at H;clear h;replace H:=qs H;obtain⟨A0,B0,H⟩:=H
 by_cases C0:A0.length+c0.length<17592186044416
 .rw[if_pos C0]at H;have D0:=qa C0;clear C0;obtain⟨E0,hy_⟩:∃y_:LI,y_=(A0++c0):=⟨_,rfl⟩;replace H:(Cg.l0 k 0 c0 g0 E0 ([]:LL))=some (j0,n0):=yh;have G0:=qa hy_;clear hy_;have H':=qa H;clear H
  go_enter Tryz.func40,Tryz.ntmps40
  go_wp2_with(first|(refine bx 1 #[.slice a0 c0.length b0,.slice d0 g0.length e0] 27 ?_;intro J0 hg K0 hbox hb;have L0:=qa (hbox);have M0:=gw hg;replace HB:=bs hb;clear hb hbox hg)|(refine bx 2 #[.slice none 0 0,.slice none 0 0] 27 ?_;intro N0 hg P0 hbox hb;have Q0:=qa (hbox);have R0:=gw hg;replace HB:=bs hb;obtain⟨U0,V0⟩:=qnn hg L0;replace L0:=qbb L0 hb;clear hb hbox hg)|(refine rli .i64 3 5 B0.out fun W0 X0 Y0 hb=>?_;have a1:=lR Y0;replace L0:=qbb L0 hb;replace Q0:=qbb Q0 hb;replace HB:=bs hb;clear hb Y0;obtain⟨_,_⟩:=o2 U0 V0;obtain⟨b1,c1,d1,e1⟩:=qk2 L0)|((with_reducible refine Cw (b:= .append) (xs:=#[.tmp 5,.tmp 7]) rfl ?_);at_builtin;refine Kd.Jp ki (w0:=w) w.heap.size rfl (.tmp 5) (.tmp 7) 22 3 (.int .i64 0) 8 rfl Tryz.underlying22 Je rfl kd_ ko_ W0 A0 c0 _ _ _ (fun _=>True) (fun _=>False) rfl rfl ?aO ?aR (fun _ _ h=>h) (fun _ h=>h.elim) ?aF ?aB ?aS ?aL ?_;(case aR=>exact cx (Kd.Ai v0.out HB.out));(case aB=>exact(bl));(case aF=>exact(fun _ _=>trivial));(case aO=>exact(kR a1));(case aS=>exact(Cj (bl)));(case aL=>have:=D0.out;omega);intro g1 j1 ho hb hg hat;rw[<-G0.out]at ho;replace L0:=qa (Bn (g:=J0) (o:= .cells #[.slice a0 c0.length b0,.slice d0 g0.length e0] 27 (0,0)) (bk) hg (Kd.R_ne a1.out L0.out kd_));replace Q0:=qa (Bn (g:=N0) (o:= .cells #[.slice none 0 0,.slice none 0 0] 27 (0,0)) (bk) hg (Kd.R_ne a1.out Q0.out kd_));replace HB:=qa (hb);have l1:=qa (ho);clear a1;clear ho hb hg hat;obtain⟨n1,p1,rfl⟩:=Kd.An l1.out)|(refine bx 3 #[.slice none 0 0,.slice none 0 0] 27 ?_;intro q1 hg r1 hbox hb;replace l1:=bR l1 hb;have s1:=qa (hbox);have t1:=gw hg;replace HB:=bs hb;obtain⟨v1,w1⟩:=qnn hg L0;replace L0:=qbb L0 hb;obtain⟨x1,y1⟩:=qnn hg Q0;replace Q0:=qbb Q0 hb;clear hb hbox hg;obtain⟨_,_,_,_⟩:=o4 w1 v1 y1 x1;obtain⟨A1,B1,C1,D1⟩:=qk2 s1))
  go_loopg [4] k (fun kq E1 w'=>∃(G1:Int) (J1:LL) (K1:Value),E1= .int .i64 G1/\Aside0 (Cg.l0 kq G1 c0 g0 E0 J1=some (j0,n0))/\Aside0 (kq<=k)/\Aside0 (Kd.R ki 3 w' w.heap.size (fun _=>True) (.slice n1 E0.length p1) E0)/\Aside0 (Kd.S (Kd.slice 3 ki) 22 w' w.heap.size (N1 (sv n1 E0 p1)) K1 J1)/\Aside0 (w'.heap[J0]? =some (.cells #[(.slice a0 c0.length b0),(.slice d0 g0.length e0)] 27 (0,0)))/\Aside0 (w'.heap[N0]? =some (.cells #[(.slice none 0 0),(.slice none 0 0)] 27 (0,0)))/\Aside0 (w'.heap[q1]? =some (.cells #[(.slice n1 E0.length p1),K1] 27 (0,0)))/\Aside0 (Below w.heap.size w w'))
  case atStart=>exact⟨(0),(([]:LL)),(.slice none 0 0),(sd),H',⟨Nat.le_refl _⟩,⟨kFR l1 s1 (fun _ hk=>trivial)⟩,⟨z5_⟩,⟨kb L0⟩,⟨kb Q0⟩,⟨kP s1⟩,⟨bl⟩⟩
  case round=>
   clear H';obtain⟨G1,J1,K1,rfl,HA,HK1,L1,M1,L0,Q0,s1,HB⟩:=hrel;obtain⟨k1,rfl,H⟩:=kz gk HA;clear HA;simp only[Cg.l0]at H;replace H:=qe H;obtain⟨P1,H⟩|⟨P1,H⟩:=H
   .replace H:=qs H;obtain⟨Q1,R1,H⟩:=H;replace H:=qd H;obtain⟨U1,H⟩:=H;replace H:=qn H;obtain⟨V1,H⟩:=H;have W1:=qa V1;clear V1;obtain⟨X1,hy_⟩:∃y_:LI,y_=(Q1++(Bl g0 G1)):=⟨_,rfl⟩;replace H:(if J1.length<5864062014805 then(Cg.l0 k1 (wrap64 (G1+1)) c0 g0 E0 (J1++[X1]))else(none))=some (j0,n0):=yh;have Y1:=qa hy_;clear hy_;replace H:=qn H;obtain⟨a2,H⟩:=H;have b2:=qa a2;clear a2;obtain⟨c2,hy_⟩:∃y_:LL,y_=(J1++[X1]):=⟨_,rfl⟩;replace H:(Cg.l0 k1 (wrap64 (G1+1)) c0 g0 E0 c2)=some (j0,n0):=yh;have d2:=qa hy_;clear hy_;have H':=qa H;clear H;obtain⟨_,_,_,_⟩:=o4 U0 V0 v1 w1;obtain⟨e2,g2,j2,l2⟩:=qk2 L0
    try go_wp2
    replace L1:=qa (Kd.Fp L1.out);replace M1:=qa (Kd.S_drew M1.out);replace L0:=qa (Ak L0.out);replace Q0:=qa (Ak Q0.out);replace s1:=qa (Ak s1.out);replace HB:=qa (Dd HB.out);have n2:0<=(G1:Int):=qo;have p2:G1<(g0.length:Int):=qo;obtain⟨q2,r2,s2,t2,v2,w2,x2⟩:=at_L1 x0.out G1 n2 p2;have y2:=v2;cases t2;(try replace v2:=(HB.out.cell (World.block_lt_of_cell? w _ v2)).trans v2);have A2:=qa x2;have B2:=qa w2;clear x2 w2;replace n2:=eq_true n2;replace p2:=eq_true p2;refine Hq (n:=13) (S:=fun w'=>w'.cell? ⟨q1,0,none⟩=some (.slice n1 E0.length p1)/\w'.cell? ⟨q1,1,none⟩=some (K1)/\w'.cell? ⟨J0,0,none⟩=some (.slice a0 c0.length b0)/\w'.cell? ⟨J0,1,none⟩=some (.slice (some q2) g0.length e0)/\w'.cell? (q2.add (G1).toNat)=some (.slice r2 (Bl g0 G1).length s2)) (ds:=[12]) _ kr_ rfl rfl ⟨bc s1 0,bc s1 1,bc L0 0,bc L0 1,((HB.out.cell (World.block_lt_of_cell? w _ y2)).trans y2)⟩ (fun hHeld=>?_);refine Gd Cg.tab5 Cg.bits5 (fun HT_ HW_=>?_);generalize wr.drew=C2 at L1 M1 L0 Q0 s1 HB A2 v2 hHeld ⊢;refine pur 0 17 (bz 13 1) HT_ ?_;refine pur 3 20 (bz 13 9) HT_ ?_;refine pur 5 22 (bz 13 41) HT_ ?_;refine tk 1 18 (bz 13 43) hHeld (Ez HT_.out HW_.out kr_) ?_;refine tk 4 21 (bz 13 59) hHeld (Ez HT_.out HW_.out kr_) ?_;refine pur 6 23 (bz 13 123) HT_ ?_;refine tk 7 24 (bz 13 251) hHeld (Ez HT_.out HW_.out kr_) ?_;(refine o1 2 (some 19) (bz 13 255) (Dr HT_.out kr_) fun K hK=>?_);refine Kd.Hl ki _ 3 ?hg (N:=19) ?hd (xs:=([]:LI)) (inner:=[]) (ok:=fun _=>True) (okp:=fun _=>True) ?hr ?hp (fun _ hk=>hk) trivial (Below.refl _ _) (Nat.le_refl _) (by simp) ?_;(case hd=>rfl);(case hg=>rfl);(case hr=>exact gr);(case hp=>exact(Reps.none _ _));intro D2 E2 G2 hb hg_ hnew_;clear hg_ hnew_;(first|rw[<-R1.out]at G2|(simp only[Int.reduceToNat]at G2;rw[<-R1.out]at G2));replace M1:=qa (Kd.Jl (kS M1) (Kd.Av G2) hb);have J2:=lR (Kd.Cl G2 (Kd.R_lt (kR L1)));replace L1:=eR L1 (Kd.Av G2) hb;replace L0:=qbb L0 hb;replace Q0:=qbb Q0 hb;replace s1:=qbb s1 hb;replace HB:=bs hb;clear hb G2;refine hK.out _ _ ⟨bc s1 0,bc s1 1,bc L0 0,bc L0 1,((HB.out.cell (World.block_lt_of_cell? w _ y2)).trans y2)⟩ (fun hHeld=>?_);clear hK K;refine nm 19 ?_;(refine o1 8 (some 25) (bz 13 511) (Dr HT_.out kr_) fun K hK=>?_);refine Kd.R_append_rows_step ki (w0:=w) w.heap.size (by rfl) (.tmp 19) (.tmp 24) 22 3 (.int .i64 0) 8 rfl Tryz.underlying22 Je rfl kd_ ko_ D2 Q1 (Bl g0 G1) _ _ _ (N1 (sv n1 E0 p1)) (fun _=>False) rfl rfl ?aO ?aR (fun _ _ h=>h) (fun _ h=>h.elim) ?aF ?aB ?aS ?aL ?_;(case aR=>exact cx (Kd.Ai A2.out HB.out));(case aB=>exact(bl));(case aF=>exact(fun k_ hk=>Kd.Ii (Kd.R_lt (kR L1)) k_ hk));(case aO=>exact(mR J2 (fun _ hk=>hk.2)));(case aS=>exact(Cj (bl)));(case aL=>have:=W1.out;omega);intro K2 L2 ho hb hg hat;rw[<-Y1.out]at ho;replace L1:=qa (Kd.Hd (ok:=(fun _=>True)) (kR L1) hg hat);replace M1:=qa (Kd.S_after (ok:=(N1 (sv n1 E0 p1))) (kS M1) hg hat);replace L0:=qa (Bn (g:=J0) (o:= .cells #[.slice a0 c0.length b0,.slice (some q2) g0.length e0] 27 (0,0)) (bk) hg (Kd.R_ne J2.out L0.out kd_));replace Q0:=qa (Bn (g:=N0) (o:= .cells #[.slice none 0 0,.slice none 0 0] 27 (0,0)) (bk) hg (Kd.R_ne J2.out Q0.out kd_));replace s1:=qa (Bn (g:=q1) (o:= .cells #[.slice n1 E0.length p1,K1] 27 (0,0)) (bk) hg (Kd.R_ne J2.out s1.out kd_));replace HB:=qa (hb);have M2:=qa (ho);clear J2;clear ho hb hg hat;obtain⟨N2,P2,Q2⟩:=Kd.An M2.out;(first|subst Q2|(injection Q2 with f1_ f2_ f3_;have f4_:=f1_.symm;have f5_:=f3_.symm;clear f1_ f2_ f3_;subst f4_;subst f5_));refine hK.out _ _ ⟨bc s1 0,bc s1 1,bc L0 0,bc L0 1,((HB.out.cell (World.block_lt_of_cell? w _ y2)).trans y2)⟩ (fun hHeld=>?_);clear hK K;refine nm 25 ?_;(refine o1 9 (some 26) (bz 13 1023) (Dr HT_.out kr_) fun K hK=>?_);refine Gz (w1:=?_) (v:=?_) (by rfl) rfl ?_ ?_;rotate_left 2
    .go_simp
     constructor
     .rfl
     .rfl
    refine hK.out _ _ ⟨(Ip (Aw s1.out _) 0).trans rfl,(Ip (Aw s1.out _) 1).trans rfl,(Ip (Aw L0.out _) 0).trans rfl,(Ip (Aw L0.out _) 1).trans rfl,(World.cell?_alloc_lt _ _ _ (World.block_lt_of_cell? _ _ (((HB.out.cell (World.block_lt_of_cell? w _ y2)).trans y2)))).trans (((HB.out.cell (World.block_lt_of_cell? w _ y2)).trans y2))⟩ (fun hHeld=>?_);clear hK K;refine nm 26 ?_;(refine o1 10 (some 27) (bz 13 2047) (Dr HT_.out kr_) fun K hK=>?_);refine Kd.S_append_step (Kd.slice 3 ki) (w0:=w) w.heap.size (by rfl) (.tmp 18) (.tmp 26) 23 22 (.slice none 0 0) 24 rfl Tryz.underlying23 info22 rfl kd_ ko_ K1 J1 X1 [.slice N2 X1.length P2] (N1 (sv n1 E0 p1)) (fun k_=>some k_=(.slice N2 X1.length P2:Value).ownBlock) rfl rfl ?aP (fun k_ hk_=>((Kd.Cq (ok':=fun k_=>((N1 (sv n1 E0 p1))) k_/\some k_≠(K1:Value).ownBlock) (Kd.Jb (M2.out) (Kd.S_typed M1.out) kd_) (fun k_ hk=>⟨hk.1,hk.2⟩))).1 k_ hk_.symm) ?aF ?aO ?aB ?aS ?aL ?_;(case aP=>exact Kd.M_row (Kd.Cq (Kd.R_tight rfl (Kd.Cq (ok':=fun k_=>((N1 (sv n1 E0 p1))) k_/\some k_≠(K1:Value).ownBlock) (Kd.Jb (M2.out) (Kd.S_typed M1.out) kd_) (fun k_ hk=>⟨hk.1,hk.2⟩))) (fun _ h_=>h_)));(case aB=>exact(bl));(case aF=>exact(fun k_ hk=>Kd.Ii (Kd.R_lt (kR L1)) k_ hk));(case aO=>exact(mS M1 (fun k_ hk=>⟨hk.1,fun e_=>hk.2 e_⟩)));(case aS=>exact(Cj (bl)));(case aL=>have:=b2.out;omega);intro R2 U2 ho hb hg hat;rw[<-d2.out]at ho;replace L1:=qa (Kd.Hu (kR L1) (Kd.S_typed (kS M1)) kd_ hg);replace L0:=qa (Bn (g:=J0) (o:= .cells #[.slice a0 c0.length b0,.slice (some q2) g0.length e0] 27 (0,0)) (bk) hg (Kd.S_ne M1.out L0.out kd_));replace Q0:=qa (Bn (g:=N0) (o:= .cells #[.slice none 0 0,.slice none 0 0] 27 (0,0)) (bk) hg (Kd.S_ne M1.out Q0.out kd_));replace s1:=qa (Bn (g:=q1) (o:= .cells #[.slice n1 E0.length p1,K1] 27 (0,0)) (bk) hg (Kd.S_ne M1.out s1.out kd_));replace HB:=qa (hb);have V2:=qa (ho);clear M1 M2;clear ho hb hg hat;obtain⟨W2,X2,Y2⟩:=Kd.Ft V2.out;(first|subst Y2|(injection Y2 with f1_ f2_ f3_;have f4_:=f1_.symm;have f5_:=f3_.symm;clear f1_ f2_ f3_;subst f4_;subst f5_));refine hK.out _ _ ⟨bc s1 0,bc s1 1,bc L0 0,bc L0 1,((HB.out.cell (World.block_lt_of_cell? w _ y2)).trans y2)⟩ (fun hHeld=>?_);clear hK K;refine nm 27 ?_;refine pur 11 28 (bz 13 4095) HT_ ?_;refine last_ (i:=12) (N:=none) (bz 13 8191) rfl rfl (Dr HT_.out kr_) kd_ (fun K hK=>?_);have a3:U2.cell? ⟨q1,1,none⟩=some (K1):=bc s1 1;have b3:=Cn s1.out 1;obtain⟨_,_,_,_⟩:=o4 v1 x1 w1 y1;refine skip_ (w1:=?_) (by rfl) rfl ?_ ?_;rotate_left
    .go_simp
     rfl
    refine hK.out _ _ ?_;clear hK K;refine Ka (Hs HT_.out kr_) ?_
    try go_wp2
    go_roundg k1
    case measure=>have:=HK1.out;omega
    case rel=>exact⟨(wrap64 (G1+1)),(c2),(.slice W2 c2.length X2),(sd),H',⟨by have:=HK1.out;omega⟩,⟨kFR L1 s1 (fun _ hk=>trivial)⟩,⟨kFS V2 s1 (fun _ hk=>hk.1)⟩,⟨kb L0⟩,⟨kb Q0⟩,⟨kP s1⟩,⟨bl⟩⟩
   .simp only[Option.some.injEq,Prod.mk.injEq]at H;obtain⟨rfl,rfl⟩:=H;obtain⟨_,_,_,_⟩:=o4 U0 V0 v1 w1;obtain⟨c3,d3,e3,g3⟩:=qk2 L0;obtain⟨_,_⟩:=o2 y1 x1;obtain⟨j3,l3,n3,p3⟩:=qk2 s1;obtain⟨q3,r3,s3,t3⟩:=qk2 Q0;obtain⟨v3,w3,rfl⟩:=Kd.Ft M1.out;go_wp2;refine bodyPost_ret (results_cell_row rfl _ _ N0 27 #[.slice n1 E0.length p1,.slice v3 J1.length w3] (0,0) _ rfl (kP Q0) Tryz.underlying27 rfl kr_) rfl ?_;exact⟨_,_,er,kFR L1 Q0 (fun _ hk=>trivial),kFS M1 Q0 (fun _ hk=>hk.1),bl⟩
 .rw[if_neg C0]at H;exact absurd H (by simp)

mutual
def Bf.l0:Nat->LI->LI->LI->Int->Option LI
 |0,_,_,_,_=>none
 |k+1,a0,b0,c0,d0=>if d0<=24 then(Bf.l1 k a0 b0 c0 d0 1)else(some c0)
def Bf.l1:Nat->LI->LI->LI->Int->Int->Option LI
 |0,_,_,_,_,_=>none
 |k+1,a0,b0,c0,d0,e0=>if(wrap64 (d0*e0))<=24 then(if 0<=(wrap64 ((wrap64 (d0*e0))-1))then(if(wrap64 ((wrap64 (d0*e0))-1))<(c0.length:Int)then(if 0<=(wrap64 (d0-1))then(if(wrap64 (d0-1))<(a0.length:Int)then(if 0<=(wrap64 (e0-1))then(if(wrap64 (e0-1))<(b0.length:Int)then(Bf.l1 k a0 b0 (c0.set ((wrap64 ((wrap64 (d0*e0))-1)):Int).toNat (wrap64 ((rd c0 (wrap64 ((wrap64 (d0*e0))-1)))+(wrap64 ((rd a0 (wrap64 (d0-1)))*(rd b0 (wrap64 (e0-1)))))))) d0 (wrap64 (e0+1)))else(none))else(none))else(none))else(none))else(none))else(none))else(Bf.l0 k a0 b0 c0 (wrap64 (d0+1)))
end

def Bf.f (k:Nat) (a0:LI) (b0:LI):Option LI:=if 24<=35184372088832 then(Bf.l0 k a0 b0 (List.replicate 24 0) 1)else(none)
theorem Bf.mono_l:∀k,(∀a0 b0 c0 d0,LeO (Bf.l0 k a0 b0 c0 d0) (Bf.l0 (k+1) a0 b0 c0 d0))/\(∀a0 b0 c0 d0 e0,LeO (Bf.l1 k a0 b0 c0 d0 e0) (Bf.l1 (k+1) a0 b0 c0 d0 e0))
 |0=>⟨fun _ _ _ _ r h=>by simp[Bf.l0]at h,fun _ _ _ _ _ r h=>by simp[Bf.l1]at h⟩
 |k+1=>by
  obtain⟨ih0,ih1⟩:=Bf.mono_l k;refine⟨?_,?_⟩
  .intro a0 b0 c0 d0;unfold Bf.l0;exact mz
  .intro a0 b0 c0 d0 e0;unfold Bf.l1;exact mz
theorem Bf.mono:∀a0 b0 k,LeO (Bf.f k a0 b0) (Bf.f (k+1) a0 b0):=by
 intro a0 b0 k;obtain⟨ih0,ih1⟩:=Bf.mono_l k;unfold Bf.f;exact mz
def Bf.T8:Bool×List (List Nat×List Nat):=(true,[([],[]),([],[]),([],[]),([1,2],[1,2]),([3],[3]),([],[]),([],[]),([],[]),([6,7],[6,7]),([8],[8]),([5,9],[5,9]),([10],[10]),([],[]),([],[]),([13],[13]),([12,14],[12,14]),([15],[15]),([],[]),([],[]),([18],[18]),([17,19],[17,19]),([20],[20]),([16,21],[16,21]),([11,22],[11,22]),([0,4,0,1,2,3,4,5,6,7,8,9,10,11,12,13,14,15,16,17,18,19,20,21,22,23],[0,4]),([24,23,0,1,2,3,4,5,6,7,8,9,10,11,12,13,14,15,16,17,18,19,20,21,22,23],[23,24])])
def Bf.B8:List Nat:=[0,0,0,6,14,0,0,0,192,448,992,2016,0,0,8192,28672,61440,0,0,262144,917504,1966080,4190208,8388576,16777215,33554431]
theorem Bf.tab8:rtab .any (opsOf Tryz.f151 8)=Bf.T8:=by kernel_rfl
theorem Bf.bits8:Gg Bf.T8.2 Bf.B8=true:=by kernel_rfl
theorem Bf.c (k:Nat) (a0:OA) (b0:Nat) (c0:LI) (d0:OA) (e0:Nat) (g0:LI) (r:LI) (w:World) (j0:Kd.C ki w a0 c0.length c0) (n0:c0.length<=b0) (p0:Kd.C ki w d0 g0.length g0) (q0:g0.length<=e0) (h:Bf.f k c0 g0=some r):
  Calls Tryz.prog 151 #[.slice a0 c0.length b0,.slice d0 g0.length e0] w fun e w'=>∃v0_:Value,e= .returned (v0_)/\Kd.R ki 3 w' w.heap.size (fun _=>True) v0_ r/\Below w.heap.size w w':=by
 have r0:=qa j0;have s0:=qa n0;clear j0 n0;have t0:=qa p0;have v0:=qa q0;clear p0 q0;have HB:=qa (Below.refl w.heap.size w);have H:=h;unfold Bf.f at H;clear h
 by_cases w0:24<=35184372088832
 .rw[if_pos w0]at H;have x0:=eq_true w0;have y0:decide (24<=35184372088832)=true:=decide_eq_true w0;clear w0;obtain⟨A0,hy_⟩:∃y_:LI,y_=(List.replicate 24 0):=⟨_,rfl⟩;replace H:(Bf.l0 k c0 g0 A0 1)=some r:=yh;have B0:=qa hy_;clear hy_;have H':=qa H;clear H
  go_enter Tryz.func151,Tryz.ntmps151
  go_wp2_with(first|((with_reducible refine El (N:=8) rfl ?_);refine Kd.R_make ki _ 3 rfl (N:=8) rfl 22 _ _ rfl 24 rfl rfl Tryz.underlying22 (.int .i64 0) 8 Je rfl kd_ ko_ 0 (ok:=fun _=>True) (okp:=fun _=>True) rfl (fun _ hk=>hk) trivial ko_ ko_ (Below.refl _ _) (Nat.le_refl _) ?_;intro C0 D0 E0 hb hg_ hnew_;clear hg_ hnew_;(first|rw[<-B0.out]at E0|(simp only[Int.reduceToNat]at E0;rw[<-B0.out]at E0));have G0:=lR E0;replace HB:=bs hb;clear hb E0))
  go_loopg [6] k (fun kq J0 w'=>∃(K0:LI) (L0:Int),J0= .int .i64 L0/\Aside0 (Bf.l0 kq c0 g0 K0 L0=some r)/\Aside0 (kq<=k)/\Aside0 (Kd.R ki 3 w' w.heap.size (fun _=>True) C0 K0)/\Aside0 (Below w.heap.size w w'))
  case atStart=>exact⟨(A0),(1),(sd),H',⟨Nat.le_refl _⟩,⟨kR G0⟩,⟨bl⟩⟩
  case round=>
   clear H';obtain⟨K0,L0,rfl,HA,HK1,M0,HB⟩:=hrel;obtain⟨k1,rfl,H⟩:=kz gk HA;clear HA;simp only[Bf.l0]at H;replace H:=qe H;obtain⟨N0,H⟩|⟨N0,H⟩:=H
   .have H':=qa H;clear H;go_wp2
    go_loopg [7] k1 (fun kq P0 w'=>∃(Q0:LI) (R0:Int),P0= .int .i64 R0/\Aside0 (Bf.l1 kq c0 g0 Q0 L0 R0=some r)/\Aside0 (kq<=k1)/\Aside0 (Kd.R ki 3 w' w.heap.size (fun _=>True) C0 Q0)/\Aside0 (Below w.heap.size w w'))
    case atStart=>exact⟨(K0),(1),(sd),H',⟨Nat.le_refl _⟩,⟨kR M0⟩,⟨bl⟩⟩
    case round=>
     clear H';obtain⟨Q0,R0,rfl,HA,HK2,M0,HB⟩:=hrel;obtain⟨k2,rfl,H⟩:=kz gk HA;clear HA;simp only[Bf.l1]at H;replace H:=qe H;obtain⟨U0,H⟩|⟨U0,H⟩:=H
     .obtain⟨V0,W0⟩:∃j_:Int,(wrap64 ((wrap64 (L0*R0))-1))=j_:=⟨_,rfl⟩;(first|rw[W0]at H|(try simp only[W0]at H));have X0:(IntKind.i64.wrap ((wrap64 (L0*R0))-1))=V0:=(Bv _).trans W0;replace H:=qd H;obtain⟨Y0,H⟩:=H;replace H:=qd H;obtain⟨a1,H⟩:=H;obtain⟨b1,c1⟩:∃j_:Int,(wrap64 (L0-1))=j_:=⟨_,rfl⟩;(first|rw[c1]at H|(try simp only[c1]at H));have d1:(IntKind.i64.wrap (L0-1))=b1:=(Bv _).trans c1;replace H:=qd H;obtain⟨e1,H⟩:=H;replace H:=qd H;obtain⟨g1,H⟩:=H;obtain⟨j1,n1⟩:∃j_:Int,(wrap64 (R0-1))=j_:=⟨_,rfl⟩;(first|rw[n1]at H|(try simp only[n1]at H));have p1:(IntKind.i64.wrap (R0-1))=j1:=(Bv _).trans n1;replace H:=qd H;obtain⟨q1,H⟩:=H;replace H:=qd H;obtain⟨r1,H⟩:=H;obtain⟨s1,hy_⟩:∃y_:LI,y_=(Q0.set ((V0):Int).toNat (wrap64 ((rd Q0 (V0))+(wrap64 ((rd c0 (b1))*(rd g0 (j1))))))):=⟨_,rfl⟩;replace H:(Bf.l1 k2 c0 g0 s1 L0 (wrap64 (R0+1)))=some r:=yh;have t1:=qa hy_;clear hy_;have H':=qa H;clear H
      try go_wp2
      replace M0:=qa (Kd.Fp M0.out);replace HB:=qa (Dd HB.out);obtain⟨v1,w1,x1⟩:=Kd.An M0.out;(first|subst x1|(injection x1 with f1_ f2_ f3_;have f4_:=f1_.symm;have f5_:=f3_.symm;clear f1_ f2_ f3_;subst f4_;subst f5_));obtain⟨y1,⟨⟩,A1,B1,C1⟩:=ai (Kd.Ab M0.out).2.2 (V0);have D1:0<=((b1):Int):=qo;have E1:(b1)<(c0.length:Int):=qo;obtain⟨G1,J1,K1⟩:=Kd.Fx r0.out (b1) D1 E1;have L1:=K1;cases J1;(try replace K1:=(HB.out.cell (World.block_lt_of_cell? w _ K1)).trans K1);replace D1:=eq_true D1;replace E1:=eq_true E1;have M1:0<=((j1):Int):=qo;have N1:(j1)<(g0.length:Int):=qo;obtain⟨P1,Q1,R1⟩:=Kd.Fx t0.out (j1) M1 N1;have U1:=R1;cases Q1;(try replace R1:=(HB.out.cell (World.block_lt_of_cell? w _ R1)).trans R1);replace M1:=eq_true M1;replace N1:=eq_true N1;have V1:0<=((V0):Int):=qo;have W1:((V0):Int)<((Q0.length:Int):Int):=qo;obtain⟨X1,Y1,a2,b2,gl17,cl17,HG17⟩:=Kd.R_form M0.out ko_;(first|cases a2|(injection a2 with ea_ en_ ec_;(first|subst ea_|(injection ea_ with ea_;subst ea_));subst ec_;clear en_));have GB17:=qa b2;have GG17:=qa HG17;clear b2 gl17 HG17;(first|simp only[add_plain]at A1|skip);obtain⟨c2,d2⟩:=Kd.Jj 0 M0.out ((V0):Int) V1 W1;replace V1:=eq_true V1;replace W1:=eq_true W1;have HP20:=Kd.R_putn M0.out ((V0):Int) (wrap64 ((rd Q0 (V0))+(wrap64 ((rd c0 (b1))*(rd g0 (j1))))));rw[<-t1.out]at HP20;have HQ20:=qa HP20;clear HP20;refine Hq (n:=26) (S:=fun w'=>w'.cell? ⟨X1,((V0)).toNat,none⟩=some (.int .i64 (rd Q0 (V0)))/\w'.cell? (G1.add ((b1)).toNat)=some (.int .i64 (rd c0 (b1)))/\w'.cell? (P1.add ((j1)).toNat)=some (.int .i64 (rd g0 (j1)))) (ds:=[25]) _ kr_ rfl rfl ⟨A1,((HB.out.cell (World.block_lt_of_cell? w _ L1)).trans L1),((HB.out.cell (World.block_lt_of_cell? w _ U1)).trans U1)⟩ (fun hHeld=>?_);refine Gd Bf.tab8 Bf.bits8 (fun HT_ HW_=>?_);generalize wr.drew=e2 at M0 HB GG17 HQ20 d2 c2 A1 K1 R1 hHeld ⊢;refine pur 0 19 (bz 26 1) HT_ ?_;refine pur 1 20 (bz 26 3) HT_ ?_;refine pur 2 21 (bz 26 7) HT_ ?_;refine pur 3 22 (bz 26 15) HT_ ?_;refine pur 4 23 (bz 26 31) HT_ ?_;refine pur 5 24 (bz 26 63) HT_ ?_;refine pur 6 25 (bz 26 127) HT_ ?_;refine pur 7 26 (bz 26 255) HT_ ?_;refine pur 8 27 (bz 26 511) HT_ ?_;refine pur 9 28 (bz 26 1023) HT_ ?_;refine pur 10 29 (bz 26 2047) HT_ ?_;refine pur 12 31 (bz 26 6143) HT_ ?_;refine pur 13 32 (bz 26 14335) HT_ ?_;refine pur 14 33 (bz 26 30719) HT_ ?_;refine pur 15 34 (bz 26 63487) HT_ ?_;refine pur 17 36 (bz 26 194559) HT_ ?_;refine pur 18 37 (bz 26 456703) HT_ ?_;refine pur 19 38 (bz 26 980991) HT_ ?_;refine pur 20 39 (bz 26 2029567) HT_ ?_;refine tk 11 30 (bz 26 2031615) hHeld (Ez HT_.out HW_.out kr_) ?_;refine tk 16 35 (bz 26 2097151) hHeld (Ez HT_.out HW_.out kr_) ?_;refine tk 21 40 (bz 26 4194303) hHeld (Ez HT_.out HW_.out kr_) ?_;refine pur 22 41 (bz 26 8388607) HT_ ?_;refine pur 23 42 (bz 26 16777215) HT_ ?_;refine pur 24 43 (bz 26 33554431) HT_ ?_;refine last_ (i:=25) (N:=none) (bz 26 67108863) rfl rfl (Dr HT_.out kr_) kd_ (fun K hK=>?_);refine skip_ (w1:=?_) (by rfl) rfl ?_ ?_;rotate_left
      .go_simp
       rfl
      refine hK.out _ _ ?_;clear hK K;refine Ka (Hs HT_.out kr_) ?_
      try go_wp2
      go_roundg k2
      case measure=>have:=HK1.out;have:=HK2.out;omega
      case rel=>exact⟨(s1),(wrap64 (R0+1)),(sd),H',⟨by have:=HK1.out;have:=HK2.out;omega⟩,⟨by(with_reducible repeat(first|apply Kd.Ih|apply Kd.Hv|apply Kd.Fp));exact HQ20.out⟩,⟨by repeat(first|(with_reducible first|exact HB.out|apply Fg|apply Fe|apply Dd|refine Fw ?_ GB17.out)|exact HB.out)⟩⟩
     .have H':=qa H;clear H;go_wp2
      go_roundg k2
      case measure=>have:=HK1.out;have:=HK2.out;omega
      case rel=>exact⟨(Q0),(wrap64 (L0+1)),(sd),H',⟨by have:=HK1.out;have:=HK2.out;omega⟩,⟨kR M0⟩,⟨bl⟩⟩
   .obtain rfl:=sj H;go_wp2;go_ret;exact⟨_,er,kR M0,bl⟩
 .rw[if_neg w0]at H;exact absurd H (by simp)
mutual
def Ba.j0:Nat->LI->LI->Bool->Option (LI×Bool)
 |0,_,_,_=>none
 |k+1,a0,b0,c0=>if c0=true then(some ((([]:LI)),false))else(Ba.l0 k a0 b0 0)
def Ba.l0:Nat->LI->LI->Int->Option (LI×Bool)
 |0,_,_,_=>none
 |k+1,a0,b0,d0=>if d0<24 then(if 0<=d0 then(if d0<(a0.length:Int)then((Ar.f (rd a0 d0) (-10000) 10000).bind fun e0=>(if e0=true then(if d0<(b0.length:Int)then((Ar.f (rd b0 d0) (-10000) 10000).bind fun g0=>(if g0=true then(Ba.l0 k a0 b0 (wrap64 (d0+1)))else(some ((([]:LI)),false))))else(none))else(some ((([]:LI)),false))))else(none))else(none))else((Bf.f k a0 b0).bind fun n0=>(some (n0,true)))
end

def Ba.f (k:Nat) (a0:LI) (b0:LI):Option (LI×Bool):=(Bi.f k a0).bind fun c0=>(if c0=true then((Bi.f k b0).bind fun d0=>(Ba.j0 k a0 b0 (!d0)))else(Ba.j0 k a0 b0 true))
theorem Ba.mono_l:∀k,(∀a0 b0 c0,LeO (Ba.j0 k a0 b0 c0) (Ba.j0 (k+1) a0 b0 c0))/\(∀a0 b0 c0,LeO (Ba.l0 k a0 b0 c0) (Ba.l0 (k+1) a0 b0 c0))
 |0=>⟨fun _ _ _ r h=>by simp[Ba.j0]at h,fun _ _ _ r h=>by simp[Ba.l0]at h⟩
 |k+1=>by
  obtain⟨ih0,ih1⟩:=Ba.mono_l k;refine⟨?_,?_⟩
  .intro a0 b0 c0;unfold Ba.j0;have m0:= @Bi.mono;have m1:= @Bf.mono;exact mz
  .intro a0 b0 c0;unfold Ba.l0;have m0:= @Bi.mono;have m1:= @Bf.mono;exact mz
theorem Ba.mono:∀a0 b0 k,LeO (Ba.f k a0 b0) (Ba.f (k+1) a0 b0):=by
 intro a0 b0 k;obtain⟨ih0,ih1⟩:=Ba.mono_l k;unfold Ba.f;have m0:= @Bi.mono;have m1:= @Bf.mono;exact mz
theorem Ba.c (k:Nat) (a0:OA) (b0:Nat) (c0:LI) (d0:OA) (e0:Nat) (g0:LI) (n0:LI) (p0:Bool) (w:World) (q0:Kd.C ki w a0 c0.length c0) (r0:c0.length<=b0) (s0:Kd.C ki w d0 g0.length g0) (t0:g0.length<=e0) (h:Ba.f k c0 g0=some (n0,p0)):
  Calls Tryz.prog 121 #[.slice a0 c0.length b0,.slice d0 g0.length e0] w fun e w'=>∃v0_:Value,e= .returned (.tuple #[v0_,.bool p0])/\Kd.R ki 3 w' w.heap.size (fun _=>True) v0_ n0/\Below w.heap.size w w':=by
 have v0:=qa q0;have w0:=qa r0;clear q0 r0;have x0:=qa s0;have y0:=qa t0;clear s0 t0;have HB:=qa (Below.refl w.heap.size w);have H:=h;unfold Ba.f at H;clear h;have A0:=qa H;clear H
 go_enter Tryz.func121,Tryz.ntmps121
 go_upto_region 1 with(fail)
 go_cut [14] (fun B0 wc=>∃(kq:Nat) (C0:Bool),B0= .bool C0/\Aside0 (Ba.j0 kq c0 g0 C0=some (n0,p0))/\Aside0 (kq<=k)/\Aside0 (Below w.heap.size w wc))
 case first=>
  have H:=A0.out;clear A0;replace H:=qb H;obtain⟨D0,E0,H⟩:=H;replace H:=qc H;obtain⟨rfl,H⟩|⟨rfl,H⟩:=H
  .replace H:=qb H;obtain⟨G0,J0,H⟩:=H;have H':=qa H;clear H
   go_wp2_with(first|(refine gd 8 Tryz.func69 (Bi.c k _ _ c0 true _ (cx (Kd.Ai v0.out HB.out)) w0.out E0.out) fun nd=>?_)|(go_at_call 69;(with_reducible refine(Bi.c k _ _ g0 G0 _ ?K0 ?L0 J0.out).mono ?_);(case K0=>exact cx (Kd.Ai x0.out (bl)));(case L0=>exact y0.out);rintro e w' ⟨rfl,⟨nd,rfl⟩⟩))
   go_meet
   case rel=>exact⟨_,(!G0),(sd),H',⟨by first|omega|exact Nat.le_refl _⟩,⟨bl⟩⟩
  .have H':=qa H;clear H
   go_wp2_with(first|(refine gd 8 Tryz.func69 (Bi.c k _ _ c0 false _ (cx (Kd.Ai v0.out HB.out)) w0.out E0.out) fun nd=>?_))
   go_meet
   case rel=>exact⟨_,(true),(sd),H',⟨by first|omega|exact Nat.le_refl _⟩,⟨bl⟩⟩
 case rest=>
  clear A0;obtain⟨kq,C0,rfl,HA,M0,HB⟩:=hcut;obtain⟨N0,rfl,H⟩:=kz kq HA;clear HA;simp only[Ba.j0]at H;replace H:=qc H;obtain⟨rfl,H⟩|⟨rfl,H⟩:=H
  .obtain⟨P0,hy_⟩:∃y_:LI,y_=(([]:LI)):=⟨_,rfl⟩;replace H:(some (P0,false))=some (n0,p0):=yh;have Q0:=qa hy_;clear hy_;simp only[Option.some.injEq,Prod.mk.injEq]at H;obtain⟨rfl,rfl⟩:=H
   go_wp2_with(first|(refine rli .i64 3 15 Q0.out fun R0 U0 V0 hb=>?_;have W0:=lR V0;replace HB:=bs hb;clear hb V0))
   go_ret2;exact⟨_,er,kR W0,bl⟩
  .have H':=qa H;clear H;go_wp2
   go_loopg [6] N0 (fun kq X0 w'=>∃(Y0:Int),X0= .int .i64 Y0/\Aside0 (Ba.l0 kq c0 g0 Y0=some (n0,p0))/\Aside0 (kq<=N0)/\Aside0 (Below w.heap.size w w'))
   case atStart=>exact⟨(0),(sd),H',⟨Nat.le_refl _⟩,⟨bl⟩⟩
   case round=>
    clear H';obtain⟨Y0,rfl,HA,HK2,HB⟩:=hrel;obtain⟨k2,rfl,H⟩:=kz gk HA;clear HA;simp only[Ba.l0]at H;replace H:=qe H;obtain⟨a1,H⟩|⟨a1,H⟩:=H
    .replace H:=qd H;obtain⟨b1,H⟩:=H;replace H:=qd H;obtain⟨c1,H⟩:=H;replace H:=qb H;obtain⟨d1,e1,H⟩:=H;replace H:=qc H;obtain⟨rfl,H⟩|⟨rfl,H⟩:=H
     .replace H:=qd H;obtain⟨g1,H⟩:=H;replace H:=qb H;obtain⟨j1,l1,H⟩:=H;replace H:=qc H;obtain⟨rfl,H⟩|⟨rfl,H⟩:=H
      .have H':=qa H;clear H;obtain⟨n1,⟨⟩,p1,q1,r1⟩:=ai v0.out Y0;(try replace p1:=(HB.out.cell (World.block_lt_of_cell? w _ p1)).trans p1)
       go_wp2_with(first|(refine gd 24 Tryz.func84 (Ar.c (rd c0 Y0) (-10000) 10000 true _ e1.out) fun nd=>?_;obtain⟨s1,⟨⟩,t1,v1,w1⟩:=ai x0.out Y0;replace t1:=(HB.out.cell (World.block_lt_of_cell? w _ t1)).trans t1)|(go_at_call 84;(with_reducible refine gm (Ar.c (rd g0 Y0) (-10000) 10000 true _ l1.out) fun nd=>?_)))
       go_roundg k2
       case measure=>have:=M0.out;have:=HK2.out;omega
       case rel=>exact⟨(wrap64 (Y0+1)),(sd),H',⟨by have:=M0.out;have:=HK2.out;omega⟩,⟨bl⟩⟩
      .obtain⟨x1,hy_⟩:∃y_:LI,y_=(([]:LI)):=⟨_,rfl⟩;replace H:(some (x1,false))=some (n0,p0):=yh;have y1:=qa hy_;clear hy_;simp only[Option.some.injEq,Prod.mk.injEq]at H;obtain⟨rfl,rfl⟩:=H;obtain⟨n1,⟨⟩,p1,q1,r1⟩:=ai v0.out Y0;(try replace p1:=(HB.out.cell (World.block_lt_of_cell? w _ p1)).trans p1)
       go_wp2_with(first|(refine gd 24 Tryz.func84 (Ar.c (rd c0 Y0) (-10000) 10000 true _ e1.out) fun nd=>?_;obtain⟨s1,⟨⟩,t1,v1,w1⟩:=ai x0.out Y0;replace t1:=(HB.out.cell (World.block_lt_of_cell? w _ t1)).trans t1)|(go_at_call 84;(with_reducible refine gm (Ar.c (rd g0 Y0) (-10000) 10000 false _ l1.out) fun nd=>?_))|(refine rli .i64 3 34 y1.out fun A1 B1 C1 hb=>?_;have D1:=lR C1;replace HB:=bs hb;clear hb C1))
       go_ret2;exact⟨_,er,kR D1,bl⟩
     .obtain⟨E1,hy_⟩:∃y_:LI,y_=(([]:LI)):=⟨_,rfl⟩;replace H:(some (E1,false))=some (n0,p0):=yh;have G1:=qa hy_;clear hy_;simp only[Option.some.injEq,Prod.mk.injEq]at H;obtain⟨rfl,rfl⟩:=H;obtain⟨n1,⟨⟩,p1,q1,r1⟩:=ai v0.out Y0;(try replace p1:=(HB.out.cell (World.block_lt_of_cell? w _ p1)).trans p1)
      go_wp2_with(first|(refine gd 24 Tryz.func84 (Ar.c (rd c0 Y0) (-10000) 10000 false _ e1.out) fun nd=>?_)|(refine rli .i64 3 34 G1.out fun J1 K1 L1 hb=>?_;have M1:=lR L1;replace HB:=bs hb;clear hb L1))
      go_ret2;exact⟨_,er,kR M1,bl⟩
    .replace H:=qb H;obtain⟨N1,P1,H⟩:=H;simp only[Option.some.injEq,Prod.mk.injEq]at H;obtain⟨rfl,rfl⟩:=H
     go_wp2_with(first|(refine ge_ 37 Tryz.func151 (Bf.c k2 _ _ c0 _ _ g0 N1 _ (cx (Kd.Ai v0.out HB.out)) w0.out (cx (Kd.Ai x0.out HB.out)) y0.out P1.out) fun Q1 R1 U1 hb=>?_;have V1:=lR U1;replace HB:=bs hb))
     go_ret2;exact⟨_,er,kR V1,bl⟩

mutual
def Bo.j0:Nat->Int->Int->Bool->Option (Int)
 |0,_,_,_=>none
 |k+1,a0,b0,c0=>if c0=true then(some (-1))else(Bo.l0 k a0 b0)
def Bo.l0:Nat->Int->Int->Option (Int)
 |0,_,_=>none
 |k+1,a0,b0=>if b0>0 then(if b0=0 then(none)else(Bo.l0 k b0 (Int.tmod a0 b0)))else(some a0)
end

def Bo.f (k:Nat) (a0:Int) (b0:Int):Option (Int):=(Ar.f a0 1 10000).bind fun c0=>(if c0=true then((Ar.f b0 1 10000).bind fun d0=>(Bo.j0 k a0 b0 (!d0)))else(Bo.j0 k a0 b0 true))
theorem Bo.mono_l:∀k,(∀a0 b0 c0,LeO (Bo.j0 k a0 b0 c0) (Bo.j0 (k+1) a0 b0 c0))/\(∀a0 b0,LeO (Bo.l0 k a0 b0) (Bo.l0 (k+1) a0 b0))
 |0=>⟨fun _ _ _ r h=>by simp[Bo.j0]at h,fun _ _ r h=>by simp[Bo.l0]at h⟩
 |k+1=>by
  obtain⟨ih0,ih1⟩:=Bo.mono_l k;refine⟨?_,?_⟩
  .intro a0 b0 c0;unfold Bo.j0;exact mz
  .intro a0 b0;unfold Bo.l0;exact mz
theorem Bo.mono:∀a0 b0 k,LeO (Bo.f k a0 b0) (Bo.f (k+1) a0 b0):=by
 intro a0 b0 k;obtain⟨ih0,ih1⟩:=Bo.mono_l k;unfold Bo.f;exact mz
theorem Bo.c (k:Nat) (a0:Int) (b0:Int) (r:Int) (w:World) (h:Bo.f k a0 b0=some r):
  Calls Tryz.prog 125 #[.int .i64 a0,.int .i64 b0] w fun e w'=>e= .returned (.int .i64 r)/\Drawn0 w w':=by
 have H:=h;unfold Bo.f at H;clear h;have c0:=qa H;clear H
 go_enter Tryz.func125,Tryz.ntmps125
 go_upto_region 1 with(fail)
 go_cut [13] (fun d0 wc=>∃(kq:Nat) (e0:Bool),d0= .bool e0/\Aside0 (Bo.j0 kq a0 b0 e0=some r)/\Aside0 (kq<=k)/\Drawn0 w wc)
 case first=>
  have H:=c0.out;clear c0;replace H:=qb H;obtain⟨g0,n0,H⟩:=H;replace H:=qc H;obtain⟨rfl,H⟩|⟨rfl,H⟩:=H
  .replace H:=qb H;obtain⟨p0,q0,H⟩:=H;have H':=qa H;clear H
   go_wp2_with(first|(refine gd 7 Tryz.func84 (Ar.c a0 1 10000 true _ n0.out) fun nd=>?_)|(go_at_call 84;(with_reducible refine gm (Ar.c b0 1 10000 p0 _ q0.out) fun nd=>?_)))
   go_meet
   case rel=>exact⟨_,(!p0),(sd),H',⟨by first|omega|exact Nat.le_refl _⟩,dr⟩
  .have H':=qa H;clear H
   go_wp2_with(first|(refine gd 7 Tryz.func84 (Ar.c a0 1 10000 false _ n0.out) fun nd=>?_))
   go_meet
   case rel=>exact⟨_,(true),(sd),H',⟨by first|omega|exact Nat.le_refl _⟩,dr⟩
 case rest=>
  clear c0;obtain⟨kq,e0,rfl,HA,r0,⟨mc2,rfl⟩⟩:=hcut;obtain⟨s0,rfl,H⟩:=kz kq HA;clear HA;simp only[Bo.j0]at H;replace H:=qc H;obtain⟨rfl,H⟩|⟨rfl,H⟩:=H
  .obtain rfl:=sj H;go_wp2;go_ret;exact⟨sd,dr⟩
  .have H':=qa H;clear H;go_wp2
   go_loopg [0,1] s0 (fun kq t0 v0 w'=>∃(w0:Int) (x0:Int),t0= .int .i64 w0/\v0= .int .i64 x0/\Aside0 (Bo.l0 kq w0 x0=some r)/\Aside0 (kq<=s0)/\Drawn0 w w')
   case atStart=>exact⟨(a0),(b0),(sd),(sd),H',⟨Nat.le_refl _⟩,dr⟩
   case round=>
    clear H';obtain⟨w0,x0,rfl,rfl,HA,HK2,⟨m2,rfl⟩⟩:=hrel;obtain⟨k2,rfl,H⟩:=kz gk HA;clear HA;simp only[Bo.l0]at H;replace H:=qg H;obtain⟨y0,H⟩|⟨y0,H⟩:=H
    .by_cases A0:x0=0
     .rw[if_pos A0]at H;exact absurd H (by simp)
     .rw[if_neg A0]at H;have B0:(x0==0)=false:=beq_eq_false_iff_ne.mpr A0;have C0:(x0 != 0)=true:=bne_iff_ne.mpr A0;have H':=qa H;clear H;go_wp2
      go_roundg k2
      case measure=>have:=r0.out;have:=HK2.out;omega
      case rel=>exact⟨(x0),(Int.tmod w0 x0),(sd),(sd),H',⟨by have:=r0.out;have:=HK2.out;omega⟩,dr⟩
    .obtain rfl:=sj H;go_wp2;go_ret;exact⟨sd,dr⟩

def Cu.f (k:Nat) (a0:Int) (b0:Int):Option (Bool):=(Bo.f k a0 b0).bind fun c0=>(some (c0==1))
theorem Cu.mono:∀a0 b0 k,LeO (Cu.f k a0 b0) (Cu.f (k+1) a0 b0):=by
 intro a0 b0 k;unfold Cu.f;have m0:= @Bo.mono;exact mz
theorem Cu.c (k:Nat) (a0:Int) (b0:Int) (r:Bool) (w:World) (h:Cu.f k a0 b0=some r):
  Calls Tryz.prog 83 #[.int .i64 a0,.int .i64 b0] w fun e w'=>e= .returned (.bool r)/\Drawn0 w w':=by
 have H:=h;unfold Cu.f at H;clear h;replace H:=qb H;obtain⟨c0,d0,H⟩:=H;obtain rfl:=sj H
 go_enter Tryz.func83,Tryz.ntmps83
 go_wp2_with(first|(refine gd 7 Tryz.func125 (Bo.c k a0 b0 c0 _ d0.out) fun nd=>?_))
 go_ret;exact⟨sd,dr⟩

mutual
def Aj.l0:Nat->Int->LI->Int->Option LI
 |0,_,_,_=>none
 |k+1,a0,b0,c0=>if c0<=a0 then(Aj.j1 k a0 b0 c0 (decide (a0<=10000)))else(Aj.j1 k a0 b0 c0 false)
def Aj.j1:Nat->Int->LI->Int->Bool->Option LI
 |0,_,_,_,_=>none
 |k+1,a0,b0,c0,d0=>if d0=true then(if c0=0 then(none)else(if(Int.tmod a0 c0)=0 then(if b0.length<17592186044416 then(Aj.l0 k a0 (b0++[c0]) (wrap64 (c0+1)))else(none))else(Aj.l0 k a0 b0 (wrap64 (c0+1)))))else(some b0)
end

def Aj.f (k:Nat) (a0:Int):Option LI:=Aj.l0 k a0 (([]:LI)) 1
theorem Aj.mono_l:∀k,(∀a0 b0 c0,LeO (Aj.l0 k a0 b0 c0) (Aj.l0 (k+1) a0 b0 c0))/\(∀a0 b0 c0 d0,LeO (Aj.j1 k a0 b0 c0 d0) (Aj.j1 (k+1) a0 b0 c0 d0))
 |0=>⟨fun _ _ _ r h=>by simp[Aj.l0]at h,fun _ _ _ _ r h=>by simp[Aj.j1]at h⟩
 |k+1=>by
  obtain⟨ih0,ih1⟩:=Aj.mono_l k;refine⟨?_,?_⟩
  .intro a0 b0 c0;unfold Aj.l0;exact mz
  .intro a0 b0 c0 d0;unfold Aj.j1;exact mz
theorem Aj.mono:∀a0 k,LeO (Aj.f k a0) (Aj.f (k+1) a0):=by
 intro a0 k;obtain⟨ih0,ih1⟩:=Aj.mono_l k;unfold Aj.f;exact mz
theorem Aj.c (k:Nat) (a0:Int) (r:LI) (w:World) (h:Aj.f k a0=some r):
  Calls Tryz.prog 86 #[.int .i64 a0] w fun e w'=>∃v0_:Value,e= .returned (v0_)/\Kd.R ki 3 w' w.heap.size (fun _=>True) v0_ r/\Below w.heap.size w w':=by
 have HB:=qa (Below.refl w.heap.size w);have H:=h;unfold Aj.f at H;clear h;obtain⟨b0,hy_⟩:∃y_:LI,y_=(([]:LI)):=⟨_,rfl⟩;replace H:(Aj.l0 k a0 b0 1)=some r:=yh;have c0:=qa hy_;clear hy_;have H':=qa H;clear H
 go_enter Tryz.func86,Tryz.ntmps86
 go_wp2_with(first|(refine rli .i64 3 5 c0.out fun d0 e0 g0 hb=>?_;have j0:=lR g0;replace HB:=bs hb;clear hb g0))
 go_loopg [3,4] k (fun kq n0 p0 w'=>∃(q0:LI) (r0:Int),p0= .int .i64 r0/\Aside0 (Aj.l0 kq a0 q0 r0=some r)/\Aside0 (kq<=k)/\Aside0 (Kd.R ki 3 w' w.heap.size (fun _=>True) n0 q0)/\Aside0 (Below w.heap.size w w'))
 case atStart=>exact⟨(b0),(1),(sd),H',⟨Nat.le_refl _⟩,⟨kR j0⟩,⟨bl⟩⟩
 case round=>
  clear H';obtain⟨q0,r0,rfl,HA,HK1,s0,HB⟩:=hrel;obtain⟨k1,rfl,H⟩:=kz gk HA;clear HA;simp only[Aj.l0]at H;have t0:=qa H;clear H
  go_upto_region 3 with(fail)
  go_cut [12] (fun v0 wc=>∃(kq:Nat) (w0:Bool),v0= .bool w0/\Aside0 (Aj.j1 kq a0 q0 r0 w0=some r)/\Aside0 (kq<=k1)/\Aside0 (Kd.R ki 3 wc w.heap.size (fun _=>True) u3 q0)/\Aside0 (Below w.heap.size w wc))
  case first=>
   have H:=t0.out;clear t0;replace H:=qe H;obtain⟨x0,H⟩|⟨x0,H⟩:=H
   ·(first|rw[x0]|(simp only[Bv,Fc];rw[x0])|skip);have H':=qa H;clear H;go_wp2;go_meet
    case rel=>exact⟨_,(decide (a0<=10000)),(sd),H',⟨z6_⟩,⟨kR s0⟩,⟨bl⟩⟩
   ·(first|rw[x0]|(simp only[Bv,Fc];rw[x0])|skip);have H':=qa H;clear H;go_wp2;go_meet
    case rel=>exact⟨_,(false),(sd),H',⟨z6_⟩,⟨kR s0⟩,⟨bl⟩⟩
  case rest=>
   clear t0;obtain⟨kq,w0,rfl,HA,y0,s0,HB⟩:=hcut;obtain⟨A0,rfl,H⟩:=kz kq HA;clear HA;simp only[Aj.j1]at H;replace H:=qc H;obtain⟨rfl,H⟩|⟨rfl,H⟩:=H
   .by_cases B0:r0=0
    .rw[if_pos B0]at H;exact absurd H (by simp)
    .rw[if_neg B0]at H;have C0:(r0==0)=false:=beq_eq_false_iff_ne.mpr B0;have D0:(r0 != 0)=true:=bne_iff_ne.mpr B0;replace H:=qq H;obtain⟨E0,G0,H⟩|⟨J0,E0,G0,H⟩:=H
     .replace H:=qn H;obtain⟨K0,H⟩:=H;have L0:=qa K0;clear K0;obtain⟨M0,hy_⟩:∃y_:LI,y_=(q0++[r0]):=⟨_,rfl⟩;replace H:(Aj.l0 A0 a0 M0 (wrap64 (r0+1)))=some r:=yh;have N0:=qa hy_;clear hy_;have H':=qa H;clear H
      go_wp2_with(first|((with_reducible refine Cw (b:= .append) (xs:=#[.tmp 19,.tmp 21]) rfl ?_);at_builtin;refine Kd.Hc ki (w0:=w) w.heap.size rfl (.tmp 19) (.tmp 21) 22 3 (.int .i64 0) 8 rfl Tryz.underlying22 Je rfl kd_ ko_ u3 q0 r0 [.int .i64 r0] (fun _=>True) (fun _=>False) rfl rfl ?aP (fun _ hk=>hk.elim) ?aF ?aO ?aB ?aS ?aL ?_;(case aP=>exact rfl);(case aB=>exact(bl));(case aF=>exact(fun _ _=>trivial));(case aO=>exact(kR s0));(case aS=>exact(Cj (bl)));(case aL=>have:=L0.out;omega);intro P0 Q0 ho hb hg hat;rw[<-N0.out]at ho;replace HB:=qa (hb);have R0:=qa (ho);clear s0;clear ho hb hg hat))
      go_roundg A0
      case measure=>have:=HK1.out;have:=y0.out;omega
      case rel=>exact⟨(M0),(wrap64 (r0+1)),(sd),H',⟨by have:=HK1.out;have:=y0.out;omega⟩,⟨kR R0⟩,⟨bl⟩⟩
     .have H':=qa H;clear H;go_wp2
      go_roundg A0
      case measure=>have:=HK1.out;have:=y0.out;omega
      case rel=>exact⟨(q0),(wrap64 (r0+1)),(sd),H',⟨by have:=HK1.out;have:=y0.out;omega⟩,⟨kR s0⟩,⟨bl⟩⟩
   .obtain rfl:=sj H;go_wp2;go_ret;exact⟨_,er,kR s0,bl⟩
mutual
def Ae.l0:Nat->Int->LL->Int->Int->Option (LL)
 |0,_,_,_,_=>none
 |k+1,a0,b0,c0,d0=>if d0<=c0 then((Ar.f a0 1 10000).bind fun e0=>(Ae.j1 k a0 b0 c0 d0 e0))else(Ae.j1 k a0 b0 c0 d0 false)
def Ae.j1:Nat->Int->LL->Int->Int->Bool->Option (LL)
 |0,_,_,_,_,_=>none
 |k+1,a0,b0,c0,d0,g0=>if g0=true then(Ae.l1 k a0 b0 c0 d0 0)else(some b0)
def Ae.l1:Nat->Int->LL->Int->Int->Int->Option (LL)
 |0,_,_,_,_,_=>none
 |k+1,a0,b0,c0,d0,j0=>if d0=0 then(none)else(if(Int.tmod c0 d0)=0 then(Ae.l1 k a0 b0 (wrap64 (Int.tdiv c0 d0)) d0 (wrap64 (j0+1)))else(if j0>0 then(if b0.length<5864062014805 then(Ae.l0 k a0 (b0++[(([d0,j0]:LI))]) c0 (wrap64 (d0+1)))else(none))else(Ae.l0 k a0 b0 c0 (wrap64 (d0+1)))))
end

def Ae.f (k:Nat) (a0:Int):Option (LL):=Ae.l0 k a0 (([]:LL)) a0 2
theorem Ae.mono_l:∀k,(∀a0 b0 c0 d0,LeO (Ae.l0 k a0 b0 c0 d0) (Ae.l0 (k+1) a0 b0 c0 d0))/\(∀a0 b0 c0 d0 e0,LeO (Ae.j1 k a0 b0 c0 d0 e0) (Ae.j1 (k+1) a0 b0 c0 d0 e0))/\(∀a0 b0 c0 d0 e0,LeO (Ae.l1 k a0 b0 c0 d0 e0) (Ae.l1 (k+1) a0 b0 c0 d0 e0))
 |0=>⟨fun _ _ _ _ r h=>by simp[Ae.l0]at h,fun _ _ _ _ _ r h=>by simp[Ae.j1]at h,fun _ _ _ _ _ r h=>by simp[Ae.l1]at h⟩
 |k+1=>by
  obtain⟨ih0,ih1,ih2⟩:=Ae.mono_l k;refine⟨?_,?_,?_⟩
  .intro a0 b0 c0 d0;unfold Ae.l0;exact mz
  .intro a0 b0 c0 d0 e0;unfold Ae.j1;exact mz
  .intro a0 b0 c0 d0 e0;unfold Ae.l1;exact mz
theorem Ae.mono:∀a0 k,LeO (Ae.f k a0) (Ae.f (k+1) a0):=by
 intro a0 k;obtain⟨ih0,ih1,ih2⟩:=Ae.mono_l k;unfold Ae.f;exact mz
theorem Ae.c (k:Nat) (a0:Int) (r:LL) (w:World) (h:Ae.f k a0=some r):
  Calls Tryz.prog 126 #[.int .i64 a0] w fun e w'=>∃v0_:Value,e= .returned (v0_)/\Kd.S (Kd.slice 3 ki) 22 w' w.heap.size (fun _=>True) v0_ r/\Below w.heap.size w w':=by
 have HB:=qa (Below.refl w.heap.size w);have H:=h;unfold Ae.f at H;clear h;obtain⟨b0,hy_⟩:∃y_:LL,y_=(([]:LL)):=⟨_,rfl⟩;replace H:(Ae.l0 k a0 b0 a0 2)=some r:=yh;have c0:=qa hy_;clear hy_;have H':=qa H;clear H
 go_enter Tryz.func126,Tryz.ntmps126
 go_wp2_with(first|((with_reducible refine El (N:=7) rfl ?_);refine Kd.S_lit (Kd.slice 3 ki) _ 22 ?hg (N:=7) ?hd (xs:=([]:LL)) (inner:=[]) (ok:=fun _=>True) (okp:=fun _=>True) ?hr ?hp (fun _ hk=>hk) trivial (Below.refl _ _) (Nat.le_refl _) (by simp) ?_;(case hd=>rfl);(case hg=>rfl);(case hr=>exact gr);(case hp=>exact(Reps.none _ _));intro d0 e0 g0 hb hg_ hnew_;clear hg_ hnew_;(first|rw[<-c0.out]at g0|(simp only[Int.reduceToNat]at g0;rw[<-c0.out]at g0));have j0:=lS g0;replace HB:=bs hb;clear hb g0))
 go_loopg [3,4,5] k (fun kq n0 p0 q0 w'=>∃(r0:LL) (s0:Int) (t0:Int),p0= .int .i64 s0/\q0= .int .i64 t0/\Aside0 (Ae.l0 kq a0 r0 s0 t0=some r)/\Aside0 (kq<=k)/\Aside0 (Kd.S (Kd.slice 3 ki) 22 w' w.heap.size (fun _=>True) n0 r0)/\Aside0 (Below w.heap.size w w'))
 case atStart=>exact⟨(b0),(a0),(2),(sd),(sd),H',⟨Nat.le_refl _⟩,⟨kS j0⟩,⟨bl⟩⟩
 case round=>
  clear H';obtain⟨r0,s0,t0,rfl,rfl,HA,HK1,v0,HB⟩:=hrel;obtain⟨k1,rfl,H⟩:=kz gk HA;clear HA;simp only[Ae.l0]at H;have w0:=qa H;clear H
  go_upto_region 4 with(fail)
  go_cut [15] (fun x0 wc=>∃(kq:Nat) (y0:Bool),x0= .bool y0/\Aside0 (Ae.j1 kq a0 r0 s0 t0 y0=some r)/\Aside0 (kq<=k1)/\Aside0 (Kd.S (Kd.slice 3 ki) 22 wc w.heap.size (fun _=>True) u3 r0)/\Aside0 (Below w.heap.size w wc))
  case first=>
   have H:=w0.out;clear w0;replace H:=qe H;obtain⟨A0,H⟩|⟨A0,H⟩:=H
   ·(first|rw[A0]|(simp only[Bv,Fc];rw[A0])|skip);replace H:=qb H;obtain⟨B0,C0,H⟩:=H;have H':=qa H;clear H
    go_wp2_with(first|(go_at_call 84;(with_reducible refine gm (Ar.c a0 1 10000 B0 _ C0.out) fun nd=>?_)))
    go_meet
    case rel=>exact⟨_,(B0),(sd),H',⟨z6_⟩,⟨kS v0⟩,⟨bl⟩⟩
   ·(first|rw[A0]|(simp only[Bv,Fc];rw[A0])|skip);have H':=qa H;clear H;go_wp2;go_meet
    case rel=>exact⟨_,(false),(sd),H',⟨z6_⟩,⟨kS v0⟩,⟨bl⟩⟩
  case rest=>
   clear w0;obtain⟨kq,y0,rfl,HA,D0,v0,HB⟩:=hcut;obtain⟨E0,rfl,H⟩:=kz kq HA;clear HA;simp only[Ae.j1]at H;replace H:=qc H;obtain⟨rfl,H⟩|⟨rfl,H⟩:=H
   .have H':=qa H;clear H;go_wp2
    go_loopg [4,6] E0 (fun kq p0 G0 w'=>∃(J0:Int) (K0:Int),p0= .int .i64 J0/\G0= .int .i64 K0/\Aside0 (Ae.l1 kq a0 r0 J0 t0 K0=some r)/\Aside0 (kq<=E0)/\Aside0 (Kd.S (Kd.slice 3 ki) 22 w' w.heap.size (fun _=>True) u3 r0)/\Aside0 (Below w.heap.size w w'))
    case atStart=>exact⟨(s0),(0),(sd),(sd),H',⟨Nat.le_refl _⟩,⟨kS v0⟩,⟨bl⟩⟩
    case round=>
     clear H';obtain⟨J0,K0,rfl,rfl,HA,HK3,v0,HB⟩:=hrel;obtain⟨k3,rfl,H⟩:=kz gk HA;clear HA;simp only[Ae.l1]at H
     by_cases L0:t0=0
     .rw[if_pos L0]at H;exact absurd H (by simp)
     .rw[if_neg L0]at H;have M0:(t0==0)=false:=beq_eq_false_iff_ne.mpr L0;have N0:(t0 != 0)=true:=bne_iff_ne.mpr L0;replace H:=qq H;obtain⟨P0,Q0,H⟩|⟨R0,P0,Q0,H⟩:=H
      .have H':=qa H;clear H;go_wp2
       go_roundg k3
       case measure=>have:=HK1.out;have:=D0.out;have:=HK3.out;omega
       case rel=>exact⟨(wrap64 (Int.tdiv J0 t0)),(wrap64 (K0+1)),(sd),(sd),H',⟨by have:=HK1.out;have:=D0.out;have:=HK3.out;omega⟩,⟨kS v0⟩,⟨bl⟩⟩
      .replace H:=qg H;obtain⟨U0,H⟩|⟨U0,H⟩:=H
       .obtain⟨V0,hy_⟩:∃y_:LI,y_=(([t0,K0]:LI)):=⟨_,rfl⟩;replace H:(if r0.length<5864062014805 then(Ae.l0 k3 a0 (r0++[V0]) J0 (wrap64 (t0+1)))else(none))=some r:=yh;have W0:=qa hy_;clear hy_;replace H:=qn H;obtain⟨X0,H⟩:=H;have Y0:=qa X0;clear X0;obtain⟨a1,hy_⟩:∃y_:LL,y_=(r0++[V0]):=⟨_,rfl⟩;replace H:(Ae.l0 k3 a0 a1 J0 (wrap64 (t0+1)))=some r:=yh;have b1:=qa hy_;clear hy_;have H':=qa H;clear H
        go_wp2_with(first|(refine rli .i64 3 32 W0.out fun c1 d1 e1 hb=>?_;replace v0:=qa (Kd.Jl (kS v0) (Kd.Av e1) hb);have g1:=lR e1;replace HB:=bs hb;clear hb e1;obtain⟨n1,p1,rfl⟩:=Kd.An g1.out)|((with_reducible refine Cw (b:= .append) (xs:=#[.tmp 29,.tmp 33]) rfl ?_);at_builtin;refine Kd.S_append (Kd.slice 3 ki) (w0:=w) w.heap.size rfl (.tmp 29) (.tmp 33) 23 22 (.slice none 0 0) 24 rfl Tryz.underlying23 info22 rfl kd_ ko_ u3 r0 V0 [.slice n1 V0.length p1] (fun _=>True) (fun k_=>some k_=(.slice n1 V0.length p1:Value).ownBlock) rfl rfl ?aP (fun k_ hk_=>((Kd.Cq (ok':=(fun k_=>((fun _=>True)) k_/\some k_≠(u3:Value).ownBlock)) (Kd.Jb (g1.out) (Kd.S_typed v0.out) kd_) (fun k_ hk=>⟨trivial,hk.2⟩))).1 k_ hk_.symm) ?aF ?aO ?aB ?aS ?aL ?_;(case aP=>exact Kd.M_row (Kd.Cq (Kd.R_tight rfl (Kd.Cq (ok':=(fun k_=>((fun _=>True)) k_/\some k_≠(u3:Value).ownBlock)) (Kd.Jb (g1.out) (Kd.S_typed v0.out) kd_) (fun k_ hk=>⟨trivial,hk.2⟩))) (fun _ h_=>h_)));(case aB=>exact(bl));(case aF=>exact(fun _ _=>trivial));(case aO=>exact(mS v0 (fun k_ hk=>⟨trivial,fun e_=>hk.2 e_⟩)));(case aS=>exact(Cj (bl)));(case aL=>have:=Y0.out;omega);intro q1 r1 ho hb hg hat;rw[<-b1.out]at ho;replace HB:=qa (hb);have s1:=qa (ho);clear v0 g1;clear ho hb hg hat))
        go_roundg k3
        case measure=>have:=HK1.out;have:=D0.out;have:=HK3.out;omega
        case rel=>exact⟨(a1),(J0),(wrap64 (t0+1)),(sd),(sd),H',⟨by have:=HK1.out;have:=D0.out;have:=HK3.out;omega⟩,⟨kS s1⟩,⟨bl⟩⟩
       .have H':=qa H;clear H;go_wp2
        go_roundg k3
        case measure=>have:=HK1.out;have:=D0.out;have:=HK3.out;omega
        case rel=>exact⟨(r0),(J0),(wrap64 (t0+1)),(sd),(sd),H',⟨by have:=HK1.out;have:=D0.out;have:=HK3.out;omega⟩,⟨kS v0⟩,⟨bl⟩⟩
   .obtain rfl:=sj H;go_wp2;go_ret;exact⟨_,er,kS v0,bl⟩
end Go.Proofs.YtdmlkjjlgkdnlaaGreatDoor.PFnDeskSay
