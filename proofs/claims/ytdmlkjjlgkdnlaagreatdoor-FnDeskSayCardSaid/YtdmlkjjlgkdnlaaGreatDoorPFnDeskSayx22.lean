import Derived.Test.YtdmlkjjlgkdnlaaGreatDoorPFnDeskSayx21
namespace Go.Proofs.YtdmlkjjlgkdnlaaGreatDoor.PFnDeskSay
open Go.RowKit Go.Proofs.YtdmlkjjlgkdnlaaGreatDoorW.PrintWords Go.Proofs.YtdmlkjjlgkdnlaaGreatDoorW.PrintLast Go.Proofs.YtdmlkjjlgkdnlaaGreatDoorW.PrintMore
attribute [local go_sem] Iz Ix Jy Jx Hy Hx Iy Iw
set_option linter.unusedVariables false
set_option linter.unusedSimpArgs false
set_option maxHeartbeats 8000000
set_option maxRecDepth 100000
attribute [local go_sem high] eqA55
/-- The last row of a row of rows, and what stands ahead of it: apart. -/
theorem S_pop {α:Type} {d:Kd α} {e e':Nat} {w:World} {base:Nat} {ok:Nat->Prop} {ad:Addr} {n cap m:Nat} {xs:List (List α)} (h:Kd.S (Kd.slice e' d) e w base ok (.slice (some ad) n cap) xs) (hn:xs.length=m+1) (a0:n=m+1):
  ∃v,w.cell? (ad.add m)=some v/\Kd.R d e' w base (fun k=>ok k) v (xs.getD m [])/\Kd.S (Kd.slice e' d) e w base (fun k=>ok k/\some k≠v.ownBlock) (.slice (some ad) m cap) (xs.take m):=by
 obtain⟨f,hf⟩:=h;(have hlen:xs.zipIdx.length=m+1:=by rw[List.length_zipIdx];exact hn);obtain⟨c,hcl,hM,hc⟩:=Kd.R_getA hf (([]:List α),m) (m:Int) ko_ ko_
 have hz:xs.zipIdx.getD ((m:Int)).toNat (([]:List α),m)=(xs.getD m [],m):=by
  (have b0:((m:Int)).toNat =m:=by omega);rw[b0,List.getD_eq_getElem?_getD,List.getElem?_zipIdx,List.getD_eq_getElem?_getD,List.getElem?_eq_getElem ko_]
  simp
 rw[hz]at hM;obtain⟨v,rfl,hv⟩:=hM
 have hcell:w.cell? (ad.add m)=some v:=by
  have:=hc 0 v rfl
  have b0:((m:Int)).toNat *(Kd.tag f (Kd.slice e' d)).sz +0=m:=by
   show((m:Int)).toNat *1+0=m
   omega
  rwa [b0]at this
 refine⟨v,hcell,Kd.Cq hv (fun k hk=>hk.1.1),f,?_⟩;have ht:=Kd.R_take hf (m:=m) ko_
 have c0:(xs.take m).zipIdx =xs.zipIdx.take m:=by
  apply List.ext_getElem?
  intro j;rw[List.getElem?_zipIdx,List.getElem?_take,List.getElem?_take,List.getElem?_zipIdx]
  split <;> simp
 rw[c0];obtain⟨h0,inner,ho,hr⟩:=ht;(have hvb:∀k,v.ownBlock=some k->f k=m/\some k≠(Value.slice (some ad) m cap).ownBlock :=fun k hk=>⟨(hv.1 k hk).2,fun e=>(hv.1 k hk).1.2 (by rw[e];rfl)⟩);refine⟨fun k hk=>⟨h0 k hk,fun e=>(hvb k e.symm).2 hk.symm⟩,inner,ho,hr.1,fun j p hj=>?_⟩;have hq:=hr.2 j p hj
 have hp:p.2=j/\j<m:=by
  rw[List.getElem?_take]at hj
  split at hj
  .rename_i hlt
   rw[List.getElem?_zipIdx]at hj;obtain⟨x,hx,rfl⟩:=Option.map_eq_some_iff.1 hj;exact⟨by simp,hlt⟩
  .cases hj
 refine(Kd.tag f (Kd.slice e' d)).M_mono (fun k hk=>hk) ?_;exact(Kd.slice e' d).M_mono (fun k hk=>⟨⟨⟨hk.1.1,fun e=>by have:=(hvb k e.symm).1;have:=hk.2;omega⟩,hk.1.2⟩,hk.2⟩) hq
theorem w64_small (x:Int) (h0:0<=x) (h1:x<4096):wrap64 x=x:=by
 unfold wrap64
 omega

mutual
def Co.j0:Nat->Bool->LI->LL->Int->Int->Int->LI->LL->Option (LI×LL×Bool)
 |0,_,_,_,_,_,_,_,_=>none
 |k+1,a0,b0,c0,d0,e0,g0,l0,n0=>if a0=true then(if 0<n0.length/\n0.length<4096 then(some (n0.getD (n0.length-1) [],n0.take (n0.length-1),true))else none)else((Bq.f k b0 d0 e0 g0).bind fun p0=>(if p0.2=true then((Gh.f k p0.1 b0).bind fun q0=>(Co.j1 k p0.1 q0 l0 n0))else(Co.j1 k p0.1 true l0 n0)))
def Co.j1:Nat->LI->Bool->LI->LL->Option (LI×LL×Bool)
 |0,_,_,_,_=>none
 |k+1,r0,s0,l0,n0=>if s0=true then(some (l0,n0,false))else(if n0.length<5864062014805 then((some (n0++[l0]:LL)).bind fun t0=>(if(t0.length:Int)>8 then(if 1<=(t0.length:Int)then(some (r0,(t0.drop (1:Int).toNat),true))else(none))else(some (r0,t0,true))))else(none))
end

def Co.f (k:Nat) (a0:LI) (b0:LL) (c0:Int) (d0:Int) (e0:Int):Option (LI×LL×Bool):=(Dj.f k a0 b0).bind fun g0=>(if g0=true then((Cg.f k a0 b0).bind fun l0=>(if(c0==4&&(d0==0&&(e0==0)))=true then(Co.j0 k (decide ((b0.length:Int)>0)) a0 b0 c0 d0 e0 l0.1 l0.2)else(Co.j0 k false a0 b0 c0 d0 e0 l0.1 l0.2)))else(some (([]:LI),([]:LL),false)))
theorem Co.c (k:Nat) (a0:OA) (b0:Nat) (c0:LI) (d0:OA) (e0:Nat) (g0:LL) (l0:Int) (n0:Int) (p0:Int) (q0:LI) (r0:LL) (s0:Bool) (w:World) (t0:Kd.C ki w a0 c0.length c0) (v0:c0.length<=b0) (w0:Kd.C (Kd.slice 3 ki) w d0 g0.length g0) (x0:g0.length<=e0) (h:Co.f k c0 g0 l0 n0 p0=some (q0,r0,s0)):
  Calls Tryz.prog 42 #[.agg #[.slice a0 c0.length b0,.slice d0 g0.length e0],.agg #[.int .i64 l0,.int .i64 n0,.int .i64 p0]] w fun e w'=>∃v0_ v1_:Value,e= .returned (.tuple #[.agg #[v0_,v1_],.bool s0])/\Kd.R ki 3 w' w.heap.size (fun _=>True) v0_ q0/\Kd.Q (Kd.slice 3 ki) 22 w' w.heap.size (N1 v0_) v1_ r0/\Below w.heap.size w w':=by
 have y0:=Tryz.underlying27;have A0:=Tryz.underlying55;have B0:=qa t0;have C0:=qa v0;clear t0 v0;have D0:=qa w0;have E0:=qa x0;clear w0 x0;have HB:=qa (Below.refl w.heap.size w);have H:=h;unfold Co.f at H;clear h;replace H:=qb H;obtain⟨G0,J0,H⟩:=H;replace H:=qc H;obtain⟨rfl,H⟩|⟨rfl,H⟩:=H
 .replace H:=qb H;obtain⟨⟨K0,L0⟩,M0,H⟩:=H;(try dsimp only at H);have N0:=qa H;clear H
  go_enter Tryz.func42,Tryz.ntmps42
  go_upto_region 4 with(go_big_may;first|((with_reducible refine El (N:=2) rfl ?_);(try(refine Ds (by rfl) ?_;dsimp only));refine bx 2 #[.slice a0 c0.length b0,.slice d0 g0.length e0] 27 ?_;intro P0 hg Q0 hbox hb;have R0:=qa (hbox);have U0:=gw hg;replace HB:=bs hb;clear hb hbox hg)|((with_reducible refine El (N:=3) rfl ?_);(try(refine Ds (by rfl) ?_;dsimp only));refine bx 3 #[.int .i64 l0,.int .i64 n0,.int .i64 p0] 55 ?_;intro V0 hg W0 hbox hb;have X0:=qa (hbox);have Y0:=gw hg;replace HB:=bs hb;obtain⟨a1,b1⟩:=qnn hg R0;replace R0:=qbb R0 hb;clear hb hbox hg)|((with_reducible refine El (N:=4) rfl ?_);(try(refine Ds (by rfl) ?_;dsimp only));refine bx 4 #[.slice none 0 0,.slice none 0 0] 27 ?_;intro c1 hg d1 hbox hb;have e1:=qa (hbox);have g1:=gw hg;replace HB:=bs hb;obtain⟨l1,n1⟩:=qnn hg R0;replace R0:=qbb R0 hb;obtain⟨p1,q1⟩:=qnn hg X0;replace X0:=qbb X0 hb;clear hb hbox hg;obtain⟨_,_,_,_⟩:=o4 a1 b1 l1 n1;obtain⟨r1,s1,t1,v1⟩:=qk2 R0)|(refine gb 11 Tryz.func20 (Dj.c k _ _ c0 _ _ g0 true _ (cx (Kd.Ai B0.out HB.out)) C0.out (cx (Kd.Ai D0.out HB.out)) E0.out J0.out) fun w1 hb=>?_;replace R0:=qbb R0 hb;replace X0:=qbb X0 hb;replace e1:=qbb e1 hb;replace HB:=bs hb;obtain⟨x1,y1,A1,B1⟩:=qk2 R0)|(refine gol (some 15) Tryz.func40 #[.agg #[.slice a0 c0.length b0,.slice d0 g0.length e0]] ?_;(with_reducible refine(Cg.c k _ _ c0 _ _ g0 K0 L0 _ ?C1 ?D1 ?E1 ?G1 M0.out).mono ?_);(case C1=>exact cx (Kd.Ai B0.out HB.out));(case D1=>exact C0.out);(case E1=>exact cx (Kd.Ai D0.out HB.out));(case G1=>exact E0.out);rintro e J1 ⟨K1,L1,rfl,M1,P1,hb⟩;refine⟨_,rfl,?_⟩;have Q1:=lR M1;have R1:=lS P1;replace R0:=qbb R0 hb;replace X0:=qbb X0 hb;replace e1:=qbb e1 hb;replace HB:=bs hb)|((with_reducible refine El (N:=6) rfl ?_);(try(refine Ds (by rfl) ?_;dsimp only));refine bx 6 #[.slice none 0 0,.slice none 0 0] 27 ?_;intro U1 hg V1 hbox hb;replace Q1:=bR Q1 hb;replace R1:=bS R1 hb;have W1:=qa (hbox);have X1:=gw hg;replace HB:=bs hb;obtain⟨Y1,a2⟩:=qnn hg R0;replace R0:=qbb R0 hb;obtain⟨b2,c2⟩:=qnn hg X0;replace X0:=qbb X0 hb;obtain⟨d2,e2⟩:=qnn hg e1;replace e1:=qbb e1 hb;clear hb hbox hg;obtain⟨g2,j2,rfl⟩:=Kd.An Q1.out;obtain⟨_,_,_,_,_,_⟩:=o6 a2 Y1 c2 b2 e2 d2;obtain⟨l2,n2,p2,q2⟩:=qk2 W1;obtain⟨r2,s2,rfl⟩:=Kd.Ft R1.out))
  (try simp only[Act.put,sA,sZ,sS])
  go_cut [24] (fun t2 wc=>∃(kq:Nat) (v2:Bool),t2= .bool v2/\Aside0 (Co.j0 kq v2 c0 g0 l0 n0 p0 K0 L0=some (q0,r0,s0))/\Aside0 (kq<=k)/\Aside0 (Kd.R ki 3 wc w.heap.size (fun _=>True) (.slice g2 K0.length j2) K0)/\Aside0 (Kd.S (Kd.slice 3 ki) 22 wc w.heap.size (N1 (sv g2 K0 j2)) (.slice r2 L0.length s2) L0)/\Aside0 (wc.heap[P0]? =some (.cells #[(.slice a0 c0.length b0),(.slice d0 g0.length e0)] 27 (0,0)))/\Aside0 (wc.heap[V0]? =some (.cells #[.int .i64 l0,.int .i64 n0,.int .i64 p0] 55 (0,0)))/\Aside0 (wc.heap[c1]? =some (.cells #[(.slice none 0 0),(.slice none 0 0)] 27 (0,0)))/\Aside0 (wc.heap[U1]? =some (.cells #[(.slice g2 K0.length j2),(.slice r2 L0.length s2)] 27 (0,0)))/\Aside0 (Below w.heap.size w wc))
  case first=>
   have H:=N0.out;clear N0
   by_cases w2:(l0==4&&(n0==0&&(p0==0)))=true
   .rw[if_pos w2]at H;have x2:(l0==4&&(n0==0&&(p0==0)))=true:=w2;(try(have y2:decide (l0=4&&(n0==0&&(p0==0)))=true:=by simpa using w2));(try(have A2:(l0==4&&(n0==0&&(p0==0)))=true:=by simpa using w2));clear w2;(first|rw[x2]|(simp only[Bv,Fc];rw[x2])|skip);have H':=qa H;clear H;obtain⟨_,_,_,_,_,_⟩:=o6 b1 a1 p1 q1 b2 c2;obtain⟨B2,C2,D2,E2,G2,J2⟩:=qk3 X0;obtain⟨_,_,_,_⟩:=o4 l1 n1 Y1 a2;obtain⟨K2,L2,M2,P2⟩:=qk2 R0;go_wp2;go_meet
    case rel=>exact⟨_,(decide ((g0.length:Int)>0)),(sd),H',⟨by first|omega|exact Nat.le_refl _⟩,⟨kFR Q1 W1 (fun _ hk=>trivial)⟩,⟨(kFS R1 W1 (fun _ hk=>hk.1))⟩,⟨kb R0⟩,⟨kb X0⟩,⟨kb e1⟩,⟨kP W1⟩,⟨bl⟩⟩
   .rw[if_neg w2]at H;(have x2:(l0==4&&(n0==0&&(p0==0)))=false:=by simpa using w2);(try(have y2:decide (l0=4&&(n0==0&&(p0==0)))=false:=by simpa using w2));(try(have A2:(l0==4&&(n0==0&&(p0==0)))=false:=by simpa using w2));(try(have Q2:¬(l0=4&&(n0==0&&(p0==0))):=by simpa using w2));clear w2;(first|rw[x2]|(simp only[Bv,Fc];rw[x2])|skip);have H':=qa H;clear H;obtain⟨_,_,_,_,_,_⟩:=o6 b1 a1 p1 q1 b2 c2;obtain⟨R2,U2,V2,W2,X2,Y2⟩:=qk3 X0;go_wp2;go_meet
    case rel=>exact⟨_,(false),(sd),H',⟨by first|omega|exact Nat.le_refl _⟩,⟨kFR Q1 W1 (fun _ hk=>trivial)⟩,⟨(kFS R1 W1 (fun _ hk=>hk.1))⟩,⟨kb R0⟩,⟨kb X0⟩,⟨kb e1⟩,⟨kP W1⟩,⟨bl⟩⟩
  case rest=>
   clear N0;obtain⟨kq,v2,rfl,HA,a3,b3,c3,R0,X0,e1,W1,HB⟩:=hcut;obtain⟨d3,rfl,H⟩:=kz kq HA;clear HA;simp only[Co.j0]at H
   by_cases e3:v2=true
   .subst e3;(have H1:(if 0<L0.length/\L0.length<4096 then(some (L0.getD (L0.length-1) [],L0.take (L0.length-1),true))else none)=some (q0,r0,s0):=by rw[if_pos rfl]at H;exact H);clear H
    by_cases c_:0<L0.length/\L0.length<4096
    .rw[if_pos c_]at H1;simp only[Option.some.injEq,Prod.mk.injEq]at H1;obtain⟨e1_,e2_,rfl⟩:=H1;obtain⟨j_,hj_⟩:∃j_:Int,(L0.length:Int)-1=j_:=⟨_,rfl⟩;(have hm_:L0.length=j_.toNat+1:=by omega);(have em_:L0.length-1=j_.toNat:=by omega);rw[em_]at e1_ e2_;have hPc_:=(Kd.Ab (Kd.S_R c3.out)).2.1
     obtain⟨ad_,ea_⟩:∃ad_,r2=some ad_:=by
      obtain⟨g_,c2_,e_,_⟩:=Kd.S_form c3.out ko_;(injection e_ with e_ _ _);exact⟨_,e_⟩
     subst ea_;obtain⟨v_,hcell_,hv_,hrest_⟩:=S_pop c3.out hm_ hm_;rw[e1_]at hv_;rw[e2_]at hrest_;obtain⟨Av_,cv_,ev_⟩:=Kd.An hv_;subst ev_;have hQ_:=Kd.Gv (Kd.S_R hrest_);(have hwj_:IntKind.i64.wrap ((L0.length:Int)-1)=j_:=by rw[Bv,hj_];exact w64_small _ ko_ ko_);have hp_:(0<=j_)=True:=eq_true ko_;have hq_:(j_<(L0.length:Int))=True:=eq_true ko_;obtain⟨i0_,hi0_,_,hsz_,_⟩:=info_parts info22;have hcut_:=cut_to (P:=Tryz.prog) 23 22 .i64 Tryz.underlying23 hi0_ (some ad_) L0.length s2 j_ ko_ ko_ hPc_;clear hi0_ hsz_ hrest_ e1_ e2_ hm_ em_ c_ hj_ hPc_;obtain⟨_,_,_,_,_,_,_,_,_,_⟩:=o10 l1 Y1 p1 b2 n1 q1 d2 a2 c2 e2;obtain⟨hcy_0,hcy_1,hfy_0,hfy_1⟩:=qk2 W1;have hcx_0:wc.cell? ⟨c1,0,none⟩=some (.slice none 0 0):=bc e1 0;have hcx_1:wc.cell? ⟨c1,1,none⟩=some (.slice none 0 0):=bc e1 1;have hfx_0:=Cn e1.out 0;have hfx_1:=Cn e1.out 1;go_wp2;refine bodyPost_ret (Da rfl _ _ c1 27 #[.slice Av_ q0.length cv_,.slice (some ad_) j_.toNat s2] (0,0) _ rfl (by(with_reducible repeat(first|refine Bb ?_ _|refine Ak ?_|refine Aw ?_ _));refine Fy (cs:=#[.slice Av_ q0.length cv_,.slice none 0 0]) ?_ 1 _ rfl;(with_reducible repeat(first|refine Bb ?_ _|refine Ak ?_|refine Aw ?_ _));refine Fy (cs:=#[.slice none 0 0,.slice none 0 0]) ?_ 0 _ rfl;(with_reducible repeat(first|refine Bb ?_ _|refine Ak ?_|refine Aw ?_ _));refine Fs ?_ d2.out _;(with_reducible repeat(first|refine Bb ?_ _|refine Ak ?_|refine Aw ?_ _));refine Fs ?_ d2.out _;(with_reducible repeat(first|refine Bb ?_ _|refine Ak ?_|refine Aw ?_ _));exact e1.out) Tryz.underlying27 rfl kr_) rfl ?_;exact⟨_,_,er,kGR hv_ W1 e1 (fun _ hk=>trivial),kGQ hQ_ W1 e1 (fun _ hk=>hk.1.1.2),bl⟩
    .rw[if_neg c_]at H1;exact absurd H1 (by simp)
   .replace e3:=Bool.eq_false_iff.mpr e3;subst e3;have HQ_:=qa (Kd.Gv (Kd.S_R c3.out));clear c3;have c3:=HQ_;clear HQ_;replace H:=qf H;replace H:=qb H;obtain⟨⟨g3,j3⟩,l3,H⟩:=H;(try dsimp only at H);have n3:=qa H;clear H;obtain⟨_,_,_,_,_,_⟩:=o6 a1 b1 l1 n1 Y1 a2;obtain⟨p3,q3,r3,s3⟩:=qk2 R0;obtain⟨_,_,_,_⟩:=o4 p1 q1 b2 c2;obtain⟨t3,v3,w3,x3,y3,A3⟩:=qk3 X0
    go_upto_region 10 with(go_big_may;first|(refine ge_ 45 Tryz.func80 (Bq.c d3 _ _ c0 l0 n0 p0 g3 j3 _ (cx (Kd.Ai B0.out HB.out)) C0.out l3.out) fun B3 C3 M1 hb=>?_;replace c3:=eQ c3 (Kd.Av M1) hb;have D3:=lR (Kd.Cl M1 (Kd.R_lt (kR b3)));replace b3:=eR b3 (Kd.Av M1) hb;replace R0:=qbb R0 hb;replace X0:=qbb X0 hb;replace e1:=qbb e1 hb;replace W1:=qbb W1 hb;replace HB:=bs hb))
    (try simp only[Act.put,sA,sZ,sS])
    go_cut [55] (fun E3 wc=>∃(kq:Nat) (G3:Bool),E3= .bool G3/\Aside0 (Co.j1 kq g3 G3 K0 L0=some (q0,r0,s0))/\Aside0 (kq<=d3)/\Aside0 (Kd.R ki 3 wc w.heap.size (N1 (sv g2 K0 j2)) B3 g3)/\Aside0 (Kd.R ki 3 wc w.heap.size (N1 B3) (.slice g2 K0.length j2) K0)/\Aside0 (Kd.Q (Kd.slice 3 ki) 22 wc w.heap.size (N2 B3 (sv g2 K0 j2)) (.slice r2 L0.length s2) L0)/\Aside0 (wc.heap[P0]? =some (.cells #[(.slice a0 c0.length b0),(.slice d0 g0.length e0)] 27 (0,0)))/\Aside0 (wc.heap[V0]? =some (.cells #[.int .i64 l0,.int .i64 n0,.int .i64 p0] 55 (0,0)))/\Aside0 (wc.heap[c1]? =some (.cells #[(.slice none 0 0),(.slice none 0 0)] 27 (0,0)))/\Aside0 (wc.heap[U1]? =some (.cells #[(.slice g2 K0.length j2),(.slice r2 L0.length s2)] 27 (0,0)))/\Aside0 (Below w.heap.size w wc))
    case first=>
     have H:=n3.out;clear n3;replace H:=qc H;obtain⟨rfl,H⟩|⟨rfl,H⟩:=H
     .replace H:=qb H;obtain⟨J3,K3,H⟩:=H;have H':=qa H;clear H;obtain⟨_,_,_,_,_,_⟩:=o6 a1 b1 l1 n1 Y1 a2;obtain⟨L3,M3,N3,P3⟩:=qk2 R0;obtain⟨Q3,R3,rfl⟩:=Kd.An D3.out
      go_wp2_with(first|(go_at_call 81;(with_reducible refine(Gh.c d3 _ _ g3 _ _ c0 J3 _ ?C1 ?D1 ?E1 ?G1 K3.out).mono ?_);(case C1=>exact cx (Kd.Ab D3.out).2.2);(case D1=>exact(Kd.Ab D3.out).2.1);(case E1=>exact cx (Kd.Ai B0.out HB.out));(case G1=>exact C0.out);rintro e w' ⟨rfl,⟨nd,rfl⟩⟩))
      go_meet
      case rel=>exact⟨_,(J3),(sd),H',⟨by have:=a3.out;first|omega|exact Nat.le_refl _⟩,⟨mR D3 (fun _ hk=>hk.2)⟩,⟨mR b3 (fun _ hk=>hk.2)⟩,⟨mQ c3 (fun _ hk=>⟨hk.2,hk.1⟩)⟩,⟨bk⟩,⟨bk⟩,⟨bk⟩,⟨bk⟩,⟨bl⟩⟩
     .have H':=qa H;clear H;go_wp2;go_meet
      case rel=>exact⟨_,(true),(sd),H',⟨by have:=a3.out;first|omega|exact Nat.le_refl _⟩,⟨mR D3 (fun _ hk=>hk.2)⟩,⟨mR b3 (fun _ hk=>hk.2)⟩,⟨mQ c3 (fun _ hk=>⟨hk.2,hk.1⟩)⟩,⟨bk⟩,⟨bk⟩,⟨bk⟩,⟨bk⟩,⟨bl⟩⟩
    case rest=>
     clear n3;obtain⟨kq,G3,rfl,HA,U3,V3,b3,c3,R0,X0,e1,W1,HB⟩:=hcut;obtain⟨W3,rfl,H⟩:=kz kq HA;clear HA;simp only[Co.j1]at H;replace H:=qc H;obtain⟨rfl,H⟩|⟨rfl,H⟩:=H
     .simp only[Option.some.injEq,Prod.mk.injEq]at H;obtain⟨rfl,rfl,rfl⟩:=H;obtain⟨_,_,_,_,_,_⟩:=o6 a2 Y1 c2 b2 e2 d2;obtain⟨X3,Y3,a4,b4⟩:=qk2 W1;obtain⟨_,_,_,_⟩:=o4 n1 l1 q1 p1;obtain⟨c4,d4,e4,g4⟩:=qk2 e1;go_wp2;refine bodyPost_ret (Da rfl _ _ c1 27 #[.slice g2 K0.length j2,.slice r2 L0.length s2] (0,0) _ rfl (kP e1) Tryz.underlying27 rfl kr_) rfl ?_;exact⟨_,_,er,kFR b3 e1 (fun _ hk=>trivial),kFQ c3 e1 (fun _ hk=>hk.1.2),bl⟩
     .replace H:=qn H;obtain⟨j4,H⟩:=H;have l4:=qa j4;clear j4;replace H:=qs H;obtain⟨n4,p4,H⟩:=H
      by_cases q4:(n4.length:Int)>8
      .rw[if_pos q4]at H;have r4:decide (8<(n4.length:Int))=true:=decide_eq_true q4;have s4:decide (8<n4.length)=true:=decide_eq_true ko_;clear q4;replace H:=qn H;obtain⟨t4,H⟩:=H;have v4:=eq_true t4;have w4:decide (1<=(n4.length:Int))=true:=decide_eq_true t4;clear t4;obtain⟨x4,hy_⟩:∃y_:LL,y_=(n4.drop (1:Int).toNat):=⟨_,rfl⟩;replace H:(some (g3,x4,true))=some (q0,r0,s0):=yh;have y4:=qa hy_;clear hy_;simp only[Option.some.injEq,Prod.mk.injEq]at H;obtain⟨rfl,rfl,rfl⟩:=H;obtain⟨_,_,_,_,_,_⟩:=o6 a2 Y1 c2 b2 e2 d2;obtain⟨A4,B4,C4,D4⟩:=qk2 W1
       go_wp2_with(first|((with_reducible refine Cw (b:= .append) (xs:=#[.tmp 58,.tmp 61]) rfl ?_);(try(refine Ds (by rfl) ?_;dsimp only));at_builtin;refine Kd.Q_append (Kd.slice 3 ki) (w0:=w) w.heap.size rfl (.tmp 58) (.tmp 61) 23 22 (.slice none 0 0) 24 rfl Tryz.underlying23 info22 rfl kd_ ko_ (.slice r2 L0.length s2) L0 K0 [.slice g2 K0.length j2] (N1 B3) (fun k_=>((N1 B3)) k_/\some k_≠(sv r2 L0 s2).ownBlock) rfl rfl ?aP (fun _ hk=>hk) ?aF ?aO ?aB ?aS ?aL ?_;(case aP=>exact Kd.M_row (Kd.Cq (Kd.Jb (b3.out) (Kd.Q_typed c3.out) kd_) (fun k_ hk=>⟨hk.1,hk.2⟩)));(case aB=>exact(bl));(case aF=>exact(fun k_ hk=>Kd.Ii (Kd.R_lt (kR V3)) k_ hk));(case aO=>exact(mQ c3 (fun _ hk=>hk.1)));(case aS=>exact(Cj (bl)));(case aL=>have:=l4.out;omega);intro E4 G4 ho hb hg hat;rw[<-p4.out]at ho;replace V3:=qa (Kd.Hu (kR V3) (Kd.Q_typed (kQ c3)) kd_ hg);replace R0:=qa (Bn (g:=P0) (o:= .cells #[.slice a0 c0.length b0,.slice d0 g0.length e0] 27 (0,0)) (bk) hg (Kd.Q_ne c3.out R0.out kd_));replace X0:=qa (Bn (g:=V0) (o:= .cells #[.int .i64 l0,.int .i64 n0,.int .i64 p0] 55 (0,0)) (bk) hg (Kd.Q_ne c3.out X0.out kd_));replace e1:=qa (Bn (g:=c1) (o:= .cells #[.slice none 0 0,.slice none 0 0] 27 (0,0)) (bk) hg (Kd.Q_ne c3.out e1.out kd_));replace W1:=qa (Bn (g:=U1) (o:= .cells #[.slice g2 K0.length j2,.slice r2 L0.length s2] 27 (0,0)) (bk) hg (Kd.Q_ne c3.out W1.out kd_));replace HB:=qa (hb);have J4:=qa (ho);clear c3 b3;clear ho hb hg hat;obtain⟨K4,L4,M4,_⟩:=Kd.Fj J4.out;subst M4;obtain⟨N4,P4,Q4,R4⟩:=qk2 W1)|((with_reducible refine Gm (t:=23) (p:=63) rfl ?_);refine Ga (t:=23) (p:=63) (v:=?vo_w71) (w1:=(G4.setCell ⟨U1,1,none⟩ (.slice K4 n4.length L4))) ?hg ?ho ?hn ?hr ?_;(case ho=>rfl);(case hg=>rfl);(case hn=>rfl);(case hr=>exact gr);intro U4 hw;have n0_:Aside0 (Kd.R ki 3 U4 w.heap.size (fun _=>True) B3 g3):=⟨(by rw[hw];exact(kFR V3 W1 (fun _ hk=>trivial)))⟩;have n1_:Aside0 (Kd.Q (Kd.slice 3 ki) 22 U4 w.heap.size (N1 B3) (.slice K4 n4.length L4) n4):=⟨(by rw[hw];exact(kFQ J4 W1 (fun _ hk=>hk.1)))⟩;have n2_:Aside0 (U4.heap[P0]? =some (.cells #[.slice a0 c0.length b0,.slice d0 g0.length e0] 27 (0,0))):=⟨(by rw[hw];exact(kb R0))⟩;have n3_:Aside0 (U4.heap[V0]? =some (.cells #[.int .i64 l0,.int .i64 n0,.int .i64 p0] 55 (0,0))):=⟨(by rw[hw];exact(kb X0))⟩;have n4_:Aside0 (U4.heap[c1]? =some (.cells #[.slice none 0 0,.slice none 0 0] 27 (0,0))):=⟨(by rw[hw];exact(kb e1))⟩;have n5_:Aside0 (U4.heap[U1]? =some (.cells #[.slice g2 K0.length j2,.slice K4 n4.length L4] 27 (0,0))):=⟨(by rw[hw];exact(kP W1))⟩;have n6_:Aside0 (Below w.heap.size w U4):=⟨(by rw[hw];exact(bl))⟩;clear hw;clear V3;clear J4;clear R0;clear X0;clear e1;clear W1;clear HB;have V3:=n0_;have J4:=n1_;have R0:=n2_;have X0:=n3_;have e1:=n4_;have W1:=n5_;have HB:=n6_;clear n0_ n1_ n2_ n3_ n4_ n5_ n6_;obtain⟨V4,W4,X4,Y4⟩:=qk2 W1;have a5:(1:Int)<=((n4.length:Int):Int):=qo;obtain⟨i073,b5,_,c5,_⟩:=info_parts info22;have d5:=cut_from (P:=Tryz.prog) 23 22 .i64 Tryz.underlying23 b5 1 c5 K4 n4.length L4 1 ko_ a5;have e5:=Kd.Q_drop (k:=(1:Int).toNat) J4.out ko_;obtain⟨g5,hA73⟩:∃j5,j5=(if L4=(1:Int).toNat then K4 else(K4:OA).map (·.add ((1:Int).toNat *1))):=⟨_,rfl⟩;obtain⟨l5,n5⟩:∃p5,p5=L4-(1:Int).toNat :=⟨_,rfl⟩;have q5:x4.length=n4.length-(1:Int).toNat :=(by rw[y4.out,List.length_drop]);rw[<-y4.out]at e5;rw[<-q5,<-hA73,<-n5]at d5;replace e5:Kd.Q (Kd.slice 3 ki) 22 U4 w.heap.size (N1 B3) (.slice g5 x4.length l5) x4:=(by rw[hA73,n5,q5];exact e5);have HE73:Aside0 ((Value.slice g5 x4.length l5).ownBlock =(.slice K4 n4.length L4:Value).ownBlock):=⟨by rw[hA73];split <;> (cases (K4:OA) <;> rfl)⟩;clear q5 b5 c5 J4 hA73 n5;have r5:=qa e5;clear e5;replace a5:=eq_true a5;obtain⟨s5,t5,rfl⟩:=Kd.An V3.out;obtain⟨_,_,_,_⟩:=o4 n1 l1 q1 p1;obtain⟨v5,w5,x5,y5⟩:=qk2 e1))
       refine bodyPost_ret (Da rfl _ _ c1 27 #[.slice s5 g3.length t5,.slice g5 x4.length l5] (0,0) _ rfl (by(with_reducible repeat(first|refine Bb ?_ _|refine Ak ?_|refine Aw ?_ _));refine Fy (cs:=#[.slice s5 g3.length t5,.slice none 0 0]) ?_ 1 _ rfl;(with_reducible repeat(first|refine Bb ?_ _|refine Ak ?_|refine Aw ?_ _));refine Fy (cs:=#[.slice none 0 0,.slice none 0 0]) ?_ 0 _ rfl;(with_reducible repeat(first|refine Bb ?_ _|refine Ak ?_|refine Aw ?_ _));refine Fs ?_ d2.out _;(with_reducible repeat(first|refine Bb ?_ _|refine Ak ?_|refine Aw ?_ _));refine Fs ?_ d2.out _;(with_reducible repeat(first|refine Bb ?_ _|refine Ak ?_|refine Aw ?_ _));exact e1.out) Tryz.underlying27 rfl kr_) rfl ?_;exact⟨_,_,er,kGR V3.out W1 e1 (fun _ hk=>trivial),kGQ r5.out W1 e1 (fun _ hk=>hk.1.1),bl⟩
      .rw[if_neg q4]at H;have r4:decide (8<(n4.length:Int))=false:=decide_eq_false q4;have s4:decide (8<n4.length)=false:=decide_eq_false ko_;clear q4;simp only[Option.some.injEq,Prod.mk.injEq]at H;obtain⟨rfl,rfl,rfl⟩:=H;obtain⟨_,_,_,_,_,_⟩:=o6 a2 Y1 c2 b2 e2 d2;obtain⟨A5,B5,C5,D5⟩:=qk2 W1
       go_wp2_with(first|((with_reducible refine Cw (b:= .append) (xs:=#[.tmp 58,.tmp 61]) rfl ?_);(try(refine Ds (by rfl) ?_;dsimp only));at_builtin;refine Kd.Q_append (Kd.slice 3 ki) (w0:=w) w.heap.size rfl (.tmp 58) (.tmp 61) 23 22 (.slice none 0 0) 24 rfl Tryz.underlying23 info22 rfl kd_ ko_ (.slice r2 L0.length s2) L0 K0 [.slice g2 K0.length j2] (N1 B3) (fun k_=>((N1 B3)) k_/\some k_≠(sv r2 L0 s2).ownBlock) rfl rfl ?aP (fun _ hk=>hk) ?aF ?aO ?aB ?aS ?aL ?_;(case aP=>exact Kd.M_row (Kd.Cq (Kd.Jb (b3.out) (Kd.Q_typed c3.out) kd_) (fun k_ hk=>⟨hk.1,hk.2⟩)));(case aB=>exact(bl));(case aF=>exact(fun k_ hk=>Kd.Ii (Kd.R_lt (kR V3)) k_ hk));(case aO=>exact(mQ c3 (fun _ hk=>hk.1)));(case aS=>exact(Cj (bl)));(case aL=>have:=l4.out;omega);intro E4 E5 ho hb hg hat;rw[<-p4.out]at ho;replace V3:=qa (Kd.Hu (kR V3) (Kd.Q_typed (kQ c3)) kd_ hg);replace R0:=qa (Bn (g:=P0) (o:= .cells #[.slice a0 c0.length b0,.slice d0 g0.length e0] 27 (0,0)) (bk) hg (Kd.Q_ne c3.out R0.out kd_));replace X0:=qa (Bn (g:=V0) (o:= .cells #[.int .i64 l0,.int .i64 n0,.int .i64 p0] 55 (0,0)) (bk) hg (Kd.Q_ne c3.out X0.out kd_));replace e1:=qa (Bn (g:=c1) (o:= .cells #[.slice none 0 0,.slice none 0 0] 27 (0,0)) (bk) hg (Kd.Q_ne c3.out e1.out kd_));replace W1:=qa (Bn (g:=U1) (o:= .cells #[.slice g2 K0.length j2,.slice r2 L0.length s2] 27 (0,0)) (bk) hg (Kd.Q_ne c3.out W1.out kd_));replace HB:=qa (hb);have J4:=qa (ho);clear c3 b3;clear ho hb hg hat;obtain⟨G5,J5,K5,_⟩:=Kd.Fj J4.out;subst K5;obtain⟨L5,M5,N5,P5⟩:=qk2 W1;obtain⟨Q5,R5,rfl⟩:=Kd.An V3.out;obtain⟨_,_,_,_⟩:=o4 n1 l1 q1 p1;obtain⟨U5,V5,W5,X5⟩:=qk2 e1))
       refine bodyPost_ret (Da rfl _ _ c1 27 #[.slice Q5 g3.length R5,.slice G5 n4.length J5] (0,0) _ rfl (by(with_reducible repeat(first|refine Bb ?_ _|refine Ak ?_|refine Aw ?_ _));refine Fy (cs:=#[.slice Q5 g3.length R5,.slice none 0 0]) ?_ 1 _ rfl;(with_reducible repeat(first|refine Bb ?_ _|refine Ak ?_|refine Aw ?_ _));refine Fy (cs:=#[.slice none 0 0,.slice none 0 0]) ?_ 0 _ rfl;(with_reducible repeat(first|refine Bb ?_ _|refine Ak ?_|refine Aw ?_ _));refine Fs ?_ d2.out _;(with_reducible repeat(first|refine Bb ?_ _|refine Ak ?_|refine Aw ?_ _));refine Fs ?_ d2.out _;(with_reducible repeat(first|refine Bb ?_ _|refine Ak ?_|refine Aw ?_ _));exact e1.out) Tryz.underlying27 rfl kr_) rfl ?_;exact⟨_,_,er,kGR V3.out W1 e1 (fun _ hk=>trivial),kGQ J4.out W1 e1 (fun _ hk=>hk.1.1),bl⟩
 .simp only[Option.some.injEq,Prod.mk.injEq]at H;obtain⟨rfl,rfl,rfl⟩:=H
  go_enter Tryz.func42,Tryz.ntmps42
  go_wp2_with(first|((with_reducible refine El (N:=2) rfl ?_);(try(refine Ds (by rfl) ?_;dsimp only));refine bx 2 #[.slice a0 c0.length b0,.slice d0 g0.length e0] 27 ?_;intro P0 hg Y5 hbox hb;have R0:=qa (hbox);have U0:=gw hg;replace HB:=bs hb;clear hb hbox hg)|((with_reducible refine El (N:=3) rfl ?_);(try(refine Ds (by rfl) ?_;dsimp only));refine bx 3 #[.int .i64 l0,.int .i64 n0,.int .i64 p0] 55 ?_;intro V0 hg a6 hbox hb;have X0:=qa (hbox);have Y0:=gw hg;replace HB:=bs hb;obtain⟨a1,b1⟩:=qnn hg R0;replace R0:=qbb R0 hb;clear hb hbox hg)|((with_reducible refine El (N:=4) rfl ?_);(try(refine Ds (by rfl) ?_;dsimp only));refine bx 4 #[.slice none 0 0,.slice none 0 0] 27 ?_;intro c1 hg b6 hbox hb;have e1:=qa (hbox);have g1:=gw hg;replace HB:=bs hb;obtain⟨l1,n1⟩:=qnn hg R0;replace R0:=qbb R0 hb;obtain⟨p1,q1⟩:=qnn hg X0;replace X0:=qbb X0 hb;clear hb hbox hg;obtain⟨_,_,_,_⟩:=o4 a1 b1 l1 n1;obtain⟨c6,d6,e6,g6⟩:=qk2 R0)|(refine gb 11 Tryz.func20 (Dj.c k _ _ c0 _ _ g0 false _ (cx (Kd.Ai B0.out HB.out)) C0.out (cx (Kd.Ai D0.out HB.out)) E0.out J0.out) fun j6 hb=>?_;replace R0:=qbb R0 hb;replace X0:=qbb X0 hb;replace e1:=qbb e1 hb;replace HB:=bs hb;obtain⟨_,_⟩:=o2 q1 p1;obtain⟨l6,n6,p6,q6⟩:=qk2 e1))
  refine bodyPost_ret (Da rfl _ _ c1 27 #[.slice none 0 0,.slice none 0 0] (0,0) _ rfl (kP e1) Tryz.underlying27 rfl kr_) rfl ?_;exact⟨_,_,er,z2_,Kd.Gv ((Kd.S_R z5_)),bl⟩

def Ad.j0:Nat->Int->Bool->LI->Int->Option (Int×Int)
 |0,_,_,_,_=>none
 |k+1,a0,b0,c0,d0=>if b0=true then(some (0,d0))else(if(wrap64 (d0-1))<(c0.length:Int)then(if 0<=(wrap64 (d0-1))then(if a0=0 then(none)else(some (Int.tmod (wrap64 (rd c0 (wrap64 (d0-1)))) a0,d0)))else(none))else(if(c0.length:Int)=0 then(none)else(if 0<=(Int.tmod (wrap64 (d0-1)) (c0.length:Int))then(if(Int.tmod (wrap64 (d0-1)) (c0.length:Int))<(c0.length:Int)then(if 0<=(Int.tmod (wrap64 ((wrap64 ((wrap64 (d0-1))*7))+3)) (c0.length:Int))then(if(Int.tmod (wrap64 ((wrap64 ((wrap64 (d0-1))*7))+3)) (c0.length:Int))<(c0.length:Int)then(if a0=0 then(none)else(some (Int.tmod (Go.bits .xor .i64 (wrap64 ((wrap64 ((wrap64 ((wrap64 ((wrap64 (rd c0 (Int.tmod (wrap64 (d0-1)) (c0.length:Int))))*131))+(wrap64 ((wrap64 (rd c0 (Int.tmod (wrap64 ((wrap64 ((wrap64 (d0-1))*7))+3)) (c0.length:Int))))*1117))))+(wrap64 ((wrap64 (d0-1))*29))))+(wrap64 ((wrap64 (Int.tdiv (wrap64 (d0-1)) (c0.length:Int)))*53)))) (wrap64 (Int.tdiv (wrap64 ((wrap64 ((wrap64 ((wrap64 ((wrap64 (rd c0 (Int.tmod (wrap64 (d0-1)) (c0.length:Int))))*131))+(wrap64 ((wrap64 (rd c0 (Int.tmod (wrap64 ((wrap64 ((wrap64 (d0-1))*7))+3)) (c0.length:Int))))*1117))))+(wrap64 ((wrap64 (d0-1))*29))))+(wrap64 ((wrap64 (Int.tdiv (wrap64 (d0-1)) (c0.length:Int)))*53)))) 64))) a0,d0)))else(none))else(none))else(none))else(none))))
def Ad.f (k:Nat) (s0_0:LI) (s0_1:Int) (a0:Int):Option (Int×Int):=if a0<1 then(Ad.j0 k a0 true s0_0 (wrap64 (s0_1+1)))else(Ad.j0 k a0 ((s0_0.length:Int)==0) s0_0 (wrap64 (s0_1+1)))
theorem Ad.c (k:Nat) (g:Nat) (s0_0:LI) (s0_1:Int) (a0:Int) (b0:Int) (c0:Int) (d0 w:World) (hI:Aa d0 w g s0_0 s0_1) (hB:Below d0.heap.size d0 w) (h:Ad.f k s0_0 s0_1 a0=some (b0,c0)):
  Calls Tryz.prog 64 #[.pointer (some ⟨g,0,none⟩),.int .i64 a0] w fun e w'=>e= .returned (.int .i64 b0)/\Aa d0 w' g s0_0 c0/\Below d0.heap.size d0 w'/\Ac w w' g none:=by
 have e0:=qa hI;have HK:=qa (Ac.refl w g none);have HL:=qa hB.size;clear hI;have HW0:=qa hB.size;have HB:=qa hB;clear hB;have H:=h;unfold Ad.f at H;clear h;have g0:=qa H;clear H;obtain⟨ASz4_0,cSz4_0,HGz4,l0,HSz4_0⟩:=e0.out;have n0:=cellS105_0 HGz4;have p0:=cellS105_1 HGz4;have q0:=Cn HGz4 1;clear HGz4 l0
 go_enter Tryz.func64,Tryz.ntmps64
 go_upto_region 2 with(fail)
 repeat(go_quiet(fail);go_upto_region 2 with(fail))
 go_cut [24] (fun r0 wc=>∃(kq:Nat) (s0:Bool),r0= .bool s0/\Aside0 (Ad.j0 kq a0 s0 s0_0 (wrap64 (s0_1+1))=some (b0,c0))/\Aside0 (kq<=k)/\Aside0 (Aa d0 wc g s0_0 (wrap64 (s0_1+1)))/\Aside0 (Ac w wc g none)/\Aside0 (Below d0.heap.size d0 wc))
 case first=>
  have H:=g0.out;clear g0;replace H:=qe H;obtain⟨t0,H⟩|⟨t0,H⟩:=H
  ·(first|rw[t0]|(simp only[Bv,Fc];rw[t0])|skip);have H':=qa H;clear H;go_wp2
   repeat(go_quiet(fail);try go_wp2)
   go_meet
   case rel=>exact⟨_,(true),(sd),H',⟨by first|omega|exact Nat.le_refl _⟩,⟨kI e0⟩,⟨kK⟩,⟨bl⟩⟩
  ·(first|rw[t0]|(simp only[Bv,Fc];rw[t0])|skip);have H':=qa H;clear H;obtain⟨ASz6_0,cSz6_0,HGz6,v0,HSz6_0⟩:=e0.out;have w0:=cellS105_0 HGz6;have x0:=cellS105_1 HGz6;have y0:=Cn HGz6 1;clear HGz6 v0;go_wp2
   repeat(go_quiet(fail);try go_wp2)
   go_meet
   case rel=>exact⟨_,(((s0_0.length:Int)==0)),(sd),H',⟨by first|omega|exact Nat.le_refl _⟩,⟨kI e0⟩,⟨kK⟩,⟨bl⟩⟩
 case rest=>
  clear g0;obtain⟨kq,s0,rfl,HA,A0,e0,HK,HB⟩:=hcut;obtain⟨B0,rfl,H⟩:=kz kq HA;clear HA;simp only[Ad.j0]at H;replace H:=qc H;obtain⟨rfl,H⟩|⟨rfl,H⟩:=H
  .simp only[Option.some.injEq,Prod.mk.injEq]at H;obtain⟨rfl,rfl⟩:=H;go_wp2
   repeat(go_quiet(fail);try go_wp2)
   go_ret;exact⟨er,kI e0,bl,kK⟩
  .replace H:=qe H;obtain⟨C0,H⟩|⟨C0,H⟩:=H
   .obtain⟨D0,E0⟩:∃j_:Int,(wrap64 ((wrap64 (s0_1+1))-1))=j_:=⟨_,rfl⟩;(first|rw[E0]at H|(try simp only[E0]at H));(try rw[E0]at C0);have G0:(IntKind.i64.wrap ((wrap64 (s0_1+1))-1))=D0:=(Bv _).trans E0;replace H:=qd H;obtain⟨J0,H⟩:=H
    by_cases K0:a0=0
    .rw[if_pos K0]at H;exact absurd H (by simp)
    .rw[if_neg K0]at H;have L0:(a0==0)=false:=beq_eq_false_iff_ne.mpr K0;have M0:(a0 != 0)=true:=bne_iff_ne.mpr K0;simp only[Option.some.injEq,Prod.mk.injEq]at H;obtain⟨rfl,rfl⟩:=H;obtain⟨ASz12_0,cSz12_0,HGz12,N0,HSz12_0⟩:=e0.out;have P0:=cellS105_0 HGz12;have Q0:=cellS105_1 HGz12;have R0:=Cn HGz12 1;clear HGz12 N0;have U0:0<=((D0):Int):=qo;have V0:(D0)<(s0_0.length:Int):=qo;obtain⟨W0,X0,Y0⟩:=Kd.Fx HSz12_0 (D0) U0 V0;cases X0;replace Y0:=Jn HB.out Y0;replace U0:=eq_true U0;replace V0:=eq_true V0;go_wp2
     repeat(go_quiet(fail);try go_wp2)
     go_ret;exact⟨by first|rfl|(simp[Ca,Bz];exact⟨rfl,rfl⟩)|(simp[Ca,Bz] <;> rfl)|(simp only[<-E0];first|rfl|(simp[Ca,Bz] <;> rfl))|(simp[*,Ca,Bz] <;> rfl),kI e0,bl,kK⟩
   .by_cases a1:(s0_0.length:Int)=0
    .rw[if_pos a1]at H;exact absurd H (by simp)
    .rw[if_neg a1]at H;have b1:((s0_0.length:Int)==0)=false:=beq_eq_false_iff_ne.mpr a1;have c1:((s0_0.length:Int) != 0)=true:=bne_iff_ne.mpr a1;(have d1:¬(s0_0=[]):=fun h_=>a1 (by rw[h_];rfl));obtain⟨e1,g1⟩:∃j_:Int,(Int.tmod (wrap64 ((wrap64 (s0_1+1))-1)) (s0_0.length:Int))=j_:=⟨_,rfl⟩;(first|rw[g1]at H|(try simp only[g1]at H))
     by_cases j1:0<=(e1)
     .rw[if_pos j1]at H;have l1:decide (0<=(e1))=true:=decide_eq_true j1;clear j1;replace H:=qd H;obtain⟨n1,H⟩:=H;obtain⟨p1,q1⟩:∃j_:Int,(Int.tmod (wrap64 ((wrap64 ((wrap64 ((wrap64 (s0_1+1))-1))*7))+3)) (s0_0.length:Int))=j_:=⟨_,rfl⟩;(first|rw[q1]at H|(try simp only[q1]at H));replace H:=qd H;obtain⟨r1,H⟩:=H;replace H:=qd H;obtain⟨s1,H⟩:=H
      by_cases t1:a0=0
      .rw[if_pos t1]at H;exact absurd H (by simp)
      .rw[if_neg t1]at H;have v1:(a0==0)=false:=beq_eq_false_iff_ne.mpr t1;have w1:(a0 != 0)=true:=bne_iff_ne.mpr t1;simp only[Option.some.injEq,Prod.mk.injEq]at H;obtain⟨rfl,rfl⟩:=H;obtain⟨ASz21_0,cSz21_0,HGz21,x1,HSz21_0⟩:=e0.out;have y1:=cellS105_0 HGz21;have A1:=cellS105_1 HGz21;have B1:=Cn HGz21 1;clear HGz21 x1;have C1:0<=((e1):Int):=qo;have D1:(e1)<(s0_0.length:Int):=qo;obtain⟨E1,G1,J1⟩:=Kd.Fx HSz21_0 (e1) C1 D1;cases G1;replace J1:=Jn HB.out J1;replace C1:=eq_true C1;replace D1:=eq_true D1;have K1:0<=((p1):Int):=qo;have L1:(p1)<(s0_0.length:Int):=qo;obtain⟨M1,N1,P1⟩:=Kd.Fx HSz21_0 (p1) K1 L1;obtain rfl:E1=M1:=(by injection N1);replace P1:=Jn HB.out P1;replace K1:=eq_true K1;replace L1:=eq_true L1;go_wp2
       repeat(go_quiet(fail);try go_wp2)
       go_ret;exact⟨by first|rfl|(simp[Ca,Bz];exact⟨rfl,rfl⟩)|(simp[Ca,Bz] <;> rfl)|(simp only[<-g1,<-q1];first|rfl|(simp[Ca,Bz] <;> rfl))|(simp[*,Ca,Bz] <;> rfl),kI e0,bl,kK⟩
     .rw[if_neg j1]at H;exact absurd H (by simp)

def Eg.f (k:Nat) (s0_0:LI) (s0_1:Int) (a0:Int):Option (Bool×Int):=if a0>0 then((Ad.f k s0_0 s0_1 a0).bind fun b0=>(some ((b0.1==(wrap64 (a0-1))),b0.2)))else(some (false,s0_1))
theorem Eg.c (k:Nat) (g:Nat) (s0_0:LI) (s0_1:Int) (a0:Int) (b0:Bool) (c0:Int) (d0 w:World) (hI:Aa d0 w g s0_0 s0_1) (hB:Below d0.heap.size d0 w) (h:Eg.f k s0_0 s0_1 a0=some (b0,c0)):
  Calls Tryz.prog 66 #[.pointer (some ⟨g,0,none⟩),.int .i64 a0] w fun e w'=>e= .returned (.bool b0)/\Aa d0 w' g s0_0 c0/\Below d0.heap.size d0 w'/\Ac w w' g none:=by
 have e0:=qa hI;have HK:=qa (Ac.refl w g none);have HL:=qa hB.size;clear hI;have HW0:=qa hB.size;have HB:=qa hB;clear hB;have H:=h;unfold Eg.f at H;clear h;replace H:=qg H;obtain⟨g0,H⟩|⟨g0,H⟩:=H
 .replace H:=qb H;obtain⟨⟨j0,l0⟩,n0,H⟩:=H;(try dsimp only at H);simp only[Option.some.injEq,Prod.mk.injEq]at H;obtain⟨rfl,rfl⟩:=H
  go_enter Tryz.func66,Tryz.ntmps66
  go_wp2_with(first|(go_at_call 64;(with_reducible refine(Ad.c k g s0_0 s0_1 a0 j0 l0 d0 _ ?p0 ?q0 n0.out).mono ?_);(case p0=>exact kI e0);(case q0=>exact bl);rintro e r0 ⟨rfl,hi,hb,hk⟩;replace HK:=qa (Ac.trans (w:=w) (kK) hk (.inl rfl));replace HB:=qa (hb);replace e0:=qa (hi)))
  go_ret;exact⟨er,kI e0,bl,kK⟩
 .simp only[Option.some.injEq,Prod.mk.injEq]at H;obtain⟨rfl,rfl⟩:=H
  go_enter Tryz.func66,Tryz.ntmps66
  go_wp2;go_ret;exact⟨er,kI e0,bl,kK⟩

def Gs.f (k:Nat) (a0:Int):Option (LI×LL×Bool):=(Bw.f k a0).bind fun b0=>(some (b0,([]:LL),decide ((b0.length:Int)>0)))
theorem Gs.mono:∀a0 k,LeO (Gs.f k a0) (Gs.f (k+1) a0):=by
 intro a0 k;unfold Gs.f;have m0:= @Bw.mono;exact mz
theorem Gs.c (k:Nat) (a0:Int) (b0:LI) (c0:LL) (d0:Bool) (w:World) (h:Gs.f k a0=some (b0,c0,d0)):
  Calls Tryz.prog 115 #[.int .i64 a0] w fun e w'=>∃v0_ v1_:Value,e= .returned (.tuple #[.agg #[v0_,v1_],.bool d0])/\Kd.R ki 3 w' w.heap.size (fun _=>True) v0_ b0/\Kd.S (Kd.slice 3 ki) 22 w' w.heap.size (N1 v0_) v1_ c0/\Below w.heap.size w w':=by
 have e0:=Tryz.underlying27;have HB:=qa (Below.refl w.heap.size w);have H:=h;unfold Gs.f at H;clear h;replace H:=qb H;obtain⟨g0,j0,H⟩:=H;simp only[Option.some.injEq,Prod.mk.injEq]at H;obtain⟨rfl,rfl,rfl⟩:=H
 go_enter Tryz.func115,Tryz.ntmps115
 go_wp2_with(first|(refine bx 2 #[.slice none 0 0,.slice none 0 0] 27 ?_;intro l0 hg n0 hbox hb;have p0:=qa (hbox);have q0:=gw hg;replace HB:=bs hb;clear hb hbox hg)|(refine ge_ 6 Tryz.func122 (Bw.c k a0 g0 _ j0.out) fun r0 s0 t0 hb=>?_;have v0:=lR t0;replace p0:=qbb p0 hb;replace HB:=bs hb;obtain⟨w0,x0,rfl⟩:=Kd.An v0.out;obtain⟨y0,A0,B0,C0⟩:=qk2 p0))
 refine bodyPost_ret (Da rfl _ _ l0 27 #[.slice w0 g0.length x0,.slice none 0 0] (0,0) _ rfl (kP p0) Tryz.underlying27 rfl kr_) rfl ?_;exact⟨_,_,er,kFR v0 p0 (fun _ hk=>trivial),z5_,bl⟩
end Go.Proofs.YtdmlkjjlgkdnlaaGreatDoor.PFnDeskSay
