import Derived.Test.YtdmlkjjlgkdnlaaGreatDoorPFnExactDeskLinex25
namespace Go.Proofs.YtdmlkjjlgkdnlaaGreatDoor.PFnExactDeskLine
open Go.RowKit Go.Proofs.YtdmlkjjlgkdnlaaGreatDoorW.PrintWords Go.Proofs.YtdmlkjjlgkdnlaaGreatDoorW.PrintLast Go.Proofs.YtdmlkjjlgkdnlaaGreatDoorW.PrintMore
attribute [local go_sem] max2_int min2_int max_two min_two max_three min_three max_four min_four
set_option linter.unusedVariables false
set_option linter.unusedSimpArgs false
/-- The last row of a row of rows, and what stands ahead of it: apart. -/
theorem S_pop2 {α:Type} {d:Kd α} {e e':Nat} {w:World} {base:Nat} {ok:Nat→Prop} {ad:Addr} {n cap m:Nat} {xs:List (List α)} (h:Kd.S (Kd.slice e' d) e w base ok (.slice (some ad) n cap) xs) (hn:xs.length=m+1) (a0:n=m+1):
  ∃v,w.cell? (ad.add m)=some v∧Kd.R d e' w base (fun k=>ok k) v (xs.getD m [])∧Kd.S (Kd.slice e' d) e w base (fun k=>ok k∧some k≠v.ownBlock) (.slice (some ad) m cap) (xs.take m):=by
 obtain⟨f,hf⟩:=h;(have hlen:xs.zipIdx.length=m+1:=by rw[List.length_zipIdx];exact hn);obtain⟨c,hcl,hM,hc⟩:=Kd.R_getA hf (([]:List α),m) (m:Int) (by omega) (by omega)
 have hz:xs.zipIdx.getD ((m:Int)).toNat (([]:List α),m)=(xs.getD m [],m):=by
  (have b0:((m:Int)).toNat =m:=by omega);rw[b0,List.getD_eq_getElem?_getD,List.getElem?_zipIdx,List.getD_eq_getElem?_getD,List.getElem?_eq_getElem (by omega)]
  simp
 rw[hz]at hM;obtain⟨v,rfl,hv⟩:=hM
 have hcell:w.cell? (ad.add m)=some v:=by
  have:=hc 0 v rfl
  have b0:((m:Int)).toNat *(Kd.tag f (Kd.slice e' d)).sz +0=m:=by
   show((m:Int)).toNat *1+0=m
   omega
  rwa [b0]at this
 refine⟨v,hcell,Kd.R_mono hv (fun k hk=>hk.1.1),f,?_⟩;have ht:=Kd.R_take hf (m:=m) (by omega)
 have c0:(xs.take m).zipIdx =xs.zipIdx.take m:=by
  apply List.ext_getElem?
  intro j;rw[List.getElem?_zipIdx,List.getElem?_take,List.getElem?_take,List.getElem?_zipIdx]
  split <;> simp
 rw[c0];obtain⟨h0,inner,ho,hr⟩:=ht;(have hvb:∀k,v.ownBlock=some k→f k=m∧some k≠(Value.slice (some ad) m cap).ownBlock :=fun k hk=>⟨(hv.1 k hk).2,fun e=>(hv.1 k hk).1.2 (by rw[e];rfl)⟩);refine⟨fun k hk=>⟨h0 k hk,fun e=>(hvb k e.symm).2 hk.symm⟩,inner,ho,hr.1,fun j p hj=>?_⟩;have hq:=hr.2 j p hj
 have hp:p.2=j∧j<m:=by
  rw[List.getElem?_take]at hj
  split at hj
  ·rename_i hlt
   rw[List.getElem?_zipIdx]at hj;obtain⟨x,hx,rfl⟩:=Option.map_eq_some_iff.1 hj;exact⟨by simp,hlt⟩
  ·cases hj
 refine(Kd.tag f (Kd.slice e' d)).M_mono (fun k hk=>hk) ?_;exact(Kd.slice e' d).M_mono (fun k hk=>⟨⟨⟨hk.1.1,fun e=>by have:=(hvb k e.symm).1;have:=hk.2;omega⟩,hk.1.2⟩,hk.2⟩) hq
theorem w64_small2 (x:Int) (h0:0≤x) (h1:x<4096):wrap64 x=x:=by
 unfold wrap64
 omega

mutual
def impl_DeskDo.j0:Nat→Bool→List Int→List (List Int)→Int→Int→Int→List Int→List (List Int)→Option (List Int×(List (List Int))×Bool)
 |0,_,_,_,_,_,_,_,_=>none
 |k+1,a0,b0,c0,d0,e0,g0,l0,n0=>if a0=true then(some (l0,n0,false))else(if d0=0 then((impl_NamedRow.f k e0).bind fun p0=>((impl_TimesOf.f k b0 p0).bind fun q0=>(impl_DeskDo.j1 k q0.1 q0.2 b0 c0 l0 n0)))else(if d0=1 then((impl_NamedRow.f k e0).bind fun r0=>((impl_UnitaryTimes.f k b0 r0).bind fun s0=>(impl_DeskDo.j1 k s0.1 s0.2 b0 c0 l0 n0)))else(if d0=2 then((impl_InverseOf.f k b0).bind fun t0=>(impl_DeskDo.j1 k t0.1 t0.2 b0 c0 l0 n0))else(if d0=3 then(if e0≥1 then(if e0≤24 then(if g0≥0 then(if g0≤9999 then((slices_Clone_int_int.f k b0).bind fun v0=>(if 0≤(wrap64 (e0-1))then(if(wrap64 (e0-1))<(v0.length:Int)then(impl_DeskDo.j1 k (v0.set ((wrap64 (e0-1)):Int).toNat g0) true b0 c0 l0 n0)else(none))else(none)))else(impl_DeskDo.j1 k ([]:List Int) false b0 c0 l0 n0))else(impl_DeskDo.j1 k ([]:List Int) false b0 c0 l0 n0))else(impl_DeskDo.j1 k ([]:List Int) false b0 c0 l0 n0))else(impl_DeskDo.j1 k ([]:List Int) false b0 c0 l0 n0))else(if d0=4 then(if n0.length=0 then(some (l0,n0,false))else(if n0.length<4096 then(some (n0.getD (n0.length-1) [],n0.take (n0.length-1),true))else(none)))else(impl_DeskDo.j1 k ([]:List Int) false b0 c0 l0 n0))))))
def impl_DeskDo.j1:Nat→List Int→Bool→List Int→List (List Int)→List Int→List (List Int)→Option (List Int×(List (List Int))×Bool)
 |0,_,_,_,_,_,_=>none
 |k+1,w0,x0,b0,c0,l0,n0=>if x0=true then((slices_Equal_int_int.f k w0 b0).bind fun y0=>(impl_DeskDo.j2 k w0 y0 l0 n0))else(impl_DeskDo.j2 k w0 true l0 n0)
def impl_DeskDo.j2:Nat→List Int→Bool→List Int→List (List Int)→Option (List Int×(List (List Int))×Bool)
 |0,_,_,_,_=>none
 |k+1,w0,A0,l0,n0=>if A0=true then(some (l0,n0,false))else(if n0.length<5864062014805 then((some (n0++[l0]:List (List Int))).bind fun B0=>(if(B0.length:Int)>8 then(if 1≤(B0.length:Int)then((impl_copyDesk.f k w0 (B0.drop (1:Int).toNat)).bind fun C0=>(some (C0.1,C0.2,true)))else(none))else((impl_copyDesk.f k w0 B0).bind fun D0=>(some (D0.1,D0.2,true)))))else(none))
end

def impl_DeskDo.f (k:Nat) (a0:List Int) (b0:List (List Int)) (c0:Int) (d0:Int) (e0:Int):Option (List Int×(List (List Int))×Bool):=(impl_DeskOk.f k a0 b0).bind fun g0=>(if g0=true then((impl_copyDesk.f k a0 b0).bind fun l0=>(if c0=3 then(if c0=2 then(impl_DeskDo.j0 k (d0 != 0) a0 b0 c0 d0 e0 l0.1 l0.2)else(if c0=4 then(impl_DeskDo.j0 k (d0 != 0) a0 b0 c0 d0 e0 l0.1 l0.2)else(impl_DeskDo.j0 k false a0 b0 c0 d0 e0 l0.1 l0.2)))else(if e0=0 then(if c0=2 then(impl_DeskDo.j0 k (d0 != 0) a0 b0 c0 d0 e0 l0.1 l0.2)else(if c0=4 then(impl_DeskDo.j0 k (d0 != 0) a0 b0 c0 d0 e0 l0.1 l0.2)else(impl_DeskDo.j0 k false a0 b0 c0 d0 e0 l0.1 l0.2)))else(impl_DeskDo.j0 k true a0 b0 c0 d0 e0 l0.1 l0.2))))else(some (([]:List Int),([]:List (List Int)),false)))
def impl_DeskDo.T9:Bool×List (List Nat×List Nat):=(true,[([],[]),([0],[0]),([],[]),([2],[2]),([3],[3]),([1,4,4],[1,4]),([5],[5]),([6],[6]),([6],[6]),([7,5,0,1,2,3,4,5,6,7],[7]),([8,9,0,1,2,3,4,5,6,7,8,9],[8])])
def impl_DeskDo.B9:List Nat:=[0,1,0,4,12,31,63,127,127,255,1023]
theorem impl_DeskDo.tab9:rtab .any (opsOf Tryz.f53 9)=impl_DeskDo.T9:=by kernel_rfl
theorem impl_DeskDo.bits9:waitsOk impl_DeskDo.T9.2 impl_DeskDo.B9=true:=by kernel_rfl
def impl_DeskDo.T11:Bool×List (List Nat×List Nat):=(true,[([],[]),([0],[0]),([],[]),([2],[2]),([3],[3]),([1,4,4],[1,4]),([5],[5]),([6],[6]),([6],[6]),([7,5,0,1,2,3,4,5,6,7],[7]),([8,9,0,1,2,3,4,5,6,7,8,9],[8])])
def impl_DeskDo.B11:List Nat:=[0,1,0,4,12,31,63,127,127,255,1023]
theorem impl_DeskDo.tab11:rtab .any (opsOf Tryz.f53 11)=impl_DeskDo.T11:=by kernel_rfl
theorem impl_DeskDo.bits11:waitsOk impl_DeskDo.T11.2 impl_DeskDo.B11=true:=by kernel_rfl
set_option maxHeartbeats 8000000 in
set_option maxRecDepth 100000 in
theorem impl_DeskDo.calls (k:Nat) (a0:Option Addr) (b0:Nat) (c0:List Int) (d0:Option Addr) (e0:Nat) (g0:List (List Int)) (l0:Int) (n0:Int) (p0:Int) (q0:List Int) (r0:List (List Int)) (t0:Bool) (w:World) (v0:Kd.C (Kd.int .i64) w a0 c0.length c0) (w0:c0.length≤b0) (x0:Kd.C (Kd.slice 3 (Kd.int .i64)) w d0 g0.length g0) (y0:g0.length≤e0) (h:impl_DeskDo.f k c0 g0 l0 n0 p0=some (q0,r0,t0)):
  Calls Tryz.prog 53 #[.agg #[.slice a0 c0.length b0,.slice d0 g0.length e0],.agg #[.int .i64 l0,.int .i64 n0,.int .i64 p0]] w fun e w'=>∃v0_ v1_:Value,e= .returned (.tuple #[.agg #[v0_,v1_],.bool t0])∧Kd.R (Kd.int .i64) 3 w' w.heap.size (fun _=>True) v0_ q0∧Kd.Z (Kd.slice 3 (Kd.int .i64)) 22 w' w.heap.size (fun k_=>some k_≠(v0_:Value).ownBlock) v1_ r0∧Below w.heap.size w w':=by
 have A0:=Tryz.underlying27;have B0:=Tryz.underlying55;have C0:=qa v0;have D0:=qa w0;clear v0 w0;have E0:=qa x0;have G0:=qa y0;clear x0 y0;have HB:=qa (Below.refl w.heap.size w);have H:=h;unfold impl_DeskDo.f at H;clear h;replace H:=qb H;obtain⟨J0,K0,H⟩:=H;replace H:=qc H;obtain⟨rfl,H⟩|⟨rfl,H⟩:=H
 ·replace H:=qb H;obtain⟨⟨L0,M0⟩,N0,H⟩:=H;(try dsimp only at H);have P0:=qa H;clear H
  go_enter Tryz.func53,Tryz.ntmps53
  go_upto_region 4 with(go_big_may;first|(refine bx 2 #[.slice a0 c0.length b0,.slice d0 g0.length e0] 27 ?_;intro Q0 hg R0 hbox hb;have U0:=qa (hbox);have V0:=gw hg;have W0:=gw hg;replace HB:=bs hb;clear hb hbox hg)|(refine bx 3 #[.int .i64 l0,.int .i64 n0,.int .i64 p0] 55 ?_;intro X0 hg Y0 hbox hb;have a1:=qa (hbox);have b1:=gw hg;have c1:=gw hg;replace HB:=bs hb;have d1:=qnl hg U0;have e1:=qng hg U0;replace U0:=qbb U0 hb;clear hb hbox hg)|(refine bx 4 #[.slice none 0 0,.slice none 0 0] 27 ?_;intro g1 hg l1 hbox hb;have n1:=qa (hbox);have p1:=gw hg;have q1:=gw hg;replace HB:=bs hb;have r1:=qnl hg U0;have t1:=qng hg U0;replace U0:=qbb U0 hb;have v1:=qnl hg a1;have w1:=qng hg a1;replace a1:=qbb a1 hb;clear hb hbox hg;have x1:=d1.out;have y1:=e1.out;have A1:=r1.out;have B1:=t1.out;obtain⟨C1,D1,E1,G1⟩:=qk2 U0)|(refine gb 12 Tryz.func37 (impl_DeskOk.calls k _ _ c0 _ _ g0 true _ (cx (Kd.C_below C0.out HB.out)) D0.out (cx (Kd.C_below E0.out HB.out)) G0.out K0.out) fun J1 hb=>?_;replace U0:=qbb U0 hb;replace a1:=qbb a1 hb;replace n1:=qbb n1 hb;replace HB:=bs hb;obtain⟨K1,L1,M1,N1⟩:=qk2 U0)|(refine gol (some 16) Tryz.func54 #[.agg #[.slice a0 c0.length b0,.slice d0 g0.length e0]] ?_;(with_reducible refine(impl_copyDesk.calls k _ _ c0 _ _ g0 L0 M0 _ ?P1 ?Q1 ?R1 ?U1 N0.out).mono ?_);(case P1=>exact cx (Kd.C_below C0.out HB.out));(case Q1=>exact D0.out);(case R1=>exact cx (Kd.C_below E0.out HB.out));(case U1=>exact G0.out);rintro e V1 ⟨W1,X1,rfl,Y1,a2,hb⟩;refine⟨_,rfl,?_⟩;have b2:=qa (Kd.R_lower Y1 (below_size (bl)));have c2:=qa (Kd.S_lower a2 (below_size (bl)));replace U0:=qbb U0 hb;replace a1:=qbb a1 hb;replace n1:=qbb n1 hb;replace HB:=bs hb)|(refine bx 6 #[.slice none 0 0,.slice none 0 0] 27 ?_;intro d2 hg e2 hbox hb;replace b2:=qa (Kd.R_below (kR b2) hb);replace c2:=qa (Kd.S_below (kS c2) hb);have g2:=qa (hbox);have l2:=gw hg;have n2:=gw hg;replace HB:=bs hb;have p2:=qnl hg U0;have q2:=qng hg U0;replace U0:=qbb U0 hb;have r2:=qnl hg a1;have t2:=qng hg a1;replace a1:=qbb a1 hb;have v2:=qnl hg n1;have w2:=qng hg n1;replace n1:=qbb n1 hb;clear hb hbox hg;obtain⟨x2,y2,rfl⟩:=Kd.R_slice b2.out;have A2:=q2.out;have B2:=p2.out;have C2:=t2.out;have D2:=r2.out;have E2:=w2.out;have G2:=v2.out;obtain⟨J2,K2,L2,M2⟩:=qk2 g2;obtain⟨N2,P2,rfl⟩:=Kd.S_slice c2.out))
  (try simp only[Act.put,List.setIfInBounds_toArray,List.set_cons_zero,List.set_cons_succ])
  go_cut [39] (fun Q2 wc=>∃(kq:Nat) (R2:Bool),Q2= .bool R2∧Aside0 (impl_DeskDo.j0 kq R2 c0 g0 l0 n0 p0 L0 M0=some (q0,r0,t0))∧Aside0 (kq≤k)∧Aside0 (Kd.R (Kd.int .i64) 3 wc w.heap.size (fun _=>True) (.slice x2 L0.length y2) L0)∧Aside0 (Kd.S (Kd.slice 3 (Kd.int .i64)) 22 wc w.heap.size (fun k_=>some k_≠((.slice x2 L0.length y2):Value).ownBlock) (.slice N2 M0.length P2) M0)∧Aside0 (wc.heap[Q0]? =some (.cells #[(.slice a0 c0.length b0),(.slice d0 g0.length e0)] 27 (0,0)))∧Aside0 (wc.heap[X0]? =some (.cells #[.int .i64 l0,.int .i64 n0,.int .i64 p0] 55 (0,0)))∧Aside0 (wc.heap[g1]? =some (.cells #[(.slice none 0 0),(.slice none 0 0)] 27 (0,0)))∧Aside0 (wc.heap[d2]? =some (.cells #[(.slice x2 L0.length y2),(.slice N2 M0.length P2)] 27 (0,0)))∧Aside0 (Below w.heap.size w wc))
  case first=>
   have H:=P0.out;clear P0;replace H:=qq H;obtain⟨U2,V2,H⟩|⟨W2,U2,V2,H⟩:=H
   ·(first|rw[U2]|(simp only[i64_w,i32_w];rw[U2])|skip);replace H:=qq H;obtain⟨X2,Y2,H⟩|⟨a3,X2,Y2,H⟩:=H
    ·have H':=qa H;clear H;have b3:=e1.out;have c3:=d1.out;have d3:=v1.out;have e3:=w1.out;have g3:=r2.out;have j3:=t2.out;obtain⟨l3,n3,p3,q3,r3,t3⟩:=qk3 a1;go_wp2;go_meet
     case rel=>exact⟨_,((n0 != 0)),(sd),H',⟨by first|omega|exact Nat.le_refl _⟩,⟨kFR b2 g2 (fun _ hk=>trivial)⟩,⟨(kFS c2 g2 (fun _ hk=>hk.1))⟩,⟨kb U0⟩,⟨kb a1⟩,⟨kb n1⟩,⟨kP g2⟩,⟨bl⟩⟩
    ·replace H:=qq H;obtain⟨v3,w3,H⟩|⟨x3,v3,w3,H⟩:=H
     ·have H':=qa H;clear H;have y3:=e1.out;have A3:=d1.out;have B3:=v1.out;have C3:=w1.out;have D3:=r2.out;have E3:=t2.out;obtain⟨G3,J3,K3,L3,M3,N3⟩:=qk3 a1;go_wp2;go_meet
      case rel=>exact⟨_,((n0 != 0)),(sd),H',⟨by first|omega|exact Nat.le_refl _⟩,⟨kFR b2 g2 (fun _ hk=>trivial)⟩,⟨(kFS c2 g2 (fun _ hk=>hk.1))⟩,⟨kb U0⟩,⟨kb a1⟩,⟨kb n1⟩,⟨kP g2⟩,⟨bl⟩⟩
     ·have H':=qa H;clear H;have P3:=e1.out;have Q3:=d1.out;have R3:=v1.out;have U3:=w1.out;have V3:=r2.out;have W3:=t2.out;obtain⟨X3,Y3,a4,b4,c4,d4⟩:=qk3 a1;go_wp2;go_meet
      case rel=>exact⟨_,(false),(sd),H',⟨by first|omega|exact Nat.le_refl _⟩,⟨kFR b2 g2 (fun _ hk=>trivial)⟩,⟨(kFS c2 g2 (fun _ hk=>hk.1))⟩,⟨kb U0⟩,⟨kb a1⟩,⟨kb n1⟩,⟨kP g2⟩,⟨bl⟩⟩
   ·(first|rw[U2]|(simp only[i64_w,i32_w];rw[U2])|skip);replace H:=qq H;obtain⟨e4,g4,H⟩|⟨j4,e4,g4,H⟩:=H
    ·replace H:=qq H;obtain⟨l4,n4,H⟩|⟨p4,l4,n4,H⟩:=H
     ·have H':=qa H;clear H;have q4:=e1.out;have r4:=d1.out;have t4:=v1.out;have v4:=w1.out;have w4:=r2.out;have x4:=t2.out;obtain⟨y4,A4,B4,C4,D4,E4⟩:=qk3 a1;go_wp2;go_meet
      case rel=>exact⟨_,((n0 != 0)),(sd),H',⟨by first|omega|exact Nat.le_refl _⟩,⟨kFR b2 g2 (fun _ hk=>trivial)⟩,⟨(kFS c2 g2 (fun _ hk=>hk.1))⟩,⟨kb U0⟩,⟨kb a1⟩,⟨kb n1⟩,⟨kP g2⟩,⟨bl⟩⟩
     ·replace H:=qq H;obtain⟨G4,J4,H⟩|⟨K4,G4,J4,H⟩:=H
      ·have H':=qa H;clear H;have L4:=e1.out;have M4:=d1.out;have N4:=v1.out;have P4:=w1.out;have Q4:=r2.out;have R4:=t2.out;obtain⟨U4,V4,W4,X4,Y4,a5⟩:=qk3 a1;go_wp2;go_meet
       case rel=>exact⟨_,((n0 != 0)),(sd),H',⟨by first|omega|exact Nat.le_refl _⟩,⟨kFR b2 g2 (fun _ hk=>trivial)⟩,⟨(kFS c2 g2 (fun _ hk=>hk.1))⟩,⟨kb U0⟩,⟨kb a1⟩,⟨kb n1⟩,⟨kP g2⟩,⟨bl⟩⟩
      ·have H':=qa H;clear H;have b5:=e1.out;have c5:=d1.out;have d5:=v1.out;have e5:=w1.out;have g5:=r2.out;have j5:=t2.out;obtain⟨l5,n5,p5,q5,r5,s5⟩:=qk3 a1;go_wp2;go_meet
       case rel=>exact⟨_,(false),(sd),H',⟨by first|omega|exact Nat.le_refl _⟩,⟨kFR b2 g2 (fun _ hk=>trivial)⟩,⟨(kFS c2 g2 (fun _ hk=>hk.1))⟩,⟨kb U0⟩,⟨kb a1⟩,⟨kb n1⟩,⟨kP g2⟩,⟨bl⟩⟩
    ·have H':=qa H;clear H;have t5:=e1.out;have v5:=d1.out;have w5:=v1.out;have x5:=w1.out;have y5:=r2.out;have A5:=t2.out;obtain⟨B5,C5,D5,E5,G5,J5⟩:=qk3 a1;go_wp2;go_meet
     case rel=>exact⟨_,(true),(sd),H',⟨by first|omega|exact Nat.le_refl _⟩,⟨kFR b2 g2 (fun _ hk=>trivial)⟩,⟨(kFS c2 g2 (fun _ hk=>hk.1))⟩,⟨kb U0⟩,⟨kb a1⟩,⟨kb n1⟩,⟨kP g2⟩,⟨bl⟩⟩
  case rest=>
   clear P0;obtain⟨kq,R2,rfl,HA,K5,L5,M5,U0,a1,n1,g2,HB⟩:=hcut;have HS_:=M5;replace M5:=qa (Kd.Z_of_S HS_.out);obtain⟨N5,rfl,H⟩:=kz kq HA;clear HA;simp only[impl_DeskDo.j0]at H;replace H:=qc H;obtain⟨rfl,H⟩|⟨rfl,H⟩:=H
   ·simp only[Option.some.injEq,Prod.mk.injEq]at H;obtain⟨rfl,rfl,rfl⟩:=H;have P5:=q2.out;have Q5:=p2.out;have R5:=t2.out;have U5:=r2.out;have V5:=w2.out;have W5:=v2.out;obtain⟨X5,Y5,a6,b6⟩:=qk2 g2;have c6:=t1.out;have d6:=r1.out;have e6:=w1.out;have g6:=v1.out;obtain⟨j6,l6,n6,p6⟩:=qk2 n1;go_wp2;refine bodyPost_ret (results_ct rfl _ _ g1 27 #[.slice x2 L0.length y2,.slice N2 M0.length P2] (0,0) _ rfl (kP n1) Tryz.underlying27 rfl (by kernel_rfl)) rfl ?_;exact⟨_,_,er,kFR L5 n1 (fun _ hk=>trivial),z40_,bl⟩
   ·have q6:=qa H;clear H;have r6:=e1.out;have s6:=d1.out;have t6:=v1.out;have v6:=w1.out;have w6:=r2.out;have x6:=t2.out;obtain⟨y6,A6,B6,C6,D6,E6⟩:=qk3 a1
    go_upto_block 0 with(fail)
    go_cut [7,8] (fun G6 J6 wc=>∃(kq:Nat) (K6:List Int) (L6:Bool) (M6:List Int) (N6:Value),J6= .bool L6∧Aside0 (impl_DeskDo.j1 kq K6 L6 c0 g0 M6 M0=some (q0,r0,t0))∧Aside0 (kq≤N5)∧Aside0 (Kd.R (Kd.int .i64) 3 wc w.heap.size (fun k_=>some k_≠(N6:Value).ownBlock) G6 K6)∧Aside0 (Kd.R (Kd.int .i64) 3 wc w.heap.size (fun k_=>some k_≠(G6:Value).ownBlock) N6 M6)∧Aside0 (Kd.Z (Kd.slice 3 (Kd.int .i64)) 22 wc w.heap.size (fun k_=>some k_≠(G6:Value).ownBlock ∧some k_≠(N6:Value).ownBlock) (.slice N2 M0.length P2) M0)∧Aside0 (wc.heap[Q0]? =some (.cells #[(.slice a0 c0.length b0),(.slice d0 g0.length e0)] 27 (0,0)))∧Aside0 (wc.heap[X0]? =some (.cells #[.int .i64 l0,.int .i64 n0,.int .i64 p0] 55 (0,0)))∧Aside0 (wc.heap[g1]? =some (.cells #[(.slice none 0 0),(.slice none 0 0)] 27 (0,0)))∧Aside0 (wc.heap[d2]? =some (.cells #[N6,(.slice N2 M0.length P2)] 27 (0,0)))∧Aside0 (Below w.heap.size w wc))
    case first=>
     have H:=q6.out;clear q6;replace H:=qq H;obtain⟨P6,Q6,H⟩|⟨R6,P6,Q6,H⟩:=H
     ·(first|rw[P6]|(simp only[i64_w,i32_w];rw[P6])|skip);replace H:=qb H;obtain⟨U6,V6,H⟩:=H;replace H:=qb H;obtain⟨⟨W6,X6⟩,Y6,H⟩:=H;(try dsimp only at H);have H':=qa H;clear H
      try go_wp2
      replace L5:=qa (Kd.R_drew L5.out);replace M5:=qa (Kd.Z_drew M5.out);replace U0:=qa (blk_drew U0.out);replace a1:=qa (blk_drew a1.out);replace n1:=qa (blk_drew n1.out);replace g2:=qa (blk_drew g2.out);replace HB:=qa (below_drew1 HB.out);refine start_ (n:=11) (S:=fun w'=>w'.cell? ⟨Q0,0,none⟩=some (.slice a0 c0.length b0)∧w'.cell? ⟨Q0,1,none⟩=some (.slice d0 g0.length e0)∧w'.cell? ⟨X0,0,none⟩=some (.int .i64 l0)∧w'.cell? ⟨X0,1,none⟩=some (.int .i64 n0)∧w'.cell? ⟨X0,2,none⟩=some (.int .i64 p0)) (ds:=[]) #[false,false,false,false,false,false,false,false,false,false,false] (by kernel_rfl) rfl rfl ⟨(blk_cell U0.out 0).trans rfl,(blk_cell U0.out 1).trans rfl,(blk_cell a1.out 0).trans rfl,(blk_cell a1.out 1).trans rfl,(blk_cell a1.out 2).trans rfl⟩ (fun hHeld=>?_);refine with_tabW impl_DeskDo.tab9 impl_DeskDo.bits9 (fun HT_ HW_=>?_);generalize wc.drew=a7 at L5 M5 U0 a1 n1 g2 HB hHeld ⊢;refine pur 0 46 #[true,false,false,false,false,false,false,false,false,false,false] HT_ ?_;refine pur 2 48 #[true,false,true,false,false,false,false,false,false,false,false] HT_ ?_;refine take_ (i:=1) (N:=some 47) (v:=?_) (a':=?_) #[true,true,true,false,false,false,false,false,false,false,false] rfl rfl (take_ofW HT_.out HW_.out (by kernel_rfl)) (fun _ _ _ h=>h) (Or.inl ⟨by rfl,?_⟩) hHeld ?_ ?_;rotate_left
      ·rintro w' ⟨s0,s1,s2,s3,s4⟩
       go_simp
       with_reducible rfl
      rotate_left
      ·simp only[Act.put,List.setIfInBounds_toArray,List.set_cons_zero,List.set_cons_succ,i64_w,i32_w]
       rfl
      refine take_ (i:=3) (N:=some 49) (v:=?_) (a':=?_) #[true,true,true,true,false,false,false,false,false,false,false] rfl rfl (take_ofW HT_.out HW_.out (by kernel_rfl)) (fun _ _ _ h=>h) (Or.inl ⟨by rfl,?_⟩) hHeld ?_ ?_;rotate_left
      ·rintro w' ⟨s0,s1,s2,s3,s4⟩
       go_simp
       with_reducible rfl
      rotate_left
      ·simp only[Act.put,List.setIfInBounds_toArray,List.set_cons_zero,List.set_cons_succ,i64_w,i32_w]
       rfl
      refine one_ (i:=4) (N:=some 50) #[true,true,true,true,true,false,false,false,false,false,false] rfl rfl (one_of HT_.out (by kernel_rfl)) (by decide) (fun K hK=>?_);refine goes_ Tryz.func96 (by kernel_rfl) rfl #[.int .i64 n0] (by rfl) rfl rfl am ?_
      with_reducible refine(impl_NamedRow.calls N5 n0 U6 _ V6.out).mono ?_
      rintro e b7 ⟨c7,rfl,Y1,hb⟩;refine⟨_,rfl,?_⟩;replace M5:=qa (Kd.Z_elder' (kZ M5) (Kd.R_base Y1) hb);have d7:=qa (Kd.R_lower (Kd.R_new' Y1 (Kd.R_lt (kR L5))) (below_size (bl)));replace L5:=qa (Kd.R_elder' (kR L5) (Kd.R_base Y1) hb);replace U0:=qbb U0 hb;replace a1:=qbb a1 hb;replace n1:=qbb n1 hb;replace g2:=qbb g2 hb;replace HB:=bs hb;(try clear hb);(try clear e7);(try clear hk);(try clear hi);(try clear Y1);obtain⟨g7,j7,l7⟩:=Kd.R_slice d7.out;(first|subst l7|(injection l7 with f1_ f2_ f3_;have f4_:=f1_.symm;have f5_:=f3_.symm;clear f1_ f2_ f3_;subst f4_;subst f5_));refine hK.out _ _ ⟨(blk_cell U0.out 0).trans rfl,(blk_cell U0.out 1).trans rfl,(blk_cell a1.out 0).trans rfl,(blk_cell a1.out 1).trans rfl,(blk_cell a1.out 2).trans rfl⟩ (fun hHeld=>?_);clear hK K;refine norm_ (a':=?_) ?_ ?_;rotate_left
      ·show Act.put _ (some 50) _=_;simp only[Act.put,List.setIfInBounds_toArray,List.set_cons_zero,List.set_cons_succ,i64_w,i32_w]
       rfl
      refine one_ (i:=5) (N:=some 51) #[true,true,true,true,true,true,false,false,false,false,false] rfl rfl (one_of HT_.out (by kernel_rfl)) (by decide) (fun K hK=>?_);refine goes_ Tryz.func95 (by kernel_rfl) rfl #[.slice a0 c0.length b0,.slice g7 U6.length j7] (by rfl) rfl rfl am ?_
      with_reducible refine(impl_TimesOf.calls N5 _ _ c0 _ _ U6 W6 X6 _ ?P1 ?Q1 ?R1 ?U1 Y6.out).mono ?_
      (case P1=>exact cx (Kd.C_below C0.out HB.out));(case Q1=>exact D0.out);(case R1=>exact cx (Kd.R_reads' d7.out).2.2);(case U1=>exact(Kd.R_reads' d7.out).2.1);rintro e n7 ⟨p7,rfl,Y1,hb⟩;refine⟨_,rfl,?_⟩;replace M5:=qa (Kd.Z_elder' (kZ M5) (Kd.R_base Y1) hb);have q7:=qa (Kd.R_lower (Kd.R_new' (Kd.R_new' Y1 (Kd.R_lt (kR L5))) (Kd.R_lt (kR d7))) (below_size (bl)));replace L5:=qa (Kd.R_elder' (kR L5) (Kd.R_base Y1) hb);replace d7:=qa (Kd.R_elder' (kR d7) (Kd.R_base Y1) hb);replace U0:=qbb U0 hb;replace a1:=qbb a1 hb;replace n1:=qbb n1 hb;replace g2:=qbb g2 hb;replace HB:=bs hb;(try clear hb);(try clear e7);(try clear hk);(try clear hi);(try clear Y1);refine hK.out _ _ ⟨(blk_cell U0.out 0).trans rfl,(blk_cell U0.out 1).trans rfl,(blk_cell a1.out 0).trans rfl,(blk_cell a1.out 1).trans rfl,(blk_cell a1.out 2).trans rfl⟩ (fun hHeld=>?_);clear hK K;refine norm_ (a':=?_) ?_ ?_;rotate_left
      ·show Act.put _ (some 51) _=_;simp only[Act.put,List.setIfInBounds_toArray,List.set_cons_zero,List.set_cons_succ,i64_w,i32_w]
       rfl
      refine pur 6 45 #[true,true,true,true,true,true,true,false,false,false,false] HT_ ?_;refine pur 7 52 #[true,true,true,true,true,true,true,true,false,false,false] HT_ ?_;refine pur 8 53 #[true,true,true,true,true,true,true,true,true,false,false] HT_ ?_;refine pur 9 7 #[true,true,true,true,true,true,true,true,true,true,false] HT_ ?_;refine pur 10 8 #[true,true,true,true,true,true,true,true,true,true,true] HT_ ?_;refine done_ (done_of HT_.out (by kernel_rfl)) ?_
      try go_wp2
      go_meet
      case rel=>exact⟨_,(W6),(X6),(L0),(.slice x2 L0.length y2),(sd),H',⟨z25_⟩,⟨by(with_reducible repeat(first|apply Kd.R_alloc|apply Kd.R_drewN|apply Kd.R_drew));exact Kd.R_mono q7.out (fun _ hk=>hk.1.2)⟩,⟨z26_⟩,⟨by(with_reducible repeat(first|apply Kd.Z_alloc|apply Kd.Z_drewN|apply Kd.Z_drew));exact Kd.Z_mono M5.out (fun _ hk=>⟨hk.2,hk.1.1⟩)⟩,⟨bk⟩,⟨bk⟩,⟨bk⟩,⟨bk⟩,⟨bl⟩⟩
     ·(first|rw[P6]|(simp only[i64_w,i32_w];rw[P6])|skip);replace H:=qq H;obtain⟨r7,s7,H⟩|⟨t7,r7,s7,H⟩:=H
      ·replace H:=qb H;obtain⟨v7,w7,H⟩:=H;replace H:=qb H;obtain⟨⟨x7,y7⟩,A7,H⟩:=H;(try dsimp only at H);have H':=qa H;clear H
       try go_wp2
       replace L5:=qa (Kd.R_drew L5.out);replace M5:=qa (Kd.Z_drew M5.out);replace U0:=qa (blk_drew U0.out);replace a1:=qa (blk_drew a1.out);replace n1:=qa (blk_drew n1.out);replace g2:=qa (blk_drew g2.out);replace HB:=qa (below_drew1 HB.out);refine start_ (n:=11) (S:=fun w'=>w'.cell? ⟨Q0,0,none⟩=some (.slice a0 c0.length b0)∧w'.cell? ⟨Q0,1,none⟩=some (.slice d0 g0.length e0)∧w'.cell? ⟨X0,0,none⟩=some (.int .i64 l0)∧w'.cell? ⟨X0,1,none⟩=some (.int .i64 n0)∧w'.cell? ⟨X0,2,none⟩=some (.int .i64 p0)) (ds:=[]) #[false,false,false,false,false,false,false,false,false,false,false] (by kernel_rfl) rfl rfl ⟨(blk_cell U0.out 0).trans rfl,(blk_cell U0.out 1).trans rfl,(blk_cell a1.out 0).trans rfl,(blk_cell a1.out 1).trans rfl,(blk_cell a1.out 2).trans rfl⟩ (fun hHeld=>?_);refine with_tabW impl_DeskDo.tab11 impl_DeskDo.bits11 (fun HT_ HW_=>?_);generalize wc.drew=B7 at L5 M5 U0 a1 n1 g2 HB hHeld ⊢;refine pur 0 57 #[true,false,false,false,false,false,false,false,false,false,false] HT_ ?_;refine pur 2 59 #[true,false,true,false,false,false,false,false,false,false,false] HT_ ?_;refine take_ (i:=1) (N:=some 58) (v:=?_) (a':=?_) #[true,true,true,false,false,false,false,false,false,false,false] rfl rfl (take_ofW HT_.out HW_.out (by kernel_rfl)) (fun _ _ _ h=>h) (Or.inl ⟨by rfl,?_⟩) hHeld ?_ ?_;rotate_left
       ·rintro w' ⟨s0,s1,s2,s3,s4⟩
        go_simp
        with_reducible rfl
       rotate_left
       ·simp only[Act.put,List.setIfInBounds_toArray,List.set_cons_zero,List.set_cons_succ,i64_w,i32_w]
        rfl
       refine take_ (i:=3) (N:=some 60) (v:=?_) (a':=?_) #[true,true,true,true,false,false,false,false,false,false,false] rfl rfl (take_ofW HT_.out HW_.out (by kernel_rfl)) (fun _ _ _ h=>h) (Or.inl ⟨by rfl,?_⟩) hHeld ?_ ?_;rotate_left
       ·rintro w' ⟨s0,s1,s2,s3,s4⟩
        go_simp
        with_reducible rfl
       rotate_left
       ·simp only[Act.put,List.setIfInBounds_toArray,List.set_cons_zero,List.set_cons_succ,i64_w,i32_w]
        rfl
       refine one_ (i:=4) (N:=some 61) #[true,true,true,true,true,false,false,false,false,false,false] rfl rfl (one_of HT_.out (by kernel_rfl)) (by decide) (fun K hK=>?_);refine goes_ Tryz.func96 (by kernel_rfl) rfl #[.int .i64 n0] (by rfl) rfl rfl am ?_
       with_reducible refine(impl_NamedRow.calls N5 n0 v7 _ w7.out).mono ?_
       rintro e C7 ⟨D7,rfl,Y1,hb⟩;refine⟨_,rfl,?_⟩;replace M5:=qa (Kd.Z_elder' (kZ M5) (Kd.R_base Y1) hb);have E7:=qa (Kd.R_lower (Kd.R_new' Y1 (Kd.R_lt (kR L5))) (below_size (bl)));replace L5:=qa (Kd.R_elder' (kR L5) (Kd.R_base Y1) hb);replace U0:=qbb U0 hb;replace a1:=qbb a1 hb;replace n1:=qbb n1 hb;replace g2:=qbb g2 hb;replace HB:=bs hb;(try clear hb);(try clear e7);(try clear hk);(try clear hi);(try clear Y1);obtain⟨G7,J7,K7⟩:=Kd.R_slice E7.out;(first|subst K7|(injection K7 with f1_ f2_ f3_;have f4_:=f1_.symm;have f5_:=f3_.symm;clear f1_ f2_ f3_;subst f4_;subst f5_));refine hK.out _ _ ⟨(blk_cell U0.out 0).trans rfl,(blk_cell U0.out 1).trans rfl,(blk_cell a1.out 0).trans rfl,(blk_cell a1.out 1).trans rfl,(blk_cell a1.out 2).trans rfl⟩ (fun hHeld=>?_);clear hK K;refine norm_ (a':=?_) ?_ ?_;rotate_left
       ·show Act.put _ (some 61) _=_;simp only[Act.put,List.setIfInBounds_toArray,List.set_cons_zero,List.set_cons_succ,i64_w,i32_w]
        rfl
       refine one_ (i:=5) (N:=some 62) #[true,true,true,true,true,true,false,false,false,false,false] rfl rfl (one_of HT_.out (by kernel_rfl)) (by decide) (fun K hK=>?_);refine goes_ Tryz.func97 (by kernel_rfl) rfl #[.slice a0 c0.length b0,.slice G7 v7.length J7] (by rfl) rfl rfl am ?_
       with_reducible refine(impl_UnitaryTimes.calls N5 _ _ c0 _ _ v7 x7 y7 _ ?P1 ?Q1 ?R1 ?U1 A7.out).mono ?_
       (case P1=>exact cx (Kd.C_below C0.out HB.out));(case Q1=>exact D0.out);(case R1=>exact cx (Kd.R_reads' E7.out).2.2);(case U1=>exact(Kd.R_reads' E7.out).2.1);rintro e L7 ⟨M7,rfl,Y1,hb⟩;refine⟨_,rfl,?_⟩;replace M5:=qa (Kd.Z_elder' (kZ M5) (Kd.R_base Y1) hb);have N7:=qa (Kd.R_lower (Kd.R_new' (Kd.R_new' Y1 (Kd.R_lt (kR L5))) (Kd.R_lt (kR E7))) (below_size (bl)));replace L5:=qa (Kd.R_elder' (kR L5) (Kd.R_base Y1) hb);replace E7:=qa (Kd.R_elder' (kR E7) (Kd.R_base Y1) hb);replace U0:=qbb U0 hb;replace a1:=qbb a1 hb;replace n1:=qbb n1 hb;replace g2:=qbb g2 hb;replace HB:=bs hb;(try clear hb);(try clear e7);(try clear hk);(try clear hi);(try clear Y1);refine hK.out _ _ ⟨(blk_cell U0.out 0).trans rfl,(blk_cell U0.out 1).trans rfl,(blk_cell a1.out 0).trans rfl,(blk_cell a1.out 1).trans rfl,(blk_cell a1.out 2).trans rfl⟩ (fun hHeld=>?_);clear hK K;refine norm_ (a':=?_) ?_ ?_;rotate_left
       ·show Act.put _ (some 62) _=_;simp only[Act.put,List.setIfInBounds_toArray,List.set_cons_zero,List.set_cons_succ,i64_w,i32_w]
        rfl
       refine pur 6 56 #[true,true,true,true,true,true,true,false,false,false,false] HT_ ?_;refine pur 7 63 #[true,true,true,true,true,true,true,true,false,false,false] HT_ ?_;refine pur 8 64 #[true,true,true,true,true,true,true,true,true,false,false] HT_ ?_;refine pur 9 7 #[true,true,true,true,true,true,true,true,true,true,false] HT_ ?_;refine pur 10 8 #[true,true,true,true,true,true,true,true,true,true,true] HT_ ?_;refine done_ (done_of HT_.out (by kernel_rfl)) ?_
       try go_wp2
       go_meet
       case rel=>exact⟨_,(x7),(y7),(L0),(.slice x2 L0.length y2),(sd),H',⟨z25_⟩,⟨by(with_reducible repeat(first|apply Kd.R_alloc|apply Kd.R_drewN|apply Kd.R_drew));exact Kd.R_mono N7.out (fun _ hk=>hk.1.2)⟩,⟨z26_⟩,⟨by(with_reducible repeat(first|apply Kd.Z_alloc|apply Kd.Z_drewN|apply Kd.Z_drew));exact Kd.Z_mono M5.out (fun _ hk=>⟨hk.2,hk.1.1⟩)⟩,⟨bk⟩,⟨bk⟩,⟨bk⟩,⟨bk⟩,⟨bl⟩⟩
      ·replace H:=qq H;obtain⟨P7,Q7,H⟩|⟨R7,P7,Q7,H⟩:=H
       ·replace H:=qb H;obtain⟨⟨U7,V7⟩,W7,H⟩:=H;(try dsimp only at H);have H':=qa H;clear H;have X7:=d1.out;have Y7:=e1.out;have a8:=r1.out;have b8:=t1.out;have c8:=p2.out;have d8:=q2.out;obtain⟨e8,g8,j8,l8⟩:=qk2 U0
        go_wp2_with(first|(refine ge_ 70 Tryz.func98 (impl_InverseOf.calls N5 _ _ c0 U7 V7 _ (cx (Kd.C_below C0.out HB.out)) D0.out W7.out) fun n8 p8 Y1 hb=>?_;replace M5:=qa (Kd.Z_elder' (kZ M5) (Kd.R_base Y1) hb);have q8:=qa (Kd.R_lower (Kd.R_new' Y1 (Kd.R_lt (kR L5))) (below_size (bl)));replace L5:=qa (Kd.R_elder' (kR L5) (Kd.R_base Y1) hb);replace U0:=qbb U0 hb;replace a1:=qbb a1 hb;replace n1:=qbb n1 hb;replace g2:=qbb g2 hb;replace HB:=bs hb))
        go_meet
        case rel=>exact⟨_,(U7),(V7),(L0),(.slice x2 L0.length y2),(sd),H',⟨z25_⟩,⟨by(with_reducible repeat(first|apply Kd.R_alloc|apply Kd.R_drewN|apply Kd.R_drew));exact Kd.R_mono q8.out (fun _ hk=>hk.2)⟩,⟨z26_⟩,⟨by(with_reducible repeat(first|apply Kd.Z_alloc|apply Kd.Z_drewN|apply Kd.Z_drew));exact Kd.Z_mono M5.out (fun _ hk=>⟨hk.2,hk.1⟩)⟩,⟨bk⟩,⟨bk⟩,⟨bk⟩,⟨bk⟩,⟨bl⟩⟩
       ·replace H:=qq H;obtain⟨r8,s8,H⟩|⟨t8,r8,s8,H⟩:=H
        ·replace H:=qu H;obtain⟨v8,H⟩|⟨v8,H⟩:=H
         ·replace H:=qe H;obtain⟨w8,H⟩|⟨w8,H⟩:=H
          ·replace H:=qu H;obtain⟨x8,H⟩|⟨x8,H⟩:=H
           ·replace H:=qe H;obtain⟨y8,H⟩|⟨y8,H⟩:=H
            ·replace H:=qb H;obtain⟨A8,B8,H⟩:=H;obtain⟨C8,D8⟩:∃j_:Int,(wrap64 (n0-1))=j_:=⟨_,rfl⟩;(first|rw[D8]at H|(try simp only[D8]at H));(try rw[D8]at B8);have E8:(IntKind.i64.wrap (n0-1))=C8:=(i64_w _).trans D8;replace H:=qd H;obtain⟨G8,H⟩:=H;replace H:=qd H;obtain⟨J8,H⟩:=H;obtain⟨K8,hy_⟩:∃y_:List Int,y_=(A8.set ((C8):Int).toNat p0):=⟨_,rfl⟩;replace H:(impl_DeskDo.j1 N5 K8 true c0 g0 L0 M0)=some (q0,r0,t0):=yh;have L8:=qa hy_;clear hy_;have H':=qa H;clear H;have M8:=e1.out;have N8:=d1.out;have P8:=v1.out;have Q8:=w1.out;have R8:=r2.out;have U8:=t2.out;obtain⟨V8,W8,X8,Y8,a9,b9⟩:=qk3 a1;have c9:=r1.out;have d9:=t1.out;have e9:=p2.out;have g9:=q2.out;obtain⟨j9,l9,n9,p9⟩:=qk2 U0
             go_wp2_with(first|(refine ge_ 95 Tryz.func99 (slices_Clone_int_int.calls N5 _ _ c0 A8 _ (cx (Kd.C_below C0.out HB.out)) D0.out B8.out) fun q9 r9 Y1 hb=>?_;replace M5:=qa (Kd.Z_elder' (kZ M5) (Kd.R_base Y1) hb);have s9:=qa (Kd.R_lower (Kd.R_new' Y1 (Kd.R_lt (kR L5))) (below_size (bl)));replace L5:=qa (Kd.R_elder' (kR L5) (Kd.R_base Y1) hb);replace U0:=qbb U0 hb;replace a1:=qbb a1 hb;replace n1:=qbb n1 hb;replace g2:=qbb g2 hb;replace HB:=bs hb;obtain⟨t9,v9,w9,x9,y9,A9⟩:=qk3 a1;have B9:0≤((C8):Int):=qo;have C9:((C8):Int)<((A8.length:Int):Int):=qo;obtain⟨D9,E9,G9,J9,gl100,cl100,HG100⟩:=Kd.R_form s9.out (by omega);(first|cases G9|(injection G9 with ea_ en_ ec_;(first|subst ea_|(injection ea_ with ea_;subst ea_));subst ec_;clear en_));have GB100:=qa J9;have GG100:=qa HG100;clear J9 gl100 HG100;obtain⟨K9,L9⟩:=Kd.R_celln 0 s9.out ((C8):Int) B9 C9;replace B9:=eq_true B9;replace C9:=eq_true C9;have n_:=qa (Kd.R_mono (ok':=(fun k_=>some k_≠(.slice x2 L0.length y2:Value).ownBlock)) s9.out (fun k_ hk=>hk.2));clear s9;have s9:=n_;clear n_;obtain⟨hy110_,hz110_⟩:=Kd.R_celln 0 s9.out ((C8):Int) (qo) (qo);have HP110:=Kd.R_putg s9.out ((C8):Int) p0)|((with_reducible refine gate_store (t:=3) (p:=102) rfl ?_);refine store_event (t:=3) (p:=102) (v:=?vo_w111) (w1:=(r9.setCell ⟨D9,((C8):Int).toNat,none⟩ (.int .i64 p0))) ?hg ?ho ?hn ?hr ?_;(case ho=>rfl);(case hg=>rfl);(case hn=>rfl);(case hr=>exact gr);intro M9 hw;have hg:r9.grownBy M9 (some D9):=(by rw[hw];exact HP110.2);have hp_:Kd.R (Kd.int .i64) 3 M9 w.heap.size (fun k_=>some k_≠(.slice x2 L0.length y2:Value).ownBlock) (.slice (some ⟨D9,0,none⟩) A8.length E9) K8:=(by rw[hw,L8.out];exact HP110.1);clear HP110;replace L5:=qa (Kd.R_after (v:=(.slice (some ⟨D9,0,none⟩) A8.length E9)) (v1:=(.slice (some ⟨D9,0,none⟩) A8.length E9)) (ok:=(fun _=>True)) (kR L5) hg (.inl rfl));replace M5:=qa (Kd.Z_after (v:=(.slice (some ⟨D9,0,none⟩) A8.length E9)) (v1:=(.slice (some ⟨D9,0,none⟩) A8.length E9)) (ok:=(fun k_=>some k_≠(.slice x2 L0.length y2:Value).ownBlock)) (kZ M5) hg (.inl rfl));replace U0:=qa (blk_grown (g:=Q0) (o:= .cells #[.slice a0 c0.length b0,.slice d0 g0.length e0] 27 (0,0)) (bk) hg (Kd.R_ne s9.out U0.out (by decide)));replace a1:=qa (blk_grown (g:=X0) (o:= .cells #[.int .i64 l0,.int .i64 n0,.int .i64 p0] 55 (0,0)) (bk) hg (Kd.R_ne s9.out a1.out (by decide)));replace n1:=qa (blk_grown (g:=g1) (o:= .cells #[.slice none 0 0,.slice none 0 0] 27 (0,0)) (bk) hg (Kd.R_ne s9.out n1.out (by decide)));replace g2:=qa (blk_grown (g:=d2) (o:= .cells #[.slice x2 L0.length y2,.slice N2 M0.length P2] 27 (0,0)) (bk) hg (Kd.R_ne s9.out g2.out (by decide)));replace s9:=qa (hp_);replace HB:=qa ((by rw[hw];exact below_set (HB.out) GB100.out:Below w.heap.size w M9));clear hg hw hp_))
             go_meet
             case rel=>exact⟨_,(K8),(true),(L0),(.slice x2 L0.length y2),(sd),H',⟨z25_⟩,⟨kR s9⟩,⟨z26_⟩,⟨by(with_reducible repeat(first|apply Kd.Z_alloc|apply Kd.Z_drewN|apply Kd.Z_drew));exact Kd.Z_mono M5.out (fun _ hk=>⟨hk.2,hk.1⟩)⟩,⟨bk⟩,⟨bk⟩,⟨bk⟩,⟨bk⟩,⟨bl⟩⟩
            ·have H':=qa H;clear H;have N9:=e1.out;have P9:=d1.out;have Q9:=v1.out;have R9:=w1.out;have U9:=r2.out;have V9:=t2.out;obtain⟨W9,X9,Y9,a10,b10,c10⟩:=qk3 a1;go_wp2;go_meet
             case rel=>exact⟨_,(([]:List Int)),(false),(L0),(.slice x2 L0.length y2),(sd),H',⟨z25_⟩,⟨z1_⟩,⟨z18_⟩,⟨z17_⟩,⟨bk⟩,⟨bk⟩,⟨bk⟩,⟨bk⟩,⟨bl⟩⟩
           ·have H':=qa H;clear H;have d10:=e1.out;have e10:=d1.out;have g10:=v1.out;have j10:=w1.out;have l10:=r2.out;have n10:=t2.out;obtain⟨p10,q10,r10,s10,t10,v10⟩:=qk3 a1;go_wp2;go_meet
            case rel=>exact⟨_,(([]:List Int)),(false),(L0),(.slice x2 L0.length y2),(sd),H',⟨z25_⟩,⟨z1_⟩,⟨z18_⟩,⟨z17_⟩,⟨bk⟩,⟨bk⟩,⟨bk⟩,⟨bk⟩,⟨bl⟩⟩
          ·have H':=qa H;clear H;have w10:=e1.out;have x10:=d1.out;have y10:=v1.out;have A10:=w1.out;have B10:=r2.out;have C10:=t2.out;obtain⟨D10,E10,G10,J10,K10,L10⟩:=qk3 a1;go_wp2;go_meet
           case rel=>exact⟨_,(([]:List Int)),(false),(L0),(.slice x2 L0.length y2),(sd),H',⟨z25_⟩,⟨z1_⟩,⟨z18_⟩,⟨z17_⟩,⟨bk⟩,⟨bk⟩,⟨bk⟩,⟨bk⟩,⟨bl⟩⟩
         ·have H':=qa H;clear H;have M10:=e1.out;have N10:=d1.out;have P10:=v1.out;have Q10:=w1.out;have R10:=r2.out;have U10:=t2.out;obtain⟨V10,W10,X10,Y10,a11,b11⟩:=qk3 a1;go_wp2;go_meet
          case rel=>exact⟨_,(([]:List Int)),(false),(L0),(.slice x2 L0.length y2),(sd),H',⟨z25_⟩,⟨z1_⟩,⟨z18_⟩,⟨z17_⟩,⟨bk⟩,⟨bk⟩,⟨bk⟩,⟨bk⟩,⟨bl⟩⟩
        ·replace H:=qq H;obtain⟨c11,d11,H⟩|⟨e11,c11,d11,H⟩:=H
         ·have hwn_:IntKind.i64.wrap ((M0.length:Int)-1)=wrap64 ((M0.length:Int)-1):=i64_w _
          by_cases c0_:M0.length=0
          ·rw[if_pos c0_]at H;simp only[Option.some.injEq,Prod.mk.injEq]at H;obtain⟨rfl,rfl,rfl⟩:=H;(have hw1_:IntKind.i64.wrap ((M0.length:Int)-1)= -1:=by rw[c0_];rfl);have hw2_:((-1:Int)<0)=True:=eq_true (by decide);clear c0_ hwn_;have P5:=q2.out;have Q5:=p2.out;have R5:=t2.out;have U5:=r2.out;have V5:=w2.out;have W5:=v2.out;obtain⟨X5,Y5,a6,b6⟩:=qk2 g2;have c6:=t1.out;have d6:=r1.out;have e6:=w1.out;have g6:=v1.out;obtain⟨j6,l6,n6,p6⟩:=qk2 n1;go_wp2;refine bodyPost_ret (results_ct rfl _ _ g1 27 #[.slice x2 L0.length y2,.slice N2 M0.length P2] (0,0) _ rfl (kP n1) Tryz.underlying27 rfl (by kernel_rfl)) rfl ?_;exact⟨_,_,er,kFR L5 n1 (fun _ hk=>trivial),z40_,bl⟩
          ·rw[if_neg c0_]at H
           by_cases c1_:M0.length<4096
           ·rw[if_pos c1_]at H;simp only[Option.some.injEq,Prod.mk.injEq]at H;obtain⟨e1_,e2_,rfl⟩:=H;obtain⟨j_,hj_⟩:∃j_:Int,(M0.length:Int)-1=j_:=⟨_,rfl⟩;(have hm_:M0.length=j_.toNat+1:=by omega);(have em_:M0.length-1=j_.toNat:=by omega);rw[em_]at e1_ e2_;have hPc_:=(Kd.R_reads' (Kd.S_R HS_.out)).2.1
            obtain⟨ad_,ea_⟩:∃ad_,N2=some ad_:=by
             obtain⟨g_,c2_,e_,_⟩:=Kd.S_form HS_.out (by omega);(injection e_ with e_ _ _);exact⟨_,e_⟩
            subst ea_;obtain⟨v_,hcell_,hv_,hrest_⟩:=S_pop2 HS_.out hm_ hm_;rw[e1_]at hv_;rw[e2_]at hrest_;obtain⟨Av_,cv_,ev_⟩:=Kd.R_slice hv_;subst ev_;have hQ_:=Kd.Z_clip hrest_;(have hwj_:IntKind.i64.wrap ((M0.length:Int)-1)=j_:=by rw[i64_w,hj_];exact w64_small2 _ (by omega) (by omega));have hn_:(j_<0)=False:=eq_false (by omega);have hp_:(0≤j_)=True:=eq_true (by omega);have hq_:(j_<(M0.length:Int))=True:=eq_true (by omega);(have hjc_:j_.toNat≤P2:=by omega);obtain⟨i0_,hi0_,_,hsz_,_⟩:=info_parts info22;have hcut_:=cut_to (P:=Tryz.prog) 23 22 .i64 Tryz.underlying23 hi0_ (some ad_) M0.length P2 j_ (by omega) (by omega) hPc_;clear hi0_ hsz_ hrest_ e1_ e2_ hm_ em_ c0_ c1_ hj_ hPc_ hwn_;have P5:=q2.out;have Q5:=p2.out;have R5:=t2.out;have U5:=r2.out;have V5:=w2.out;have W5:=v2.out;obtain⟨X5,Y5,a6,b6⟩:=qk2 g2;have c6:=t1.out;have d6:=r1.out;have e6:=w1.out;have g6:=v1.out;obtain⟨j6,l6,n6,p6⟩:=qk2 n1;go_wp2;refine wp_region_still_tail 10 rfl (by kernel_rfl) ?_;simp only[List.take_succ_cons,List.take_zero,List.drop_succ_cons,List.drop_zero]
            repeat still_step
            still_call (slices_Clip_int_int.calls (some ad_) j_.toNat P2 _ hjc_)
            refine wpStill_nil ?_;go_wp2;refine bodyPost_ret (results_ct rfl _ _ g1 27 #[.slice Av_ q0.length cv_,.slice (some ad_) j_.toNat j_.toNat] (0,0) _ rfl (kP n1) Tryz.underlying27 rfl (by kernel_rfl)) rfl ?_;exact⟨_,_,er,by(with_reducible repeat(first|apply Kd.R_alloc|apply Kd.R_drewN|apply Kd.R_drew));exact Kd.R_mono (Kd.R_far (p:=⟨g1,1,none⟩) (Kd.R_far (p:=⟨g1,0,none⟩) (Kd.R_types hv_ n1.out (by decide)) (fun _ hk=>hk.2) (.slice Av_ q0.length cv_)) (fun _ hk=>hk.2) (.slice (some ad_) j_.toNat j_.toNat)) (fun _ hk=>trivial),by(with_reducible repeat(first|apply Kd.Z_alloc|apply Kd.Z_drewN|apply Kd.Z_drew));exact Kd.Z_mono (Kd.Z_far (p:=⟨g1,1,none⟩) (Kd.Z_far (p:=⟨g1,0,none⟩) (Kd.Z_types hQ_ n1.out (by decide)) (fun _ hk=>hk.2) (.slice Av_ q0.length cv_)) (fun _ hk=>hk.2) (.slice (some ad_) j_.toNat j_.toNat)) (fun _ hk=>hk.1.2),bl⟩
           ·rw[if_neg c1_]at H;exact absurd H (by simp)
         ·have H':=qa H;clear H;go_wp2;go_meet
          case rel=>exact⟨_,(([]:List Int)),(false),(L0),(.slice x2 L0.length y2),(sd),H',⟨z25_⟩,⟨z1_⟩,⟨z18_⟩,⟨z17_⟩,⟨bk⟩,⟨bk⟩,⟨bk⟩,⟨bk⟩,⟨bl⟩⟩
    case rest=>
     clear q6;obtain⟨kq,K6,L6,M6,N6,rfl,HA,g11,j11,L5,M5,U0,a1,n1,g2,HB⟩:=hcut;obtain⟨l11,rfl,H⟩:=kz kq HA;clear HA;simp only[impl_DeskDo.j1]at H;have n11:=qa H;clear H
     go_upto_region 23 with(fail)
     go_cut [130] (fun p11 wc=>∃(kq:Nat) (q11:Bool),p11= .bool q11∧Aside0 (impl_DeskDo.j2 kq K6 q11 M6 M0=some (q0,r0,t0))∧Aside0 (kq≤l11)∧Aside0 (Kd.R (Kd.int .i64) 3 wc w.heap.size (fun k_=>some k_≠(N6:Value).ownBlock) u7 K6)∧Aside0 (Kd.R (Kd.int .i64) 3 wc w.heap.size (fun k_=>some k_≠(u7:Value).ownBlock) N6 M6)∧Aside0 (Kd.Z (Kd.slice 3 (Kd.int .i64)) 22 wc w.heap.size (fun k_=>some k_≠(u7:Value).ownBlock ∧some k_≠(N6:Value).ownBlock) (.slice N2 M0.length P2) M0)∧Aside0 (wc.heap[Q0]? =some (.cells #[(.slice a0 c0.length b0),(.slice d0 g0.length e0)] 27 (0,0)))∧Aside0 (wc.heap[X0]? =some (.cells #[.int .i64 l0,.int .i64 n0,.int .i64 p0] 55 (0,0)))∧Aside0 (wc.heap[g1]? =some (.cells #[(.slice none 0 0),(.slice none 0 0)] 27 (0,0)))∧Aside0 (wc.heap[d2]? =some (.cells #[N6,(.slice N2 M0.length P2)] 27 (0,0)))∧Aside0 (Below w.heap.size w wc))
     case first=>
      have H:=n11.out;clear n11;replace H:=qc H;obtain⟨rfl,H⟩|⟨rfl,H⟩:=H
      ·replace H:=qb H;obtain⟨r11,s11,H⟩:=H;have H':=qa H;clear H;have t11:=d1.out;have v11:=e1.out;have w11:=r1.out;have x11:=t1.out;have y11:=p2.out;have A11:=q2.out;obtain⟨B11,C11,D11,E11⟩:=qk2 U0;obtain⟨G11,J11,rfl⟩:=Kd.R_slice j11.out
       go_wp2_with(first|(go_at_call 101;(with_reducible refine(slices_Equal_int_int.calls l11 _ _ K6 _ _ c0 r11 _ ?P1 ?Q1 ?R1 ?U1 s11.out).mono ?_);(case P1=>exact cx (Kd.R_reads' j11.out).2.2);(case Q1=>exact(Kd.R_reads' j11.out).2.1);(case R1=>exact cx (Kd.C_below C0.out HB.out));(case U1=>exact D0.out);rintro e w' ⟨rfl,⟨nd,rfl⟩⟩))
       go_meet
       case rel=>exact⟨_,(r11),(sd),H',⟨by have:=K5.out;have:=g11.out;first|omega|exact Nat.le_refl _⟩,⟨kR j11⟩,⟨kR L5⟩,⟨kZ M5⟩,⟨bk⟩,⟨bk⟩,⟨bk⟩,⟨bk⟩,⟨bl⟩⟩
      ·have H':=qa H;clear H;go_wp2;go_meet
       case rel=>exact⟨_,(true),(sd),H',⟨by have:=K5.out;have:=g11.out;first|omega|exact Nat.le_refl _⟩,⟨kR j11⟩,⟨kR L5⟩,⟨kZ M5⟩,⟨bk⟩,⟨bk⟩,⟨bk⟩,⟨bk⟩,⟨bl⟩⟩
     case rest=>
      clear n11;obtain⟨kq,q11,rfl,HA,K11,j11,L5,M5,U0,a1,n1,g2,HB⟩:=hcut;obtain⟨L11,rfl,H⟩:=kz kq HA;clear HA;simp only[impl_DeskDo.j2]at H;replace H:=qc H;obtain⟨rfl,H⟩|⟨rfl,H⟩:=H
      ·simp only[Option.some.injEq,Prod.mk.injEq]at H;obtain⟨rfl,rfl,rfl⟩:=H;have M11:=q2.out;have N11:=p2.out;have P11:=t2.out;have Q11:=r2.out;have R11:=w2.out;have U11:=v2.out;obtain⟨V11,W11,X11,Y11⟩:=qk2 g2;obtain⟨a12,b12,rfl⟩:=Kd.R_slice L5.out;have c12:=t1.out;have d12:=r1.out;have e12:=w1.out;have g12:=v1.out;obtain⟨j12,l12,n12,p12⟩:=qk2 n1;go_wp2;refine bodyPost_ret (results_ct rfl _ _ g1 27 #[.slice a12 M6.length b12,.slice N2 M0.length P2] (0,0) _ rfl (kP n1) Tryz.underlying27 rfl (by kernel_rfl)) rfl ?_;exact⟨_,_,er,kFR L5 n1 (fun _ hk=>trivial),by(with_reducible repeat(first|apply Kd.Z_alloc|apply Kd.Z_drewN|apply Kd.Z_drew));exact Kd.Z_mono (Kd.Z_far (p:=⟨g1,1,none⟩) (Kd.Z_far (p:=⟨g1,0,none⟩) (Kd.Z_types M5.out n1.out (by decide)) (fun _ hk=>hk.2) (.slice a12 M6.length b12)) (fun _ hk=>hk.2) (.slice N2 M0.length P2)) (fun _ hk=>hk.1.2),bl⟩
      ·replace H:=qn H;obtain⟨q12,H⟩:=H;have r12:=qa q12;clear q12;replace H:=qs H;obtain⟨s12,t12,H⟩:=H
       by_cases v12:(s12.length:Int)>8
       ·rw[if_pos v12]at H;have w12:decide (8<(s12.length:Int))=true:=decide_eq_true v12;have x12:decide (8<s12.length)=true:=decide_eq_true (by omega);clear v12;replace H:=qn H;obtain⟨y12,H⟩:=H;have A12:=eq_true y12;have B12:decide (1≤(s12.length:Int))=true:=decide_eq_true y12;clear y12;obtain⟨C12,hy_⟩:∃y_:List (List Int),y_=(s12.drop (1:Int).toNat):=⟨_,rfl⟩;replace H:((impl_copyDesk.f L11 K6 C12).bind fun D12=>(some (D12.1,D12.2,true)))=some (q0,r0,t0):=yh;have E12:=qa hy_;clear hy_;replace H:=qb H;obtain⟨⟨G12,J12⟩,K12,H⟩:=H;(try dsimp only at H);simp only[Option.some.injEq,Prod.mk.injEq]at H;obtain⟨rfl,rfl,rfl⟩:=H;have L12:=q2.out;have M12:=p2.out;have N12:=t2.out;have P12:=r2.out;have Q12:=w2.out;have R12:=v2.out;obtain⟨U12,V12,W12,X12⟩:=qk2 g2;obtain⟨Y12,a13,rfl⟩:=Kd.R_slice L5.out
        go_wp2_with(first|((with_reducible refine gate_builtin (b:= .append) (xs:=#[.tmp 134,.tmp 137]) rfl ?_);at_builtin;refine Kd.Q_append (Kd.slice 3 (Kd.int .i64)) (w0:=w) w.heap.size rfl (.tmp 134) (.tmp 137) 23 22 (.slice none 0 0) 24 rfl Tryz.underlying23 info22 rfl (by decide) (by omega) (.slice N2 M0.length P2) M0 M6 [.slice Y12 M6.length a13] (fun k_=>some k_≠(u7:Value).ownBlock) (fun k_=>((fun k_=>some k_≠(u7:Value).ownBlock)) k_∧some k_≠(.slice N2 M0.length P2:Value).ownBlock) rfl rfl ?aP (fun _ hk=>hk) ?aF ?aO ?aB ?aS ?aL ?_;(case aP=>exact Kd.M_row (Kd.R_mono (Kd.R_apart' (L5.out) (Kd.Z_typed M5.out) (by decide)) (fun k_ hk=>⟨hk.1,hk.2⟩)));(case aB=>exact(bl));(case aF=>exact(fun k_ hk=>Kd.fresh' (Kd.R_lt (kR j11)) k_ hk));(case aO=>exact Kd.Z_Q (by(with_reducible repeat(first|apply Kd.Z_alloc|apply Kd.Z_drewN|apply Kd.Z_drew));exact Kd.Z_mono M5.out (fun _ hk=>hk.1)));(case aS=>exact(below_size (bl)));(case aL=>have:=r12.out;omega);intro b13 c13 ho hb hg hat;rw[←t12.out]at ho;replace j11:=qa (Kd.R_over' (kR j11) (Kd.Z_typed (kZ M5)) (by decide) hg);replace U0:=qa (blk_grown (g:=Q0) (o:= .cells #[.slice a0 c0.length b0,.slice d0 g0.length e0] 27 (0,0)) (bk) hg (Kd.Z_ne M5.out U0.out (by decide)));replace a1:=qa (blk_grown (g:=X0) (o:= .cells #[.int .i64 l0,.int .i64 n0,.int .i64 p0] 55 (0,0)) (bk) hg (Kd.Z_ne M5.out a1.out (by decide)));replace n1:=qa (blk_grown (g:=g1) (o:= .cells #[.slice none 0 0,.slice none 0 0] 27 (0,0)) (bk) hg (Kd.Z_ne M5.out n1.out (by decide)));replace g2:=qa (blk_grown (g:=d2) (o:= .cells #[.slice Y12 M6.length a13,.slice N2 M0.length P2] 27 (0,0)) (bk) hg (Kd.Z_ne M5.out g2.out (by decide)));replace HB:=qa (hb);have d13:=qa (ho);clear M5 L5;clear ho hb hg hat;obtain⟨e13,g13,j13,_⟩:=Kd.Q_slice d13.out;subst j13;obtain⟨l13,n13,rfl⟩:=Kd.R_slice j11.out)|(refine bx 10 #[.slice none 0 0,.slice none 0 0] 27 ?_;intro p13 hg q13 hbox hb;replace j11:=qa (Kd.R_below (kR j11) hb);replace d13:=qa (Kd.Q_below (kQ d13) hb);have r13:=qa (hbox);have s13:=gw hg;have t13:=gw hg;replace HB:=bs hb;have v13:=qnl hg U0;have w13:=qng hg U0;replace U0:=qbb U0 hb;have x13:=qnl hg a1;have y13:=qng hg a1;replace a1:=qbb a1 hb;have A13:=qnl hg n1;have B13:=qng hg n1;replace n1:=qbb n1 hb;have C13:=qnl hg g2;have D13:=qng hg g2;replace g2:=qbb g2 hb;clear hb hbox hg;have E13:=w13.out;have G13:=v13.out;have J13:=y13.out;have K13:=x13.out;have L13:=B13.out;have M13:=A13.out;have N13:=D13.out;have P13:=C13.out;obtain⟨Q13,R13,U13,V13⟩:=qk2 r13)|((with_reducible refine gate_store (t:=27) (p:=10) rfl ?_);refine store_event (t:=27) (p:=10) (v:=?vo_w164) (w1:=((q13.setCell ⟨p13,0,none⟩ (.slice l13 K6.length n13)).setCell ⟨p13,1,none⟩ (.slice e13 s12.length g13))) ?hg ?ho ?hn ?hr ?_;(case ho=>rfl);(case hg=>rfl);(case hn=>rfl);(case hr=>exact gr);intro W13 hw;have n0_:Aside0 (Kd.R (Kd.int .i64) 3 W13 w.heap.size (fun _=>True) (.slice l13 K6.length n13) K6):=⟨(by rw[hw];exact(kFR j11 r13 (fun _ hk=>trivial)))⟩;have n1_:Aside0 (Kd.Q (Kd.slice 3 (Kd.int .i64)) 22 W13 w.heap.size (fun k_=>some k_≠(.slice l13 K6.length n13:Value).ownBlock) (.slice e13 s12.length g13) s12):=⟨(by rw[hw];exact(kFQ d13 r13 (fun _ hk=>hk.1)))⟩;have n2_:Aside0 (W13.heap[Q0]? =some (.cells #[.slice a0 c0.length b0,.slice d0 g0.length e0] 27 (0,0))):=⟨(by rw[hw];exact(kb U0))⟩;have n3_:Aside0 (W13.heap[X0]? =some (.cells #[.int .i64 l0,.int .i64 n0,.int .i64 p0] 55 (0,0))):=⟨(by rw[hw];exact(kb a1))⟩;have n4_:Aside0 (W13.heap[g1]? =some (.cells #[.slice none 0 0,.slice none 0 0] 27 (0,0))):=⟨(by rw[hw];exact(kb n1))⟩;have n5_:Aside0 (W13.heap[d2]? =some (.cells #[.slice Y12 M6.length a13,.slice N2 M0.length P2] 27 (0,0))):=⟨(by rw[hw];exact(kb g2))⟩;have n6_:Aside0 (W13.heap[p13]? =some (.cells #[.slice l13 K6.length n13,.slice e13 s12.length g13] 27 (0,0))):=⟨(by rw[hw];exact(kP r13))⟩;have n7_:Aside0 (Below w.heap.size w W13):=⟨(by rw[hw];exact(bl))⟩;clear hw;clear j11;clear d13;clear U0;clear a1;clear n1;clear g2;clear r13;clear HB;have j11:=n0_;have d13:=n1_;have U0:=n2_;have a1:=n3_;have n1:=n4_;have g2:=n5_;have r13:=n6_;have HB:=n7_;clear n0_ n1_ n2_ n3_ n4_ n5_ n6_ n7_;obtain⟨X13,Y13,a14,b14⟩:=qk2 r13;have c14:(1:Int)≤((s12.length:Int):Int):=qo;obtain⟨i0166,d14,_,e14,_⟩:=info_parts info22;have g14:=cut_from (P:=Tryz.prog) 23 22 .i64 Tryz.underlying23 d14 1 e14 e13 s12.length g13 1 (by omega) c14;have j14:=Kd.Q_drop (k:=(1:Int).toNat) d13.out (by omega);obtain⟨l14,hA166⟩:∃n14,n14=(if g13=(1:Int).toNat then e13 else(e13:Option Addr).map (·.add ((1:Int).toNat *1))):=⟨_,rfl⟩;obtain⟨p14,q14⟩:∃r14,r14=g13-(1:Int).toNat :=⟨_,rfl⟩;have s14:C12.length=s12.length-(1:Int).toNat :=(by rw[E12.out,List.length_drop]);rw[←E12.out]at j14;rw[←s14,←hA166,←q14]at g14;replace j14:Kd.Q (Kd.slice 3 (Kd.int .i64)) 22 W13 w.heap.size (fun k_=>some k_≠(.slice l13 K6.length n13:Value).ownBlock) (.slice l14 C12.length p14) C12:=(by rw[hA166,q14,s14];exact j14);have HE166:Aside0 ((Value.slice l14 C12.length p14).ownBlock =(.slice e13 s12.length g13:Value).ownBlock):=⟨by rw[hA166];split <;> (cases (e13:Option Addr) <;> rfl)⟩;clear s14 d14 e14 d13 hA166 q14;have t14:=qa j14;clear j14;replace c14:=eq_true c14)|(refine gol (some 149) Tryz.func54 #[.agg #[.slice l13 K6.length n13,.slice l14 C12.length p14]] ?_;(with_reducible refine(impl_copyDesk.calls L11 _ _ K6 _ _ C12 G12 J12 _ ?P1 ?Q1 ?R1 ?U1 K12.out).mono ?_);(case P1=>refine(Kd.R_reads' (e:=3) (base:=w.heap.size) (ok:=fun k_=>True) (n:=K6.length) (c:=n13) ?_).2.2;exact(kFR j11 r13 (fun _ h_=>h_.1)));(case Q1=>exact(Kd.R_reads' j11.out).2.1);(case R1=>refine(Kd.Q_reads' (e:=22) (base:=w.heap.size) (ok:=fun k_=>some k_≠(.slice l13 K6.length n13:Value).ownBlock) (n:=C12.length) (c:=p14) ?_).2.2;exact(kFQ t14 r13 (fun _ h_=>h_.1)));(case U1=>exact(Kd.Q_reads' t14.out).2.1);rintro e v14 ⟨w14,x14,rfl,Y1,a2,hb⟩;refine⟨_,rfl,?_⟩;have y14:=qa (Kd.R_lower (Kd.R_new' Y1 (Kd.R_lt (kFR j11 r13 (fun _ h_=>h_.1)))) (below_size (bl)));have A14:=qa (Kd.S_lower (Kd.S_new' (Kd.S_new' a2 (Kd.R_lt (kFR j11 r13 (fun _ h_=>h_.1)))) (Kd.Q_lt (kFQ t14 r13 (fun _ h_=>h_.1)))) (below_size (bl)));replace j11:=qa (Kd.R_elder' (kFR j11 r13 (fun _ h_=>h_.1)) (Kd.R_base Y1) hb);replace t14:=qa (Kd.Q_mono (Kd.Q_told (Kd.Q_told (Kd.Q_old (kFQ t14 r13 (fun _ h_=>h_.1)) hb) (Kd.R_base Y1)) (Kd.S_base a2)) (fun _ h_=>h_.1));replace U0:=qbb U0 hb;replace a1:=qbb a1 hb;replace n1:=qbb n1 hb;replace g2:=qbb g2 hb;replace r13:=qa (blk_below (g:=p13) (o:= .cells #[.slice l13 K6.length n13,.slice l14 C12.length p14] 27 (0,0)) (kP r13) hb);replace HB:=bs hb;obtain⟨B14,C14,rfl⟩:=Kd.R_slice y14.out;have D14:=t1.out;have E14:=r1.out;have G14:=w1.out;have J14:=v1.out;obtain⟨K14,L14,M14,N14⟩:=qk2 n1;obtain⟨P14,Q14,rfl⟩:=Kd.S_slice A14.out))
        refine bodyPost_ret (results_ct rfl _ _ g1 27 #[.slice B14 G12.length C14,.slice P14 J12.length Q14] (0,0) _ rfl (kP n1) Tryz.underlying27 rfl (by kernel_rfl)) rfl ?_;exact⟨_,_,er,kFR y14 n1 (fun _ hk=>trivial),Kd.Z_of_S (kFS A14 n1 (fun _ hk=>hk.1.1.1)),bl⟩
       ·rw[if_neg v12]at H;have w12:decide (8<(s12.length:Int))=false:=decide_eq_false v12;have x12:decide (8<s12.length)=false:=decide_eq_false (by omega);clear v12;replace H:=qb H;obtain⟨⟨R14,U14⟩,V14,H⟩:=H;(try dsimp only at H);simp only[Option.some.injEq,Prod.mk.injEq]at H;obtain⟨rfl,rfl,rfl⟩:=H;have W14:=q2.out;have X14:=p2.out;have Y14:=t2.out;have a15:=r2.out;have b15:=w2.out;have c15:=v2.out;obtain⟨d15,e15,g15,j15⟩:=qk2 g2;obtain⟨l15,n15,rfl⟩:=Kd.R_slice L5.out
        go_wp2_with(first|((with_reducible refine gate_builtin (b:= .append) (xs:=#[.tmp 134,.tmp 137]) rfl ?_);at_builtin;refine Kd.Q_append (Kd.slice 3 (Kd.int .i64)) (w0:=w) w.heap.size rfl (.tmp 134) (.tmp 137) 23 22 (.slice none 0 0) 24 rfl Tryz.underlying23 info22 rfl (by decide) (by omega) (.slice N2 M0.length P2) M0 M6 [.slice l15 M6.length n15] (fun k_=>some k_≠(u7:Value).ownBlock) (fun k_=>((fun k_=>some k_≠(u7:Value).ownBlock)) k_∧some k_≠(.slice N2 M0.length P2:Value).ownBlock) rfl rfl ?aP (fun _ hk=>hk) ?aF ?aO ?aB ?aS ?aL ?_;(case aP=>exact Kd.M_row (Kd.R_mono (Kd.R_apart' (L5.out) (Kd.Z_typed M5.out) (by decide)) (fun k_ hk=>⟨hk.1,hk.2⟩)));(case aB=>exact(bl));(case aF=>exact(fun k_ hk=>Kd.fresh' (Kd.R_lt (kR j11)) k_ hk));(case aO=>exact Kd.Z_Q (by(with_reducible repeat(first|apply Kd.Z_alloc|apply Kd.Z_drewN|apply Kd.Z_drew));exact Kd.Z_mono M5.out (fun _ hk=>hk.1)));(case aS=>exact(below_size (bl)));(case aL=>have:=r12.out;omega);intro b13 p15 ho hb hg hat;rw[←t12.out]at ho;replace j11:=qa (Kd.R_over' (kR j11) (Kd.Z_typed (kZ M5)) (by decide) hg);replace U0:=qa (blk_grown (g:=Q0) (o:= .cells #[.slice a0 c0.length b0,.slice d0 g0.length e0] 27 (0,0)) (bk) hg (Kd.Z_ne M5.out U0.out (by decide)));replace a1:=qa (blk_grown (g:=X0) (o:= .cells #[.int .i64 l0,.int .i64 n0,.int .i64 p0] 55 (0,0)) (bk) hg (Kd.Z_ne M5.out a1.out (by decide)));replace n1:=qa (blk_grown (g:=g1) (o:= .cells #[.slice none 0 0,.slice none 0 0] 27 (0,0)) (bk) hg (Kd.Z_ne M5.out n1.out (by decide)));replace g2:=qa (blk_grown (g:=d2) (o:= .cells #[.slice l15 M6.length n15,.slice N2 M0.length P2] 27 (0,0)) (bk) hg (Kd.Z_ne M5.out g2.out (by decide)));replace HB:=qa (hb);have d13:=qa (ho);clear M5 L5;clear ho hb hg hat;obtain⟨q15,r15,s15,_⟩:=Kd.Q_slice d13.out;subst s15;obtain⟨t15,v15,rfl⟩:=Kd.R_slice j11.out)|(refine bx 10 #[.slice none 0 0,.slice none 0 0] 27 ?_;intro p13 hg w15 hbox hb;replace j11:=qa (Kd.R_below (kR j11) hb);replace d13:=qa (Kd.Q_below (kQ d13) hb);have r13:=qa (hbox);have s13:=gw hg;have t13:=gw hg;replace HB:=bs hb;have v13:=qnl hg U0;have w13:=qng hg U0;replace U0:=qbb U0 hb;have x13:=qnl hg a1;have y13:=qng hg a1;replace a1:=qbb a1 hb;have A13:=qnl hg n1;have B13:=qng hg n1;replace n1:=qbb n1 hb;have C13:=qnl hg g2;have D13:=qng hg g2;replace g2:=qbb g2 hb;clear hb hbox hg;have x15:=w13.out;have y15:=v13.out;have A15:=y13.out;have B15:=x13.out;have C15:=B13.out;have D15:=A13.out;have E15:=D13.out;have G15:=C13.out;obtain⟨J15,K15,L15,M15⟩:=qk2 r13)|(refine gol (some 149) Tryz.func54 #[.agg #[.slice t15 K6.length v15,.slice q15 s12.length r15]] ?_;(with_reducible refine(impl_copyDesk.calls L11 _ _ K6 _ _ s12 R14 U14 _ ?P1 ?Q1 ?R1 ?U1 V14.out).mono ?_);(case P1=>refine(Kd.R_reads' (e:=3) (base:=w.heap.size) (ok:=fun k_=>some k_≠(.slice l15 M6.length n15:Value).ownBlock) (n:=K6.length) (c:=v15) ?_).2.2;exact(kFR j11 r13 (fun _ h_=>h_.1)));(case Q1=>exact(Kd.R_reads' j11.out).2.1);(case R1=>refine(Kd.Q_reads' (e:=22) (base:=w.heap.size) (ok:=fun k_=>some k_≠(.slice t15 K6.length v15:Value).ownBlock) (n:=s12.length) (c:=r15) ?_).2.2;exact(kFQ d13 r13 (fun _ h_=>h_.1)));(case U1=>exact(Kd.Q_reads' d13.out).2.1);rintro e N15 ⟨P15,Q15,rfl,Y1,a2,hb⟩;refine⟨_,rfl,?_⟩;have R15:=qa (Kd.R_lower (Kd.R_new' Y1 (Kd.R_lt (kFR j11 r13 (fun _ h_=>h_.1)))) (below_size (bl)));have U15:=qa (Kd.S_lower (Kd.S_new' (Kd.S_new' a2 (Kd.R_lt (kFR j11 r13 (fun _ h_=>h_.1)))) (Kd.Q_lt (kFQ d13 r13 (fun _ h_=>h_.1)))) (below_size (bl)));replace j11:=qa (Kd.R_elder' (kFR j11 r13 (fun _ h_=>h_.1)) (Kd.R_base Y1) hb);replace d13:=qa (Kd.Q_mono (Kd.Q_told (Kd.Q_told (Kd.Q_old (kFQ d13 r13 (fun _ h_=>h_.1)) hb) (Kd.R_base Y1)) (Kd.S_base a2)) (fun _ h_=>h_.1));replace U0:=qbb U0 hb;replace a1:=qbb a1 hb;replace n1:=qbb n1 hb;replace g2:=qbb g2 hb;replace r13:=qa (blk_below (g:=p13) (o:= .cells #[.slice t15 K6.length v15,.slice q15 s12.length r15] 27 (0,0)) (kP r13) hb);replace HB:=bs hb;obtain⟨V15,W15,rfl⟩:=Kd.R_slice R15.out;have X15:=t1.out;have Y15:=r1.out;have a16:=w1.out;have b16:=v1.out;obtain⟨c16,d16,e16,g16⟩:=qk2 n1;obtain⟨j16,l16,rfl⟩:=Kd.S_slice U15.out))
        refine bodyPost_ret (results_ct rfl _ _ g1 27 #[.slice V15 R14.length W15,.slice j16 U14.length l16] (0,0) _ rfl (kP n1) Tryz.underlying27 rfl (by kernel_rfl)) rfl ?_;exact⟨_,_,er,kFR R15 n1 (fun _ hk=>trivial),Kd.Z_of_S (kFS U15 n1 (fun _ hk=>hk.1.1.1)),bl⟩
 ·simp only[Option.some.injEq,Prod.mk.injEq]at H;obtain⟨rfl,rfl,rfl⟩:=H
  go_enter Tryz.func53,Tryz.ntmps53
  go_wp2_with(first|(refine bx 2 #[.slice a0 c0.length b0,.slice d0 g0.length e0] 27 ?_;intro Q0 hg n16 hbox hb;have U0:=qa (hbox);have V0:=gw hg;have W0:=gw hg;replace HB:=bs hb;clear hb hbox hg)|(refine bx 3 #[.int .i64 l0,.int .i64 n0,.int .i64 p0] 55 ?_;intro X0 hg p16 hbox hb;have a1:=qa (hbox);have b1:=gw hg;have c1:=gw hg;replace HB:=bs hb;have d1:=qnl hg U0;have e1:=qng hg U0;replace U0:=qbb U0 hb;clear hb hbox hg)|(refine bx 4 #[.slice none 0 0,.slice none 0 0] 27 ?_;intro g1 hg q16 hbox hb;have n1:=qa (hbox);have p1:=gw hg;have q1:=gw hg;replace HB:=bs hb;have r1:=qnl hg U0;have t1:=qng hg U0;replace U0:=qbb U0 hb;have v1:=qnl hg a1;have w1:=qng hg a1;replace a1:=qbb a1 hb;clear hb hbox hg;have r16:=d1.out;have s16:=e1.out;have t16:=r1.out;have v16:=t1.out;obtain⟨w16,x16,y16,A16⟩:=qk2 U0)|(refine gb 12 Tryz.func37 (impl_DeskOk.calls k _ _ c0 _ _ g0 false _ (cx (Kd.C_below C0.out HB.out)) D0.out (cx (Kd.C_below E0.out HB.out)) G0.out K0.out) fun B16 hb=>?_;replace U0:=qbb U0 hb;replace a1:=qbb a1 hb;replace n1:=qbb n1 hb;replace HB:=bs hb;have C16:=w1.out;have D16:=v1.out;obtain⟨E16,G16,J16,K16⟩:=qk2 n1))
  refine bodyPost_ret (results_ct rfl _ _ g1 27 #[.slice none 0 0,.slice none 0 0] (0,0) _ rfl (kP n1) Tryz.underlying27 rfl (by kernel_rfl)) rfl ?_;exact⟨_,_,er,z1_,Kd.Z_of_S z19_,bl⟩
-- GLOBAL
-- IMPORT Derived.Test.YtdmlkjjlgkdnlaaGreatDoorShelf
def strings_Cut.f (a0 b0:ByteArray):Option (ByteArray×ByteArray×Bool):=if a0.size<4294967281 then some (⟨(Lib.cut a0.data.toList b0.data.toList).1.toArray⟩,⟨(Lib.cut a0.data.toList b0.data.toList).2.1.toArray⟩,(Lib.cut a0.data.toList b0.data.toList).2.2)else none
theorem strings_Cut.calls (a0:ByteArray) (b0:ByteArray) (c0:ByteArray) (d0:ByteArray) (e0:Bool) (w:World) (h:strings_Cut.f a0 b0=some (c0,d0,e0)) (hG_:GL w):
  Calls Tryz.prog 75 #[.string a0,.string b0] w fun e w'=>e= .returned (.tuple #[.string c0,.string d0,.bool e0])∧Below w.heap.size w w':=by
 unfold strings_Cut.f at h
 by_cases h0:a0.size<4294967281
 ·rw[if_pos h0]at h;have h:=Option.some.inj h;obtain⟨m,hm⟩:=hG_.maxlen;refine(Tryz.strings_Cut a0 b0 m w h0 hm).mono ?_;rintro e w' ⟨rfl,n,rfl⟩;have g0:=congrArg (·.1) h;have j0:=congrArg (·.2.1) h;have l0:=congrArg (·.2.2) h;simp only at g0 j0 l0;rw[g0,j0,l0];exact⟨rfl,pw_below_drewN (Below.refl _ _) n⟩
 ·rw[if_neg h0]at h;cases h

-- IMPORT Derived.Test.YtdmlkjjlgkdnlaaGreatDoorShelf
def strings_Join.f (a0:List ByteArray) (b0:ByteArray):Option ByteArray:=if a0.length≤140737488355328∧(Lib.join (a0.map (·.data.toList)) b0.data.toList).length ≤140737488355328 then some ⟨(Lib.join (a0.map (·.data.toList)) b0.data.toList).toArray⟩else none
theorem strings_Join.calls (a0:Option Addr) (b0:Nat) (c0:List ByteArray) (d0:ByteArray) (r:ByteArray) (w:World) (e0:Kd.C Kd.string w a0 c0.length c0) (g0:c0.length≤b0) (h:strings_Join.f c0 d0=some r):
  Calls Tryz.prog 142 #[.slice a0 c0.length b0,.string d0] w fun e w'=>e= .returned (.string r)∧Below w.heap.size w w':=by
 unfold strings_Join.f at h
 by_cases h0:c0.length≤140737488355328∧(Lib.join (c0.map (·.data.toList)) d0.data.toList).length ≤140737488355328
 ·rw[if_pos h0]at h;obtain rfl:=Option.some.inj h
  cases c0 with
  |nil=>exact(Tryz.strings_Join_none a0 b0 d0 w).mono fun e w' ⟨he,hw⟩=>⟨he,hw▸Below.refl _ _⟩
  |cons x l=>
   obtain⟨_,_,hc⟩:=e0;obtain⟨⟨bk,o,s⟩,rfl,hcell⟩:=hc (by simp)
   have h1:w.cell? ⟨bk,o,s⟩=some (.string x):=by
    obtain⟨c,hs,hk,hi⟩:=hcell 0 x rfl;have hk:c=[.string x]:=hk;subst hk;have h2:=hi 0 _ rfl;simp only[Nat.zero_mul,Nat.add_zero]at h2;exact h2
   have hsn:s=none:=by
    cases s with
    |none=>rfl
    |some q=>
     unfold World.cell? at h1
     split at h1 <;> simp at h1
   subst hsn
   have hx:∀(j:Nat) p,(x::l)[j]? =some p→w.cell? ⟨bk,o+j,none⟩=some (.string p):=fun j p hj=>by
    obtain⟨c,hs,hk,hi⟩:=hcell j p hj;have hk:c=[.string p]:=hk;subst hk;have h2:=hi 0 _ rfl;rw[add_at,show j*Kd.string.sz+0=j from Nat.mul_one j]at h2;exact h2
   exact Tryz.strings_Join bk o b0 (x::l) d0 w hx (World.block_lt_of_cell? w _ h1) h0.1 g0 h0.2
 ·rw[if_neg h0]at h;cases h

def impl_rowText.l0:Nat→List ByteArray→List Int→Int→Int→Option (ByteArray)
 |0,_,_,_,_=>none
 |k+1,a0,b0,c0,d0=>if d0<c0 then(if 0≤d0 then(if d0<(b0.length:Int)then((strconv_Itoa.f (rd b0 d0)).bind fun e0=>(if a0.length<8796093022208 then(impl_rowText.l0 k (a0++[e0]) b0 c0 (wrap64 (d0+1)))else(none)))else(none))else(none))else((strings_Join.f a0 (⟨#[44]⟩:ByteArray)).bind fun g0=>(some g0))
def impl_rowText.f (k:Nat) (a0:List Int):Option (ByteArray):=impl_rowText.l0 k (([]:List ByteArray)) a0 (a0.length:Int) 0
set_option maxHeartbeats 8000000 in
set_option maxRecDepth 100000 in
theorem impl_rowText.calls (k:Nat) (a0:Option Addr) (b0:Nat) (c0:List Int) (r:ByteArray) (w:World) (d0:Kd.C (Kd.int .i64) w a0 c0.length c0) (e0:c0.length≤b0) (h:impl_rowText.f k c0=some r) (hG_:GL w):
  Calls Tryz.prog 102 #[.slice a0 c0.length b0] w fun e w'=>e= .returned (.string r)∧Below w.heap.size w w':=by
 have g0:=qa d0;have j0:=qa e0;clear d0 e0;have HB:=qa (Below.refl w.heap.size w);have H:=h;unfold impl_rowText.f at H;clear h;obtain⟨n0,hy_⟩:∃y_:List ByteArray,y_=(([]:List ByteArray)):=⟨_,rfl⟩;replace H:(impl_rowText.l0 k n0 c0 (c0.length:Int) 0)=some r:=yh;have p0:=qa hy_;clear hy_;have H':=qa H;clear H
 go_enter Tryz.func102,Tryz.ntmps102
 go_wp2_with(first|((with_reducible refine gate_dst (N:=6) rfl ?_);refine Kd.R_lit Kd.string _ 9 ?hg (N:=6) ?hd (xs:=([]:List ByteArray)) (inner:=[]) (ok:=fun _=>True) (okp:=fun _=>True) ?hr ?hp (fun _ hk=>hk) trivial (Below.refl _ _) (Nat.le_refl _) (by simp) ?_;(case hd=>rfl);(case hg=>rfl);(case hr=>exact gr);(case hp=>exact(Reps.none _ _));intro q0 r0 s0 hb hg_ hnew_;clear hg_ hnew_;(first|rw[←p0.out]at s0|(simp only[Int.reduceToNat]at s0;rw[←p0.out]at s0));have t0:=qa (Kd.R_lower s0 (below_size (bl)));replace HB:=bs hb;clear hb s0))
 go_loopg [3,9] k (fun kq v0 w0 w'=>∃(x0:List ByteArray) (y0:Int),w0= .int .i64 y0∧Aside0 (impl_rowText.l0 kq x0 c0 (c0.length:Int) y0=some r)∧Aside0 (kq≤k)∧Aside0 (Kd.R Kd.string 9 w' w.heap.size (fun _=>True) v0 x0)∧Aside0 (Below w.heap.size w w'))
 case atStart=>exact⟨(n0),(0),(sd),H',⟨Nat.le_refl _⟩,⟨kR t0⟩,⟨bl⟩⟩
 case round=>
  clear H';obtain⟨x0,y0,rfl,HA,HK1,A0,HB⟩:=hrel;obtain⟨k1,rfl,H⟩:=kz gk HA;clear HA;simp only[impl_rowText.l0]at H;replace H:=qe H;obtain⟨B0,H⟩|⟨B0,H⟩:=H
  ·replace H:=qd H;obtain⟨C0,H⟩:=H;replace H:=qd H;obtain⟨D0,H⟩:=H;replace H:=qb H;obtain⟨E0,G0,H⟩:=H;replace H:=qn H;obtain⟨J0,H⟩:=H;have K0:=qa J0;clear J0;obtain⟨L0,hy_⟩:∃y_:List ByteArray,y_=(x0++[E0]):=⟨_,rfl⟩;replace H:(impl_rowText.l0 k1 L0 c0 (c0.length:Int) (wrap64 (y0+1)))=some r:=yh;have M0:=qa hy_;clear hy_;have H':=qa H;clear H;obtain⟨N0,⟨⟩,P0,Q0,R0⟩:=ai g0.out y0;(try replace P0:=(HB.out.cell (World.block_lt_of_cell? w _ P0)).trans P0)
   go_wp2_with(first|(refine gb 15 Tryz.func77 (strconv_Itoa.calls (rd c0 y0) E0 _ G0.out (GL_below hG_ (bl))) fun U0 hb=>?_;replace A0:=qa (Kd.R_below (kR A0) hb);replace HB:=bs hb)|((with_reducible refine gate_builtin (b:= .append) (xs:=#[.tmp 13,.tmp 16]) rfl ?_);at_builtin;refine Kd.R_append Kd.string (w0:=w) w.heap.size rfl (.tmp 13) (.tmp 16) 35 9 (.string ⟨#[]⟩) 16 rfl Tryz.underlying35 info9 rfl (by decide) (by omega) u3 x0 E0 [.string E0] (fun _=>True) (fun _=>False) rfl rfl ?aP (fun _ hk=>hk.elim) ?aF ?aO ?aB ?aS ?aL ?_;(case aP=>exact rfl);(case aB=>exact(bl));(case aF=>exact(fun _ _=>trivial));(case aO=>exact(kR A0));(case aS=>exact(below_size (bl)));(case aL=>have:=K0.out;omega);intro V0 W0 ho hb hg hat;rw[←M0.out]at ho;replace HB:=qa (hb);have X0:=qa (ho);clear A0;clear ho hb hg hat))
   go_roundg k1
   case measure=>have:=HK1.out;omega
   case rel=>exact⟨(L0),(wrap64 (y0+1)),(sd),H',⟨by have:=HK1.out;omega⟩,⟨kR X0⟩,⟨bl⟩⟩
  ·replace H:=qb H;obtain⟨Y0,a1,H⟩:=H;obtain rfl:=sj H;obtain⟨b1,c1,rfl⟩:=Kd.R_slice A0.out
   go_wp2_with(first|(refine gb 20 Tryz.func142 (strings_Join.calls _ _ x0 (⟨#[44]⟩:ByteArray) Y0 _ (cx (Kd.R_reads' A0.out).2.2) ((Kd.R_reads' A0.out).2.1) a1.out) fun d1 hb=>?_;replace A0:=qa (Kd.R_below (kR A0) hb);replace HB:=bs hb))
   go_ret;exact⟨er,bl⟩

def impl_yes.f (a0:Bool):Option (ByteArray):=if a0=true then(some (⟨#[121,101,115]⟩:ByteArray))else(some (⟨#[110,111]⟩:ByteArray))
set_option maxHeartbeats 8000000 in
set_option maxRecDepth 100000 in
theorem impl_yes.calls (a0:Bool) (r:ByteArray) (w:World) (h:impl_yes.f a0=some r):
  Calls Tryz.prog 103 #[.bool a0] w fun e w'=>e= .returned (.string r)∧Drawn0 w w':=by
 have H:=h;unfold impl_yes.f at H;clear h;replace H:=qc H;obtain⟨rfl,H⟩|⟨rfl,H⟩:=H
 ·obtain rfl:=sj H
  go_enter Tryz.func103,Tryz.ntmps103
  go_wp2;go_ret;exact⟨sd,dr⟩
 ·obtain rfl:=sj H
  go_enter Tryz.func103,Tryz.ntmps103
  go_wp2;go_ret;exact⟨sd,dr⟩

mutual
def impl_productsOk.l0:Nat→List Int→Bool→Int→Option (Bool)
 |0,_,_,_=>none
 |k+1,a0,b0,c0=>if c0≤24 then(impl_productsOk.l1 k a0 b0 c0 1)else(if 0<(a0.length:Int)then(some ((rd a0 0)==1))else(none))
def impl_productsOk.l1:Nat→List Int→Bool→Int→Int→Option (Bool)
 |0,_,_,_,_=>none
 |k+1,a0,b0,c0,d0=>if(wrap64 (c0*d0))≤24 then(if b0=true then(if 0≤(wrap64 ((wrap64 (c0*d0))-1))then(if(wrap64 ((wrap64 (c0*d0))-1))<(a0.length:Int)then(if 0≤(wrap64 (c0-1))then(if(wrap64 (c0-1))<(a0.length:Int)then(if 0≤(wrap64 (d0-1))then(if(wrap64 (d0-1))<(a0.length:Int)then(if(rd a0 (wrap64 ((wrap64 (c0*d0))-1)))=(wrap64 ((rd a0 (wrap64 (c0-1)))*(rd a0 (wrap64 (d0-1)))))then(impl_productsOk.l1 k a0 b0 c0 (wrap64 (d0+1)))else(some false))else(none))else(none))else(none))else(none))else(none))else(none))else((impl_gcd.f k c0 d0).bind fun e0=>(if e0=1 then(if 0≤(wrap64 ((wrap64 (c0*d0))-1))then(if(wrap64 ((wrap64 (c0*d0))-1))<(a0.length:Int)then(if 0≤(wrap64 (c0-1))then(if(wrap64 (c0-1))<(a0.length:Int)then(if 0≤(wrap64 (d0-1))then(if(wrap64 (d0-1))<(a0.length:Int)then(if(rd a0 (wrap64 ((wrap64 (c0*d0))-1)))=(wrap64 ((rd a0 (wrap64 (c0-1)))*(rd a0 (wrap64 (d0-1)))))then(impl_productsOk.l1 k a0 b0 c0 (wrap64 (d0+1)))else(some false))else(none))else(none))else(none))else(none))else(none))else(none))else(impl_productsOk.l1 k a0 b0 c0 (wrap64 (d0+1))))))else(impl_productsOk.l0 k a0 b0 (wrap64 (c0+1)))
end

def impl_productsOk.f (k:Nat) (a0:List Int) (b0:Bool):Option (Bool):=impl_productsOk.l0 k a0 b0 1
set_option maxHeartbeats 8000000 in
set_option maxRecDepth 100000 in
theorem impl_productsOk.calls (k:Nat) (a0:Option Addr) (b0:Nat) (c0:List Int) (d0:Bool) (r:Bool) (w:World) (e0:Kd.C (Kd.int .i64) w a0 c0.length c0) (g0:c0.length≤b0) (h:impl_productsOk.f k c0 d0=some r):
  Calls Tryz.prog 143 #[.slice a0 c0.length b0,.bool d0] w fun e w'=>e= .returned (.bool r)∧Drawn0 w w':=by
 have j0:=qa e0;have n0:=qa g0;clear e0 g0;have H:=h;unfold impl_productsOk.f at H;clear h;have H':=qa H;clear H
 go_enter Tryz.func143,Tryz.ntmps143
 go_wp2
 repeat(go_quiet(fail);try go_wp2)
 go_loopg [5] k (fun kq p0 w'=>∃(q0:Int),p0= .int .i64 q0∧Aside0 (impl_productsOk.l0 kq c0 d0 q0=some r)∧Aside0 (kq≤k)∧Drawn0 w w')
 case atStart=>exact⟨(1),(sd),H',⟨Nat.le_refl _⟩,dr⟩
 case round=>
  clear H';obtain⟨q0,rfl,HA,HK1,⟨m1,rfl⟩⟩:=hrel;obtain⟨k1,rfl,H⟩:=kz gk HA;clear HA;simp only[impl_productsOk.l0]at H;replace H:=qe H;obtain⟨r0,H⟩|⟨r0,H⟩:=H
  ·have H':=qa H;clear H;go_wp2
   repeat(go_quiet(fail);try go_wp2)
   go_loopg [6] k1 (fun kq s0 w'=>∃(t0:Int),s0= .int .i64 t0∧Aside0 (impl_productsOk.l1 kq c0 d0 q0 t0=some r)∧Aside0 (kq≤k1)∧Drawn0 w w')
   case atStart=>exact⟨(1),(sd),H',⟨Nat.le_refl _⟩,dr⟩
   case round=>
    clear H';obtain⟨t0,rfl,HA,HK2,⟨m2,rfl⟩⟩:=hrel;obtain⟨k2,rfl,H⟩:=kz gk HA;clear HA;simp only[impl_productsOk.l1]at H;replace H:=qe H;obtain⟨v0,H⟩|⟨v0,H⟩:=H
    ·replace H:=qc H;obtain⟨rfl,H⟩|⟨rfl,H⟩:=H
     ·obtain⟨w0,x0⟩:∃j_:Int,(wrap64 ((wrap64 (q0*t0))-1))=j_:=⟨_,rfl⟩;(first|rw[x0]at H|(try simp only[x0]at H));have y0:(IntKind.i64.wrap ((wrap64 (q0*t0))-1))=w0:=(i64_w _).trans x0;have A0:(IntKind.i64.wrap ((IntKind.i64.wrap (q0*t0))-1))=w0:=(congrArg (fun z_=>IntKind.i64.wrap (z_-1)) (i64_w _)).trans y0;replace H:=qd H;obtain⟨B0,H⟩:=H;replace H:=qd H;obtain⟨C0,H⟩:=H;obtain⟨D0,E0⟩:∃j_:Int,(wrap64 (q0-1))=j_:=⟨_,rfl⟩;(first|rw[E0]at H|(try simp only[E0]at H));have G0:(IntKind.i64.wrap (q0-1))=D0:=(i64_w _).trans E0;replace H:=qd H;obtain⟨J0,H⟩:=H;replace H:=qd H;obtain⟨K0,H⟩:=H;obtain⟨L0,M0⟩:∃j_:Int,(wrap64 (t0-1))=j_:=⟨_,rfl⟩;(first|rw[M0]at H|(try simp only[M0]at H));have N0:(IntKind.i64.wrap (t0-1))=L0:=(i64_w _).trans M0;replace H:=qd H;obtain⟨P0,H⟩:=H;replace H:=qd H;obtain⟨Q0,H⟩:=H;replace H:=qq H;obtain⟨R0,U0,H⟩|⟨V0,R0,U0,H⟩:=H
      ·(try(have c15b0v:=R0;have c15b1v:=U0;simp only[←i64_w]at c15b0v c15b1v));have H':=qa H;clear H;obtain⟨W0,⟨⟩,X0,Y0,a1⟩:=ai j0.out (w0);obtain⟨b1,c1,d1⟩:=aj j0.out (D0);obtain⟨e1,g1,j1⟩:=aj j0.out (L0);go_wp2
       repeat(go_quiet(fail);try go_wp2)
       go_roundg k2
       case measure=>have:=HK1.out;have:=HK2.out;omega
       case rel=>exact⟨(wrap64 (t0+1)),(sd),H',⟨by have:=HK1.out;have:=HK2.out;omega⟩,dr⟩
      ·(try(have c15b0v:=R0;have c15b1v:=U0;simp only[←i64_w]at c15b0v c15b1v));obtain rfl:=sj H;obtain⟨W0,⟨⟩,X0,Y0,a1⟩:=ai j0.out (w0);obtain⟨b1,c1,d1⟩:=aj j0.out (D0);obtain⟨e1,g1,j1⟩:=aj j0.out (L0);go_wp2
       repeat(go_quiet(fail);try go_wp2)
       go_ret;exact⟨by first|rfl|(simp;done)|(simp only[←x0,←E0,←M0] <;> (first|rfl|simp))|(simp[*];done),dr⟩
     ·replace H:=qb H;obtain⟨n1,p1,H⟩:=H;replace H:=qq H;obtain⟨q1,r1,H⟩|⟨s1,q1,r1,H⟩:=H
      ·(try(have c17b0v:=q1;have c17b1v:=r1;simp only[←i64_w]at c17b0v c17b1v));obtain⟨t1,v1⟩:∃j_:Int,(wrap64 ((wrap64 (q0*t0))-1))=j_:=⟨_,rfl⟩;(first|rw[v1]at H|(try simp only[v1]at H));(try rw[v1]at p1);have w1:(IntKind.i64.wrap ((wrap64 (q0*t0))-1))=t1:=(i64_w _).trans v1;have x1:(IntKind.i64.wrap ((IntKind.i64.wrap (q0*t0))-1))=t1:=(congrArg (fun z_=>IntKind.i64.wrap (z_-1)) (i64_w _)).trans w1;replace H:=qd H;obtain⟨y1,H⟩:=H;replace H:=qd H;obtain⟨A1,H⟩:=H;obtain⟨B1,C1⟩:∃j_:Int,(wrap64 (q0-1))=j_:=⟨_,rfl⟩;(first|rw[C1]at H|(try simp only[C1]at H));(try rw[C1]at p1);have D1:(IntKind.i64.wrap (q0-1))=B1:=(i64_w _).trans C1;replace H:=qd H;obtain⟨E1,H⟩:=H;replace H:=qd H;obtain⟨G1,H⟩:=H;obtain⟨J1,K1⟩:∃j_:Int,(wrap64 (t0-1))=j_:=⟨_,rfl⟩;(first|rw[K1]at H|(try simp only[K1]at H));(try rw[K1]at p1);have L1:(IntKind.i64.wrap (t0-1))=J1:=(i64_w _).trans K1;replace H:=qd H;obtain⟨M1,H⟩:=H;replace H:=qd H;obtain⟨N1,H⟩:=H;replace H:=qq H;obtain⟨P1,Q1,H⟩|⟨R1,P1,Q1,H⟩:=H
       ·(try(have c27b0v:=P1;have c27b1v:=Q1;simp only[←i64_w]at c27b0v c27b1v));have H':=qa H;clear H
        go_wp2_with(first|(go_at_call 163;(with_reducible refine gm (impl_gcd.calls k2 q0 t0 n1 _ p1.out) fun nd=>?_);(try exact dn);obtain⟨U1,⟨⟩,V1,W1,X1⟩:=ai j0.out (t1);obtain⟨Y1,a2,b2⟩:=aj j0.out (B1);obtain⟨c2,d2,e2⟩:=aj j0.out (J1)))
        repeat(go_quiet(first|(go_at_call 163;(with_reducible refine gm (impl_gcd.calls k2 q0 t0 n1 _ p1.out) fun nd=>?_);(try exact dn);obtain⟨U1,⟨⟩,V1,W1,X1⟩:=ai j0.out (t1);obtain⟨Y1,a2,b2⟩:=aj j0.out (B1);obtain⟨c2,d2,e2⟩:=aj j0.out (J1)));try go_wp2_with(first|(go_at_call 163;(with_reducible refine gm (impl_gcd.calls k2 q0 t0 n1 _ p1.out) fun nd=>?_);(try exact dn);obtain⟨U1,⟨⟩,V1,W1,X1⟩:=ai j0.out (t1);obtain⟨Y1,a2,b2⟩:=aj j0.out (B1);obtain⟨c2,d2,e2⟩:=aj j0.out (J1))))
        go_roundg k2
        case measure=>have:=HK1.out;have:=HK2.out;omega
        case rel=>exact⟨(wrap64 (t0+1)),(sd),H',⟨by have:=HK1.out;have:=HK2.out;omega⟩,dr⟩
       ·(try(have c27b0v:=P1;have c27b1v:=Q1;simp only[←i64_w]at c27b0v c27b1v));obtain rfl:=sj H
        go_wp2_with(first|(go_at_call 163;(with_reducible refine gm (impl_gcd.calls k2 q0 t0 n1 _ p1.out) fun nd=>?_);(try exact dn);obtain⟨U1,⟨⟩,V1,W1,X1⟩:=ai j0.out (t1);obtain⟨Y1,a2,b2⟩:=aj j0.out (B1);obtain⟨c2,d2,e2⟩:=aj j0.out (J1)))
        repeat(go_quiet(first|(go_at_call 163;(with_reducible refine gm (impl_gcd.calls k2 q0 t0 n1 _ p1.out) fun nd=>?_);(try exact dn);obtain⟨U1,⟨⟩,V1,W1,X1⟩:=ai j0.out (t1);obtain⟨Y1,a2,b2⟩:=aj j0.out (B1);obtain⟨c2,d2,e2⟩:=aj j0.out (J1)));try go_wp2_with(first|(go_at_call 163;(with_reducible refine gm (impl_gcd.calls k2 q0 t0 n1 _ p1.out) fun nd=>?_);(try exact dn);obtain⟨U1,⟨⟩,V1,W1,X1⟩:=ai j0.out (t1);obtain⟨Y1,a2,b2⟩:=aj j0.out (B1);obtain⟨c2,d2,e2⟩:=aj j0.out (J1))))
        go_ret;exact⟨by first|rfl|(simp;done)|(simp only[←v1,←C1,←K1] <;> (first|rfl|simp))|(simp[*];done),dr⟩
      ·(try(have c17b0v:=q1;have c17b1v:=r1;simp only[←i64_w]at c17b0v c17b1v));have H':=qa H;clear H
       go_wp2_with(first|(go_at_call 163;(with_reducible refine gm (impl_gcd.calls k2 q0 t0 n1 _ p1.out) fun nd=>?_);(try exact dn)))
       repeat(go_quiet(first|(go_at_call 163;(with_reducible refine gm (impl_gcd.calls k2 q0 t0 n1 _ p1.out) fun nd=>?_);(try exact dn)));try go_wp2_with(first|(go_at_call 163;(with_reducible refine gm (impl_gcd.calls k2 q0 t0 n1 _ p1.out) fun nd=>?_);(try exact dn))))
       go_roundg k2
       case measure=>have:=HK1.out;have:=HK2.out;omega
       case rel=>exact⟨(wrap64 (t0+1)),(sd),H',⟨by have:=HK1.out;have:=HK2.out;omega⟩,dr⟩
    ·have H':=qa H;clear H;go_wp2
     repeat(go_quiet(fail);try go_wp2)
     go_roundg k2
     case measure=>have:=HK1.out;have:=HK2.out;omega
     case rel=>exact⟨(wrap64 (q0+1)),(sd),H',⟨by have:=HK1.out;have:=HK2.out;omega⟩,dr⟩
  ·by_cases g2:0<(c0.length:Int)
   ·rw[if_pos g2]at H;have j2:decide (0<(c0.length:Int))=true:=decide_eq_true g2;have l2:decide (0<c0.length)=true:=decide_eq_true (by omega);clear g2;obtain rfl:=sj H;obtain⟨n2,⟨⟩,p2,qi718,q2,r2⟩:=ain 0 j0.out 0;(try rw[Addr.add_zero']at p2);go_wp2
    repeat(go_quiet(fail);try go_wp2)
    go_ret;exact⟨sd,dr⟩
   ·rw[if_neg g2]at H;exact absurd H (by simp)

def impl_MultiplicativeOk.f (k:Nat) (a0:List Int):Option (Bool):=(impl_RowOk.f k a0).bind fun b0=>(if b0=true then((impl_productsOk.f k a0 false).bind fun c0=>(some c0))else(some false))
set_option maxHeartbeats 8000000 in
set_option maxRecDepth 100000 in
theorem impl_MultiplicativeOk.calls (k:Nat) (a0:Option Addr) (b0:Nat) (c0:List Int) (r:Bool) (w:World) (d0:Kd.C (Kd.int .i64) w a0 c0.length c0) (e0:c0.length≤b0) (h:impl_MultiplicativeOk.f k c0=some r):
  Calls Tryz.prog 104 #[.slice a0 c0.length b0] w fun e w'=>e= .returned (.bool r)∧Drawn0 w w':=by
 have g0:=qa d0;have j0:=qa e0;clear d0 e0;have H:=h;unfold impl_MultiplicativeOk.f at H;clear h;replace H:=qb H;obtain⟨l0,n0,H⟩:=H;replace H:=qc H;obtain⟨rfl,H⟩|⟨rfl,H⟩:=H
 ·replace H:=qb H;obtain⟨p0,q0,H⟩:=H;obtain rfl:=sj H
  go_enter Tryz.func104,Tryz.ntmps104
  go_wp2_with(first|(refine gd 4 Tryz.func78 (impl_RowOk.calls k _ _ c0 true _ (cx g0.out) j0.out n0.out) fun nd=>?_)|(go_at_call 143;(with_reducible refine(impl_productsOk.calls k _ _ c0 false p0 _ ?r0 ?s0 q0.out).mono ?_);(case r0=>exact cx g0.out);(case s0=>exact j0.out);rintro e w' ⟨rfl,⟨nd,rfl⟩⟩))
  go_ret;exact⟨sd,dr⟩
 ·obtain rfl:=sj H
  go_enter Tryz.func104,Tryz.ntmps104
  go_wp2_with(first|(refine gd 4 Tryz.func78 (impl_RowOk.calls k _ _ c0 false _ (cx g0.out) j0.out n0.out) fun nd=>?_))
  go_ret;exact⟨sd,dr⟩

def impl_FullyOk.f (k:Nat) (a0:List Int):Option (Bool):=(impl_RowOk.f k a0).bind fun b0=>(if b0=true then((impl_productsOk.f k a0 true).bind fun c0=>(some c0))else(some false))
set_option maxHeartbeats 8000000 in
set_option maxRecDepth 100000 in
theorem impl_FullyOk.calls (k:Nat) (a0:Option Addr) (b0:Nat) (c0:List Int) (r:Bool) (w:World) (d0:Kd.C (Kd.int .i64) w a0 c0.length c0) (e0:c0.length≤b0) (h:impl_FullyOk.f k c0=some r):
  Calls Tryz.prog 105 #[.slice a0 c0.length b0] w fun e w'=>e= .returned (.bool r)∧Drawn0 w w':=by
 have g0:=qa d0;have j0:=qa e0;clear d0 e0;have H:=h;unfold impl_FullyOk.f at H;clear h;replace H:=qb H;obtain⟨l0,n0,H⟩:=H;replace H:=qc H;obtain⟨rfl,H⟩|⟨rfl,H⟩:=H
 ·replace H:=qb H;obtain⟨p0,q0,H⟩:=H;obtain rfl:=sj H
  go_enter Tryz.func105,Tryz.ntmps105
  go_wp2_with(first|(refine gd 4 Tryz.func78 (impl_RowOk.calls k _ _ c0 true _ (cx g0.out) j0.out n0.out) fun nd=>?_)|(go_at_call 143;(with_reducible refine(impl_productsOk.calls k _ _ c0 true p0 _ ?r0 ?s0 q0.out).mono ?_);(case r0=>exact cx g0.out);(case s0=>exact j0.out);rintro e w' ⟨rfl,⟨nd,rfl⟩⟩))
  go_ret;exact⟨sd,dr⟩
 ·obtain rfl:=sj H
  go_enter Tryz.func105,Tryz.ntmps105
  go_wp2_with(first|(refine gd 4 Tryz.func78 (impl_RowOk.calls k _ _ c0 false _ (cx g0.out) j0.out n0.out) fun nd=>?_))
  go_ret;exact⟨sd,dr⟩

def slices_Contains_string_string.f (k:Nat) (a0:List ByteArray) (b0:ByteArray):Option (Bool):=(slices_Index_string_string.f k a0 b0).bind fun c0=>(some (decide (c0≥0)))
set_option maxHeartbeats 8000000 in
set_option maxRecDepth 100000 in
theorem slices_Contains_string_string.calls (k:Nat) (a0:Option Addr) (b0:Nat) (c0:List ByteArray) (d0:ByteArray) (r:Bool) (w:World) (e0:Kd.C Kd.string w a0 c0.length c0) (g0:c0.length≤b0) (h:slices_Contains_string_string.f k c0 d0=some r):
  Calls Tryz.prog 106 #[.slice a0 c0.length b0,.string d0] w fun e w'=>e= .returned (.bool r)∧Drawn0 w w':=by
 have j0:=qa e0;have l0:=qa g0;clear e0 g0;have H:=h;unfold slices_Contains_string_string.f at H;clear h;replace H:=qb H;obtain⟨n0,p0,H⟩:=H;obtain rfl:=sj H
 go_enter Tryz.func106,Tryz.ntmps106
 go_wp2_with(first|(refine gd 7 Tryz.func93 (slices_Index_string_string.calls k _ _ c0 d0 n0 _ (cx j0.out) l0.out p0.out) fun nd=>?_))
 go_ret;exact⟨sd,dr⟩

def impl_numberOk.f (a0:Int):Option (Bool):=if a0≥1 then(some (decide (a0≤10000)))else(some false)
set_option maxHeartbeats 8000000 in
set_option maxRecDepth 100000 in
theorem impl_numberOk.calls (a0:Int) (r:Bool) (w:World) (h:impl_numberOk.f a0=some r):
  Calls Tryz.prog 107 #[.int .i64 a0] w fun e w'=>e= .returned (.bool r)∧Drawn0 w w':=by
 have H:=h;unfold impl_numberOk.f at H;clear h;replace H:=qu H;obtain⟨b0,H⟩|⟨b0,H⟩:=H
 ·obtain rfl:=sj H
  go_enter Tryz.func107,Tryz.ntmps107
  go_wp2;go_ret;exact⟨sd,dr⟩
 ·obtain rfl:=sj H
  go_enter Tryz.func107,Tryz.ntmps107
  go_wp2;go_ret;exact⟨sd,dr⟩
def impl_FactorText.l0:Nat→List ByteArray→List (List Int)→Int→Int→Option (ByteArray)
 |0,_,_,_,_=>none
 |k+1,a0,b0,c0,d0=>if d0<c0 then(if 0≤d0 then(if d0<(b0.length:Int)then(if 0<((rd_L1 b0 d0).length :Int)then((strconv_Itoa.f (rd (rd_L1 b0 d0) 0)).bind fun e0=>(if 1<((rd_L1 b0 d0).length :Int)then(if(rd (rd_L1 b0 d0) 1)>1 then((strconv_Itoa.f (rd (rd_L1 b0 d0) 1)).bind fun g0=>(if 1+g0.size≤9223372036854775807 then(if e0.size+((⟨#[94]⟩:ByteArray)++g0).size ≤9223372036854775807 then(if a0.length<8796093022208 then(impl_FactorText.l0 k (a0++[e0++((⟨#[94]⟩:ByteArray)++g0)]) b0 c0 (wrap64 (d0+1)))else(none))else(none))else(none)))else(if a0.length<8796093022208 then(impl_FactorText.l0 k (a0++[e0]) b0 c0 (wrap64 (d0+1)))else(none)))else(none)))else(none))else(none))else(none))else((strings_Join.f a0 (⟨#[46]⟩:ByteArray)).bind fun j0=>(some j0))
def impl_FactorText.f (k:Nat) (a0:Int):Option (ByteArray):=(impl_numberOk.f a0).bind fun b0=>(if b0=true then(if a0=1 then(some (⟨#[49]⟩:ByteArray))else((impl_factors.f k a0).bind fun c0=>(impl_FactorText.l0 k (([]:List ByteArray)) c0 (c0.length:Int) 0)))else(some (⟨#[]⟩:ByteArray)))
set_option maxHeartbeats 8000000 in
set_option maxRecDepth 100000 in
theorem impl_FactorText.calls (k:Nat) (a0:Int) (r:ByteArray) (w:World) (h:impl_FactorText.f k a0=some r) (hG_:GL w):
  Calls Tryz.prog 108 #[.int .i64 a0] w fun e w'=>e= .returned (.string r)∧Below w.heap.size w w':=by
 have HB:=qa (Below.refl w.heap.size w);have H:=h;unfold impl_FactorText.f at H;clear h;replace H:=qb H;obtain⟨b0,c0,H⟩:=H;replace H:=qc H;obtain⟨rfl,H⟩|⟨rfl,H⟩:=H
 ·replace H:=qq H;obtain⟨d0,e0,H⟩|⟨g0,d0,e0,H⟩:=H
  ·obtain rfl:=sj H
   go_enter Tryz.func108,Tryz.ntmps108
   go_wp2_with(first|(refine gd 8 Tryz.func107 (impl_numberOk.calls a0 true _ c0.out) fun nd=>?_))
   go_ret;exact⟨er,bl⟩
  ·obtain⟨j0,n0⟩:∃y_:List ByteArray,y_=(([]:List ByteArray)):=⟨_,rfl⟩;(replace H:((impl_factors.f k a0).bind fun p0=>(impl_FactorText.l0 k j0 p0 (p0.length:Int) 0))=some r:=by first|(rw[n0];with_reducible exact H)|(have H2_:=(Option.bind_some _ _).symm.trans H;rw[n0];with_reducible exact H2_)|(have H2_:=(Option.bind_some _ _).symm.trans H;with_reducible exact H2_)|with_reducible exact H|(rw[n0];exact H)|exact H);have q0:=qa n0;clear n0;replace H:=qb H;obtain⟨p0,r0,H⟩:=H;have H':=qa H;clear H
   go_enter Tryz.func108,Tryz.ntmps108
   go_wp2_with(first|(refine gd 8 Tryz.func107 (impl_numberOk.calls a0 true _ c0.out) fun nd=>?_)|((with_reducible refine gate_dst (N:=12) rfl ?_);refine Kd.R_lit Kd.string _ 9 ?hg (N:=12) ?hd (xs:=([]:List ByteArray)) (inner:=[]) (ok:=fun _=>True) (okp:=fun _=>True) ?hr ?hp (fun _ hk=>hk) trivial (Below.refl _ _) (Nat.le_refl _) (by simp) ?_;(case hd=>rfl);(case hg=>rfl);(case hr=>exact gr);(case hp=>exact(Reps.none _ _));intro s0 t0 v0 hb hg_ hnew_;clear hg_ hnew_;(first|rw[←q0.out]at v0|(simp only[Int.reduceToNat]at v0;rw[←q0.out]at v0));have w0:=qa (Kd.R_lower v0 (below_size (bl)));replace HB:=bs hb;clear hb v0)|(refine ge_ 14 Tryz.func138 (impl_factors.calls k a0 p0 _ r0.out) fun x0 y0 A0 hb=>?_;replace w0:=qa (Kd.R_below (kR w0) hb);have B0:=qa (Kd.S_lower A0 (below_size (bl)));replace HB:=bs hb;obtain⟨C0,D0,rfl⟩:=Kd.S_slice B0.out))
   go_loopg [3,16] k (fun kq E0 G0 w'=>∃(J0:List ByteArray) (K0:Int),G0= .int .i64 K0∧Aside0 (impl_FactorText.l0 kq J0 p0 (p0.length:Int) K0=some r)∧Aside0 (kq≤k)∧Aside0 (Kd.R Kd.string 9 w' w.heap.size (fun _=>True) E0 J0)∧Aside0 (Kd.S (Kd.slice 3 (Kd.int .i64)) 22 w' w.heap.size (fun _=>True) (.slice C0 p0.length D0) p0)∧Aside0 (Below w.heap.size w w'))
   case atStart=>exact⟨(j0),(0),(sd),H',⟨Nat.le_refl _⟩,⟨kR w0⟩,⟨kS B0⟩,⟨bl⟩⟩
   case round=>
    clear H';obtain⟨J0,K0,rfl,HA,HK1,L0,M0,HB⟩:=hrel;obtain⟨k1,rfl,H⟩:=kz gk HA;clear HA;simp only[impl_FactorText.l0]at H;replace H:=qe H;obtain⟨N0,H⟩|⟨N0,H⟩:=H
    ·replace H:=qd H;obtain⟨P0,H⟩:=H;replace H:=qd H;obtain⟨Q0,H⟩:=H;replace H:=qL 0 H;obtain⟨R0,U0,H⟩:=H;replace H:=qb H;obtain⟨V0,W0,H⟩:=H;replace H:=qL 1 H;obtain⟨X0,Y0,H⟩:=H;replace H:=qg H;obtain⟨a1,H⟩|⟨a1,H⟩:=H
     ·replace H:=qb H;obtain⟨b1,c1,H⟩:=H;replace H:=qN H;obtain⟨d1,e1,g1,j1,H⟩:=H;replace H:=qN H;obtain⟨l1,n1,p1,q1,H⟩:=H
      try(have c19bq:=q1;simp only[ByteArray.size_append,show(⟨#[94]⟩:ByteArray).size =1 from rfl]at c19bq)
      replace H:=qn H;obtain⟨r1,H⟩:=H;have s1:=qa r1;clear r1;obtain⟨t1,hy_⟩:∃y_:List ByteArray,y_=(J0++[V0++((⟨#[94]⟩:ByteArray)++b1)]):=⟨_,rfl⟩;replace H:(impl_FactorText.l0 k1 t1 p0 (p0.length:Int) (wrap64 (K0+1)))=some r:=yh;have v1:=qa hy_;clear hy_;have H':=qa H;clear H;obtain⟨w1,x1,y1,⟨⟩,A1,HL739_0,B1,C1,D1,E1⟩:=sg_L1 M0.out K0;obtain⟨G1,⟨⟩,J1,qi740,K1,L1⟩:=ain 0 z2_ 0;(try rw[Addr.add_zero']at J1)
      go_wp2_with(first|(refine gb 23 Tryz.func77 (strconv_Itoa.calls (rd (rd_L1 p0 K0) 0) V0 _ W0.out (GL_below hG_ (bl))) fun M1 hb=>?_;replace L0:=qa (Kd.R_below (kR L0) hb);replace M0:=qa (Kd.S_below (kS M0) hb);replace HL739_0:=qa (Kd.R_below z22_ hb);replace B1:=qa (Kd.C_below z2_ hb);replace HB:=bs hb;have N1:0≤(1:Int):=(by omega);have P1:1<((rd_L1 p0 K0).length :Int):=qo;obtain⟨Q1,R1,U1⟩:=Kd.at_int z2_ 1 N1 P1;obtain rfl:G1=Q1:=(by injection R1);(try simp only[show(1:Int).toNat =1 from rfl,Nat.reduceMul,Nat.reduceEqDiff,Go.Addr.add,↓reduceIte]at U1);have qi742:(1<(rd_L1 p0 K0).length)=True:=eq_true (by omega);(try rw[show((1:Int)).toNat =1 from rfl]at U1);replace N1:=eq_true N1;replace P1:=eq_true P1;have V1:0≤(1:Int):=(by omega);have W1:1<((rd_L1 p0 K0).length :Int):=qo;obtain⟨X1,Y1,a2⟩:=Kd.at_int z2_ 1 V1 W1;obtain rfl:G1=X1:=(by injection Y1);(try simp only[show(1:Int).toNat =1 from rfl,Nat.reduceMul,Nat.reduceEqDiff,Go.Addr.add,↓reduceIte]at a2);have qi743:(1<(rd_L1 p0 K0).length)=True:=eq_true (by omega);(try rw[show((1:Int)).toNat =1 from rfl]at a2);replace V1:=eq_true V1;replace W1:=eq_true W1)|(refine gb 32 Tryz.func77 (strconv_Itoa.calls (rd (rd_L1 p0 K0) 1) b1 _ c1.out (GL_below hG_ (bl))) fun b2 hb=>?_;replace L0:=qa (Kd.R_below (kR L0) hb);replace M0:=qa (Kd.S_below (kS M0) hb);replace HL739_0:=qa (Kd.R_below z22_ hb);replace B1:=qa (Kd.C_below z2_ hb);replace HB:=bs hb)|((with_reducible refine gate_builtin (b:= .append) (xs:=#[.tmp 35,.tmp 37]) rfl ?_);at_builtin;refine Kd.R_append Kd.string (w0:=w) w.heap.size rfl (.tmp 35) (.tmp 37) 35 9 (.string ⟨#[]⟩) 16 rfl Tryz.underlying35 info9 rfl (by decide) (by omega) u3 J0 (V0++((⟨#[94]⟩:ByteArray)++b1)) [.string (V0++((⟨#[94]⟩:ByteArray)++b1))] (fun _=>True) (fun _=>False) rfl rfl ?aP (fun _ hk=>hk.elim) ?aF ?aO ?aB ?aS ?aL ?_;(case aP=>exact rfl);(case aB=>exact(bl));(case aF=>exact(fun _ _=>trivial));(case aO=>exact(kR L0));(case aS=>exact(below_size (bl)));(case aL=>have:=s1.out;omega);intro c2 d2 ho hb hg hat;rw[←v1.out]at ho;replace M0:=qa (Kd.S_over' (kS M0) (Kd.R_typed (kR L0)) (by decide) hg);replace HL739_0:=qa (Kd.R_over' z22_ (Kd.R_typed (kR L0)) (by decide) hg);replace HB:=qa (hb);have e2:=qa (ho);clear L0;clear ho hb hg hat))
      go_roundg k1
      case measure=>have:=HK1.out;omega
      case rel=>exact⟨(t1),(wrap64 (K0+1)),(sd),H',⟨by have:=HK1.out;omega⟩,⟨kR e2⟩,⟨kS M0⟩,⟨bl⟩⟩
     ·replace H:=qn H;obtain⟨g2,H⟩:=H;have j2:=qa g2;clear g2;obtain⟨l2,hy_⟩:∃y_:List ByteArray,y_=(J0++[V0]):=⟨_,rfl⟩;replace H:(impl_FactorText.l0 k1 l2 p0 (p0.length:Int) (wrap64 (K0+1)))=some r:=yh;have n2:=qa hy_;clear hy_;have H':=qa H;clear H;obtain⟨w1,x1,y1,⟨⟩,A1,HL739_0,B1,C1,D1,E1⟩:=sg_L1 M0.out K0;obtain⟨G1,⟨⟩,J1,qi740,K1,L1⟩:=ain 0 z2_ 0;(try rw[Addr.add_zero']at J1)
      go_wp2_with(first|(refine gb 23 Tryz.func77 (strconv_Itoa.calls (rd (rd_L1 p0 K0) 0) V0 _ W0.out (GL_below hG_ (bl))) fun p2 hb=>?_;replace L0:=qa (Kd.R_below (kR L0) hb);replace M0:=qa (Kd.S_below (kS M0) hb);replace HL739_0:=qa (Kd.R_below z22_ hb);replace B1:=qa (Kd.C_below z2_ hb);replace HB:=bs hb;have N1:0≤(1:Int):=(by omega);have P1:1<((rd_L1 p0 K0).length :Int):=qo;obtain⟨Q1,R1,U1⟩:=Kd.at_int z2_ 1 N1 P1;obtain rfl:G1=Q1:=(by injection R1);(try simp only[show(1:Int).toNat =1 from rfl,Nat.reduceMul,Nat.reduceEqDiff,Go.Addr.add,↓reduceIte]at U1);have qi742:(1<(rd_L1 p0 K0).length)=True:=eq_true (by omega);(try rw[show((1:Int)).toNat =1 from rfl]at U1);replace N1:=eq_true N1;replace P1:=eq_true P1)|((with_reducible refine gate_builtin (b:= .append) (xs:=#[.tmp 35,.tmp 37]) rfl ?_);at_builtin;refine Kd.R_append Kd.string (w0:=w) w.heap.size rfl (.tmp 35) (.tmp 37) 35 9 (.string ⟨#[]⟩) 16 rfl Tryz.underlying35 info9 rfl (by decide) (by omega) u3 J0 V0 [.string V0] (fun _=>True) (fun _=>False) rfl rfl ?aP (fun _ hk=>hk.elim) ?aF ?aO ?aB ?aS ?aL ?_;(case aP=>exact rfl);(case aB=>exact(bl));(case aF=>exact(fun _ _=>trivial));(case aO=>exact(kR L0));(case aS=>exact(below_size (bl)));(case aL=>have:=j2.out;omega);intro q2 r2 ho hb hg hat;rw[←n2.out]at ho;replace M0:=qa (Kd.S_over' (kS M0) (Kd.R_typed (kR L0)) (by decide) hg);replace HL739_0:=qa (Kd.R_over' z22_ (Kd.R_typed (kR L0)) (by decide) hg);replace HB:=qa (hb);have s2:=qa (ho);clear L0;clear ho hb hg hat))
      go_roundg k1
      case measure=>have:=HK1.out;omega
      case rel=>exact⟨(l2),(wrap64 (K0+1)),(sd),H',⟨by have:=HK1.out;omega⟩,⟨kR s2⟩,⟨kS M0⟩,⟨bl⟩⟩
    ·replace H:=qb H;obtain⟨t2,v2,H⟩:=H;obtain rfl:=sj H;obtain⟨w2,x2,rfl⟩:=Kd.R_slice L0.out
     go_wp2_with(first|(refine gb 41 Tryz.func142 (strings_Join.calls _ _ J0 (⟨#[46]⟩:ByteArray) t2 _ (cx (Kd.R_reads' L0.out).2.2) ((Kd.R_reads' L0.out).2.1) v2.out) fun y2 hb=>?_;replace L0:=qa (Kd.R_below (kR L0) hb);replace M0:=qa (Kd.S_below (kS M0) hb);replace HB:=bs hb))
     go_ret;exact⟨er,bl⟩
 ·obtain rfl:=sj H
  go_enter Tryz.func108,Tryz.ntmps108
  go_wp2_with(first|(refine gd 8 Tryz.func107 (impl_numberOk.calls a0 false _ c0.out) fun nd=>?_))
  go_ret;exact⟨er,bl⟩

def slices_Index_int_int.l0:Nat→List Int→Int→Int→Int→Option (Int)
 |0,_,_,_,_=>none
 |k+1,a0,b0,c0,d0=>if d0<c0 then(if 0≤d0 then(if d0<(a0.length:Int)then(if b0=(rd a0 d0)then(some d0)else(slices_Index_int_int.l0 k a0 b0 c0 (wrap64 (d0+1))))else(none))else(none))else(some (-1))
def slices_Index_int_int.f (k:Nat) (a0:List Int) (b0:Int):Option (Int):=slices_Index_int_int.l0 k a0 b0 (a0.length:Int) 0
set_option maxHeartbeats 8000000 in
set_option maxRecDepth 100000 in
theorem slices_Index_int_int.calls (k:Nat) (a0:Option Addr) (b0:Nat) (c0:List Int) (d0:Int) (r:Int) (w:World) (e0:Kd.C (Kd.int .i64) w a0 c0.length c0) (g0:c0.length≤b0) (h:slices_Index_int_int.f k c0 d0=some r):
  Calls Tryz.prog 168 #[.slice a0 c0.length b0,.int .i64 d0] w fun e w'=>e= .returned (.int .i64 r)∧Drawn0 w w':=by
 have j0:=qa e0;have n0:=qa g0;clear e0 g0;have H:=h;unfold slices_Index_int_int.f at H;clear h;have H':=qa H;clear H
 go_enter Tryz.func168,Tryz.ntmps168
 go_wp2
 go_loopg [8] k (fun kq p0 w'=>∃(q0:Int),p0= .int .i64 q0∧Aside0 (slices_Index_int_int.l0 kq c0 d0 (c0.length:Int) q0=some r)∧Aside0 (kq≤k)∧Drawn0 w w')
 case atStart=>exact⟨(0),(sd),H',⟨Nat.le_refl _⟩,dr⟩
 case round=>
  clear H';obtain⟨q0,rfl,HA,HK1,⟨m1,rfl⟩⟩:=hrel;obtain⟨k1,rfl,H⟩:=kz gk HA;clear HA;simp only[slices_Index_int_int.l0]at H;replace H:=qe H;obtain⟨r0,H⟩|⟨r0,H⟩:=H
  ·replace H:=qd H;obtain⟨s0,H⟩:=H;replace H:=qd H;obtain⟨t0,H⟩:=H;replace H:=qq H;obtain⟨v0,w0,H⟩|⟨x0,v0,w0,H⟩:=H
   ·obtain rfl:=sj H;obtain⟨y0,⟨⟩,A0,B0,C0⟩:=ai j0.out q0;go_wp2;go_ret;exact⟨sd,dr⟩
   ·have H':=qa H;clear H;obtain⟨y0,⟨⟩,A0,B0,C0⟩:=ai j0.out q0;go_wp2
    go_roundg k1
    case measure=>have:=HK1.out;omega
    case rel=>exact⟨(wrap64 (q0+1)),(sd),H',⟨by have:=HK1.out;omega⟩,dr⟩
  ·obtain rfl:=sj H;go_wp2;go_ret;exact⟨sd,dr⟩

def slices_Contains_int_int.f (k:Nat) (a0:List Int) (b0:Int):Option (Bool):=(slices_Index_int_int.f k a0 b0).bind fun c0=>(some (decide (c0≥0)))
set_option maxHeartbeats 8000000 in
set_option maxRecDepth 100000 in
theorem slices_Contains_int_int.calls (k:Nat) (a0:Option Addr) (b0:Nat) (c0:List Int) (d0:Int) (r:Bool) (w:World) (e0:Kd.C (Kd.int .i64) w a0 c0.length c0) (g0:c0.length≤b0) (h:slices_Contains_int_int.f k c0 d0=some r):
  Calls Tryz.prog 145 #[.slice a0 c0.length b0,.int .i64 d0] w fun e w'=>e= .returned (.bool r)∧Drawn0 w w':=by
 have j0:=qa e0;have l0:=qa g0;clear e0 g0;have H:=h;unfold slices_Contains_int_int.f at H;clear h;replace H:=qb H;obtain⟨n0,p0,H⟩:=H;obtain rfl:=sj H
 go_enter Tryz.func145,Tryz.ntmps145
 go_wp2_with(first|(refine gd 7 Tryz.func168 (slices_Index_int_int.calls k _ _ c0 d0 n0 _ (cx j0.out) l0.out p0.out) fun nd=>?_))
 go_ret;exact⟨sd,dr⟩

def impl_ProperSum.f (k:Nat) (a0:Int):Option (Int):=(impl_numberOk.f a0).bind fun b0=>(if b0=true then((impl_divisors.f k a0).bind fun c0=>((impl_sum.f k c0).bind fun d0=>(some (wrap64 (d0-a0)))))else(some (-1)))
set_option maxHeartbeats 8000000 in
set_option maxRecDepth 100000 in
theorem impl_ProperSum.calls (k:Nat) (a0:Int) (r:Int) (w:World) (h:impl_ProperSum.f k a0=some r):
  Calls Tryz.prog 146 #[.int .i64 a0] w fun e w'=>e= .returned (.int .i64 r)∧Below w.heap.size w w':=by
 have HB:=qa (Below.refl w.heap.size w);have H:=h;unfold impl_ProperSum.f at H;clear h;replace H:=qb H;obtain⟨b0,c0,H⟩:=H;replace H:=qc H;obtain⟨rfl,H⟩|⟨rfl,H⟩:=H
 ·replace H:=qb H;obtain⟨d0,e0,H⟩:=H;replace H:=qb H;obtain⟨g0,j0,H⟩:=H;obtain rfl:=sj H
  go_enter Tryz.func146,Tryz.ntmps146
  go_wp2_with(first|(refine gd 4 Tryz.func107 (impl_numberOk.calls a0 true _ c0.out) fun nd=>?_)|(refine ge_ 7 Tryz.func109 (impl_divisors.calls k a0 d0 _ e0.out) fun l0 n0 p0 hb=>?_;have q0:=qa (Kd.R_lower p0 (below_size (bl)));replace HB:=bs hb;obtain⟨r0,s0,rfl⟩:=Kd.R_slice q0.out)|(refine gd 8 Tryz.func136 (impl_sum.calls k _ _ d0 g0 _ (cx (Kd.R_reads' q0.out).2.2) ((Kd.R_reads' q0.out).2.1) j0.out) fun nd=>?_))
  go_ret;exact⟨er,bl⟩
 ·obtain rfl:=sj H
  go_enter Tryz.func146,Tryz.ntmps146
  go_wp2_with(first|(refine gd 4 Tryz.func107 (impl_numberOk.calls a0 false _ c0.out) fun nd=>?_))
  go_ret;exact⟨er,bl⟩

def impl_WayFrom.l0:Nat→Int→List Int→Option (List Int)
 |0,_,_=>none
 |k+1,a0,b0=>(impl_numberOk.f a0).bind fun c0=>(if c0=true then(if(b0.length:Int)<30 then((slices_Contains_int_int.f k b0 a0).bind fun d0=>(if d0=true then(some b0)else(if b0.length<17592186044416 then((impl_ProperSum.f k a0).bind fun e0=>(impl_WayFrom.l0 k e0 (b0++[a0])))else(none))))else(some b0))else(some b0))
def impl_WayFrom.f (k:Nat) (a0:Int):Option (List Int):=(impl_numberOk.f a0).bind fun b0=>(if b0=true then(impl_WayFrom.l0 k a0 (([]:List Int)))else(some ([]:List Int)))
set_option maxHeartbeats 8000000 in
set_option maxRecDepth 100000 in
theorem impl_WayFrom.calls (k:Nat) (a0:Int) (r:List Int) (w:World) (h:impl_WayFrom.f k a0=some r):
  Calls Tryz.prog 110 #[.int .i64 a0] w fun e w'=>∃v0_:Value,e= .returned (v0_)∧Kd.R (Kd.int .i64) 3 w' w.heap.size (fun _=>True) v0_ r∧Below w.heap.size w w':=by
 have HB:=qa (Below.refl w.heap.size w);have H:=h;unfold impl_WayFrom.f at H;clear h;replace H:=qb H;obtain⟨b0,c0,H⟩:=H;replace H:=qc H;obtain⟨rfl,H⟩|⟨rfl,H⟩:=H
 ·obtain⟨d0,hy_⟩:∃y_:List Int,y_=(([]:List Int)):=⟨_,rfl⟩;replace H:(impl_WayFrom.l0 k a0 d0)=some r:=yh;have e0:=qa hy_;clear hy_;have H':=qa H;clear H
  go_enter Tryz.func110,Tryz.ntmps110
  go_wp2_with(first|(refine gd 5 Tryz.func107 (impl_numberOk.calls a0 true _ c0.out) fun nd=>?_)|((with_reducible refine gate_dst (N:=7) rfl ?_);(try(refine gate_guard (by rfl) ?_;dsimp only));refine Kd.R_lit (Kd.int .i64) _ 3 ?hg (N:=7) ?hd (xs:=([]:List Int)) (inner:=[]) (ok:=fun _=>True) (okp:=fun _=>True) ?hr ?hp (fun _ hk=>hk) trivial (Below.refl _ _) (Nat.le_refl _) (by simp) ?_;(case hd=>rfl);(case hg=>rfl);(case hr=>exact gr);(case hp=>exact(Reps.none _ _));intro g0 j0 n0 hb hg_ hnew_;clear hg_ hnew_;(first|rw[←e0.out]at n0|(simp only[Int.reduceToNat]at n0;rw[←e0.out]at n0));have p0:=qa (Kd.R_lower n0 (below_size (bl)));replace HB:=bs hb;clear hb n0))
  go_loopg [0,3] k (fun kq q0 r0 w'=>∃(s0:Int) (t0:List Int),q0= .int .i64 s0∧Aside0 (impl_WayFrom.l0 kq s0 t0=some r)∧Aside0 (kq≤k)∧Aside0 (Kd.R (Kd.int .i64) 3 w' w.heap.size (fun _=>True) r0 t0)∧Aside0 (Below w.heap.size w w'))
  case atStart=>exact⟨(a0),(d0),(sd),H',⟨Nat.le_refl _⟩,⟨kR p0⟩,⟨bl⟩⟩
  case round=>
   clear H';obtain⟨s0,t0,rfl,HA,HK1,v0,HB⟩:=hrel;obtain⟨k1,rfl,H⟩:=kz gk HA;clear HA;simp only[impl_WayFrom.l0]at H;replace H:=qb H;obtain⟨w0,x0,H⟩:=H;replace H:=qc H;obtain⟨rfl,H⟩|⟨rfl,H⟩:=H
   ·by_cases y0:(t0.length:Int)<30
    ·rw[if_pos y0]at H;have A0:decide ((t0.length:Int)<30)=true:=decide_eq_true y0;have B0:decide (t0.length<30)=true:=decide_eq_true (by omega);clear y0;replace H:=qb H;obtain⟨C0,D0,H⟩:=H;replace H:=qc H;obtain⟨rfl,H⟩|⟨rfl,H⟩:=H
     ·obtain rfl:=sj H
      go_wp2_with(first|(refine gd 9 Tryz.func107 (impl_numberOk.calls s0 true _ x0.out) fun nd=>?_;obtain⟨E0,G0,rfl⟩:=Kd.R_slice v0.out)|(go_at_call 145;(with_reducible refine(slices_Contains_int_int.calls k1 _ _ t0 s0 true _ ?J0 ?K0 D0.out).mono ?_);(case J0=>exact cx (Kd.R_reads' v0.out).2.2);(case K0=>exact(Kd.R_reads' v0.out).2.1);rintro e w' ⟨rfl,⟨nd,rfl⟩⟩))
      go_ret;exact⟨_,er,kR v0,bl⟩
     ·replace H:=qn H;obtain⟨L0,H⟩:=H;have M0:=qa L0;clear L0;obtain⟨N0,hy_⟩:∃y_:List Int,y_=(t0++[s0]):=⟨_,rfl⟩;replace H:((impl_ProperSum.f k1 s0).bind fun P0=>(impl_WayFrom.l0 k1 P0 N0))=some r:=yh;have Q0:=qa hy_;clear hy_;replace H:=qb H;obtain⟨P0,R0,H⟩:=H;have H':=qa H;clear H
      go_wp2_with(first|(refine gd 9 Tryz.func107 (impl_numberOk.calls s0 true _ x0.out) fun nd=>?_;obtain⟨U0,V0,rfl⟩:=Kd.R_slice v0.out)|(go_at_call 145;(with_reducible refine(slices_Contains_int_int.calls k1 _ _ t0 s0 false _ ?J0 ?K0 D0.out).mono ?_);(case J0=>exact cx (Kd.R_reads' v0.out).2.2);(case K0=>exact(Kd.R_reads' v0.out).2.1);rintro e w' ⟨rfl,⟨nd,rfl⟩⟩)|((with_reducible refine gate_builtin (b:= .append) (xs:=#[.tmp 21,.tmp 23]) rfl ?_);(try(refine gate_guard (by rfl) ?_;dsimp only));at_builtin;refine Kd.R_append (Kd.int .i64) (w0:=w) w.heap.size rfl (.tmp 21) (.tmp 23) 22 3 (.int .i64 0) 8 rfl Tryz.underlying22 info3 rfl (by decide) (by omega) (.slice U0 t0.length V0) t0 s0 [.int .i64 s0] (fun _=>True) (fun _=>False) rfl rfl ?aP (fun _ hk=>hk.elim) ?aF ?aO ?aB ?aS ?aL ?_;(case aP=>exact rfl);(case aB=>exact(bl));(case aF=>exact(fun _ _=>trivial));(case aO=>exact(kR v0));(case aS=>exact(below_size (bl)));(case aL=>have:=M0.out;omega);intro W0 X0 ho hb hg hat;rw[←Q0.out]at ho;replace HB:=qa (hb);have Y0:=qa (ho);clear v0;clear ho hb hg hat)|(refine gb 26 Tryz.func146 (impl_ProperSum.calls k1 s0 P0 _ R0.out) fun a1 hb=>?_;replace Y0:=qa (Kd.R_below (kR Y0) hb);replace HB:=bs hb))
      go_roundg k1
      case measure=>have:=HK1.out;omega
      case rel=>exact⟨(P0),(N0),(sd),H',⟨by have:=HK1.out;omega⟩,⟨kR Y0⟩,⟨bl⟩⟩
    ·rw[if_neg y0]at H;have A0:decide ((t0.length:Int)<30)=false:=decide_eq_false y0;have B0:decide (t0.length<30)=false:=decide_eq_false (by omega);clear y0;obtain rfl:=sj H
     go_wp2_with(first|(refine gd 9 Tryz.func107 (impl_numberOk.calls s0 true _ x0.out) fun nd=>?_;obtain⟨b1,c1,rfl⟩:=Kd.R_slice v0.out))
     go_ret;exact⟨_,er,kR v0,bl⟩
   ·obtain rfl:=sj H
    go_wp2_with(first|(refine gd 9 Tryz.func107 (impl_numberOk.calls s0 false _ x0.out) fun nd=>?_))
    go_ret;exact⟨_,er,kR v0,bl⟩
 ·obtain rfl:=sj H
  go_enter Tryz.func110,Tryz.ntmps110
  go_wp2_with(first|(refine gd 5 Tryz.func107 (impl_numberOk.calls a0 false _ c0.out) fun nd=>?_))
  go_ret;exact⟨_,er,z1_,bl⟩

mutual
def impl_AllSum.l0:Nat→Int→List (List Int)→Int→Int→Option (Int)
 |0,_,_,_,_=>none
 |k+1,a0,b0,c0,d0=>if d0<c0 then(if 0≤d0 then(if d0<(b0.length:Int)then(if 1<((rd_L1 b0 d0).length :Int)then(impl_AllSum.l1 k a0 (rd_L1 b0 d0) 1 b0 c0 d0 (rd (rd_L1 b0 d0) 1) 0)else(none))else(none))else(none))else(some a0)
def impl_AllSum.l1:Nat→Int→List Int→Int→List (List Int)→Int→Int→Int→Int→Option (Int)
 |0,_,_,_,_,_,_,_,_=>none
 |k+1,a0,e0,g0,b0,c0,d0,j0,n0=>if n0<j0 then(if 0<(e0.length:Int)then(impl_AllSum.l1 k a0 e0 (wrap64 ((wrap64 (g0*(rd e0 0)))+1)) b0 c0 d0 j0 (wrap64 (n0+1)))else(none))else(impl_AllSum.l0 k (wrap64 (a0*g0)) b0 c0 (wrap64 (d0+1)))
end

def impl_AllSum.f (k:Nat) (a0:Int):Option (Int):=(impl_numberOk.f a0).bind fun b0=>(if b0=true then((impl_factors.f k a0).bind fun c0=>(impl_AllSum.l0 k 1 c0 (c0.length:Int) 0))else(some (-1)))
set_option maxHeartbeats 8000000 in
set_option maxRecDepth 100000 in
theorem impl_AllSum.calls (k:Nat) (a0:Int) (r:Int) (w:World) (h:impl_AllSum.f k a0=some r):
  Calls Tryz.prog 111 #[.int .i64 a0] w fun e w'=>e= .returned (.int .i64 r)∧Below w.heap.size w w':=by
 have HB:=qa (Below.refl w.heap.size w);have H:=h;unfold impl_AllSum.f at H;clear h;replace H:=qb H;obtain⟨b0,c0,H⟩:=H;replace H:=qc H;obtain⟨rfl,H⟩|⟨rfl,H⟩:=H
 ·replace H:=qb H;obtain⟨d0,e0,H⟩:=H;have H':=qa H;clear H
  go_enter Tryz.func111,Tryz.ntmps111
  go_wp2_with(first|(refine gd 8 Tryz.func107 (impl_numberOk.calls a0 true _ c0.out) fun nd=>?_)|(refine ge_ 11 Tryz.func138 (impl_factors.calls k a0 d0 _ e0.out) fun g0 j0 n0 hb=>?_;have p0:=qa (Kd.S_lower n0 (below_size (bl)));replace HB:=bs hb;obtain⟨q0,r0,rfl⟩:=Kd.S_slice p0.out))
  go_loopg [3,13] k (fun kq s0 t0 w'=>∃(v0:Int) (w0:Int),s0= .int .i64 v0∧t0= .int .i64 w0∧Aside0 (impl_AllSum.l0 kq v0 d0 (d0.length:Int) w0=some r)∧Aside0 (kq≤k)∧Aside0 (Kd.S (Kd.slice 3 (Kd.int .i64)) 22 w' w.heap.size (fun _=>True) (.slice q0 d0.length r0) d0)∧Aside0 (Below w.heap.size w w'))
  case atStart=>exact⟨(1),(0),(sd),(sd),H',⟨Nat.le_refl _⟩,⟨kS p0⟩,⟨bl⟩⟩
  case round=>
   clear H';obtain⟨v0,w0,rfl,rfl,HA,HK1,x0,HB⟩:=hrel;obtain⟨k1,rfl,H⟩:=kz gk HA;clear HA;simp only[impl_AllSum.l0]at H;replace H:=qe H;obtain⟨y0,H⟩|⟨y0,H⟩:=H
   ·replace H:=qd H;obtain⟨A0,H⟩:=H;replace H:=qd H;obtain⟨B0,H⟩:=H;replace H:=qL 1 H;obtain⟨C0,D0,H⟩:=H;have H':=qa H;clear H;obtain⟨E0,G0,J0,⟨⟩,K0,HL772_0,L0,M0,N0,P0⟩:=sg_L1 x0.out w0;have Q0:0≤(1:Int):=(by omega);have R0:1<((rd_L1 d0 w0).length :Int):=qo;obtain⟨U0,V0,W0⟩:=Kd.at_int z30_ 1 Q0 R0;cases V0;(try simp only[show(1:Int).toNat =1 from rfl,Nat.reduceMul,Nat.reduceEqDiff,Go.Addr.add,↓reduceIte]at W0);have qi773:(1<(rd_L1 d0 w0).length)=True:=eq_true (by omega);(try rw[show((1:Int)).toNat =1 from rfl]at W0);replace Q0:=eq_true Q0;replace R0:=eq_true R0;go_wp2
    go_loopg [6,20] k1 (fun kq X0 Y0 w'=>∃(a1:Int) (b1:Int),X0= .int .i64 a1∧Y0= .int .i64 b1∧Aside0 (impl_AllSum.l1 kq v0 (rd_L1 d0 w0) a1 d0 (d0.length:Int) w0 (rd (rd_L1 d0 w0) 1) b1=some r)∧Aside0 (kq≤k1)∧Aside0 (Kd.S (Kd.slice 3 (Kd.int .i64)) 22 w' w.heap.size (fun _=>True) (.slice (some E0) d0.length r0) d0)∧Aside0 (Kd.C (Kd.int .i64) w' (some U0) (rd_L1 d0 w0).length (rd_L1 d0 w0))∧Aside0 (Below w.heap.size w w'))
    case atStart=>exact⟨(1),(0),(sd),(sd),H',⟨Nat.le_refl _⟩,⟨kS x0⟩,⟨z30_⟩,⟨bl⟩⟩
    case round=>
     clear H';obtain⟨a1,b1,rfl,rfl,HA,HK2,x0,L0,HB⟩:=hrel;obtain⟨k2,rfl,H⟩:=kz gk HA;clear HA;simp only[impl_AllSum.l1]at H;replace H:=qe H;obtain⟨c1,H⟩|⟨c1,H⟩:=H
     ·replace H:=qL 0 H;obtain⟨d1,e1,H⟩:=H;have H':=qa H;clear H;obtain⟨g1,qi774,j1,n1⟩:=ajn 0 L0.out 0;(try rw[Addr.add_zero']at g1);(try replace g1:=(HB.out.cell (World.block_lt_of_cell? w _ g1)).trans g1);go_wp2
      go_roundg k2
      case measure=>have:=HK1.out;have:=HK2.out;omega
      case rel=>exact⟨(wrap64 ((wrap64 (a1*(rd (rd_L1 d0 w0) 0)))+1)),(wrap64 (b1+1)),(sd),(sd),H',⟨by have:=HK1.out;have:=HK2.out;omega⟩,⟨kS x0⟩,⟨z30_⟩,⟨bl⟩⟩
     ·have H':=qa H;clear H;go_wp2
      go_roundg k2
      case measure=>have:=HK1.out;have:=HK2.out;omega
      case rel=>exact⟨(wrap64 (v0*a1)),(wrap64 (w0+1)),(sd),(sd),H',⟨by have:=HK1.out;have:=HK2.out;omega⟩,⟨kS x0⟩,⟨bl⟩⟩
   ·obtain rfl:=sj H;go_wp2;go_ret;exact⟨er,bl⟩
 ·obtain rfl:=sj H
  go_enter Tryz.func111,Tryz.ntmps111
  go_wp2_with(first|(refine gd 8 Tryz.func107 (impl_numberOk.calls a0 false _ c0.out) fun nd=>?_))
  go_ret;exact⟨er,bl⟩
end Go.Proofs.YtdmlkjjlgkdnlaaGreatDoor.PFnExactDeskLine
