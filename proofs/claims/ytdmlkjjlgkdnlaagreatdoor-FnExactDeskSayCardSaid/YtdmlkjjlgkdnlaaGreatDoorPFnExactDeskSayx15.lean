import Derived.Test.YtdmlkjjlgkdnlaaGreatDoorPFnExactDeskSayx10
namespace Go.Proofs.YtdmlkjjlgkdnlaaGreatDoor.PFnExactDeskSay
open Go.RowKit Go.Proofs.YtdmlkjjlgkdnlaaGreatDoorW.PrintWords Go.Proofs.YtdmlkjjlgkdnlaaGreatDoorW.PrintLast Go.Proofs.YtdmlkjjlgkdnlaaGreatDoorW.PrintMore
attribute [local go_sem] max2_int min2_int max_two min_two max_three min_three max_four min_four
set_option linter.unusedVariables false
set_option linter.unusedSimpArgs false
set_option maxHeartbeats 8000000
set_option maxRecDepth 100000
/-- The last row of a row of rows, and what stands ahead of it: apart. -/
theorem S_pop2 {α:Type} {d:Kd α} {e e':Nat} {w:World} {base:Nat} {ok:Nat→Prop} {ad:Addr} {n cap m:Nat} {xs:List (List α)} (h:Kd.S (Kd.slice e' d) e w base ok (.slice (some ad) n cap) xs) (hn:xs.length=m+1) (a0:n=m+1):
  ∃v,w.cell? (ad.add m)=some v∧Kd.R d e' w base (fun k=>ok k) v (xs.getD m [])∧Kd.S (Kd.slice e' d) e w base (fun k=>ok k∧some k≠v.ownBlock) (.slice (some ad) m cap) (xs.take m):=by
 obtain⟨f,hf⟩:=h;(have hlen:xs.zipIdx.length=m+1:=by rw[List.length_zipIdx];exact hn);obtain⟨c,hcl,hM,hc⟩:=Kd.R_getA hf (([]:List α),m) (m:Int) ko_ ko_
 have hz:xs.zipIdx.getD ((m:Int)).toNat (([]:List α),m)=(xs.getD m [],m):=by
  (have b0:((m:Int)).toNat =m:=by omega);rw[b0,List.getD_eq_getElem?_getD,List.getElem?_zipIdx,List.getD_eq_getElem?_getD,List.getElem?_eq_getElem ko_]
  simp
 rw[hz]at hM;obtain⟨v,rfl,hv⟩:=hM
 have hcell:w.cell? (ad.add m)=some v:=by
  have:=hc 0 v rfl
  have b0:((m:Int)).toNat *(Kd.tag f (Kd.slice e' d)).sz +0=m:=by
   show((m:Int)).toNat *1+0=m
   omega
  rwa [b0]at this
 refine⟨v,hcell,Kd.R_mono hv (fun k hk=>hk.1.1),f,?_⟩;have ht:=Kd.R_take hf (m:=m) ko_
 have c0:(xs.take m).zipIdx =xs.zipIdx.take m:=by
  apply List.ext_getElem?
  intro j;rw[List.getElem?_zipIdx,List.getElem?_take,List.getElem?_take,List.getElem?_zipIdx]
  split <;> simp
 rw[c0];obtain⟨h0,inner,ho,hr⟩:=ht;(have hvb:∀k,v.ownBlock=some k→f k=m∧some k≠(Value.slice (some ad) m cap).ownBlock :=fun k hk=>⟨(hv.1 k hk).2,fun e=>(hv.1 k hk).1.2 (by rw[e];rfl)⟩);refine⟨fun k hk=>⟨h0 k hk,fun e=>(hvb k e.symm).2 hk.symm⟩,inner,ho,hr.1,fun j p hj=>?_⟩;have hq:=hr.2 j p hj
 have hp:p.2=j∧j<m:=by
  rw[List.getElem?_take]at hj
  split at hj
  ·rename_i hlt
   rw[List.getElem?_zipIdx]at hj;obtain⟨x,hx,rfl⟩:=Option.map_eq_some_iff.1 hj;exact⟨by simp,hlt⟩
  ·cases hj
 refine(Kd.tag f (Kd.slice e' d)).M_mono (fun k hk=>hk) ?_;exact(Kd.slice e' d).M_mono (fun k hk=>⟨⟨⟨hk.1.1,fun e=>by have:=(hvb k e.symm).1;have:=hk.2;omega⟩,hk.1.2⟩,hk.2⟩) hq
theorem w64_small2 (x:Int) (h0:0≤x) (h1:x<4096):wrap64 x=x:=by
 unfold wrap64
 omega

mutual
def impl_DeskDo.j0:Nat→Bool→List Int→List (List Int)→Int→Int→Int→List Int→List (List Int)→Option (List Int×(List (List Int))×Bool)
 |0,_,_,_,_,_,_,_,_=>none
 |k+1,a0,b0,c0,d0,e0,g0,l0,n0=>if a0=true then(some (l0,n0,false))else(if d0=0 then((impl_NamedRow.f k e0).bind fun p0=>((impl_TimesOf.f k b0 p0).bind fun q0=>(impl_DeskDo.j1 k q0.1 q0.2 b0 c0 l0 n0)))else(if d0=1 then((impl_NamedRow.f k e0).bind fun r0=>((impl_UnitaryTimes.f k b0 r0).bind fun s0=>(impl_DeskDo.j1 k s0.1 s0.2 b0 c0 l0 n0)))else(if d0=2 then((impl_InverseOf.f k b0).bind fun t0=>(impl_DeskDo.j1 k t0.1 t0.2 b0 c0 l0 n0))else(if d0=3 then(if e0≥1 then(if e0≤24 then(if g0≥0 then(if g0≤9999 then((slices_Clone_int_int.f k b0).bind fun v0=>(if 0≤(wrap64 (e0-1))then(if(wrap64 (e0-1))<(v0.length:Int)then(impl_DeskDo.j1 k (v0.set ((wrap64 (e0-1)):Int).toNat g0) true b0 c0 l0 n0)else(none))else(none)))else(impl_DeskDo.j1 k ([]:List Int) false b0 c0 l0 n0))else(impl_DeskDo.j1 k ([]:List Int) false b0 c0 l0 n0))else(impl_DeskDo.j1 k ([]:List Int) false b0 c0 l0 n0))else(impl_DeskDo.j1 k ([]:List Int) false b0 c0 l0 n0))else(if d0=4 then(if n0.length=0 then(some (l0,n0,false))else(if n0.length<4096 then(some (n0.getD (n0.length-1) [],n0.take (n0.length-1),true))else(none)))else(impl_DeskDo.j1 k ([]:List Int) false b0 c0 l0 n0))))))
def impl_DeskDo.j1:Nat→List Int→Bool→List Int→List (List Int)→List Int→List (List Int)→Option (List Int×(List (List Int))×Bool)
 |0,_,_,_,_,_,_=>none
 |k+1,w0,x0,b0,c0,l0,n0=>if x0=true then((slices_Equal_int_int.f k w0 b0).bind fun y0=>(impl_DeskDo.j2 k w0 y0 l0 n0))else(impl_DeskDo.j2 k w0 true l0 n0)
def impl_DeskDo.j2:Nat→List Int→Bool→List Int→List (List Int)→Option (List Int×(List (List Int))×Bool)
 |0,_,_,_,_=>none
 |k+1,w0,A0,l0,n0=>if A0=true then(some (l0,n0,false))else(if n0.length<5864062014805 then((some (n0++[l0]:List (List Int))).bind fun B0=>(if(B0.length:Int)>8 then(if 1≤(B0.length:Int)then((impl_copyDesk.f k w0 (B0.drop (1:Int).toNat)).bind fun C0=>(some (C0.1,C0.2,true)))else(none))else((impl_copyDesk.f k w0 B0).bind fun D0=>(some (D0.1,D0.2,true)))))else(none))
end

def impl_DeskDo.f (k:Nat) (a0:List Int) (b0:List (List Int)) (c0:Int) (d0:Int) (e0:Int):Option (List Int×(List (List Int))×Bool):=(impl_DeskOk.f k a0 b0).bind fun g0=>(if g0=true then((impl_copyDesk.f k a0 b0).bind fun l0=>(if c0=3 then(if c0=2 then(impl_DeskDo.j0 k (d0 != 0) a0 b0 c0 d0 e0 l0.1 l0.2)else(if c0=4 then(impl_DeskDo.j0 k (d0 != 0) a0 b0 c0 d0 e0 l0.1 l0.2)else(impl_DeskDo.j0 k false a0 b0 c0 d0 e0 l0.1 l0.2)))else(if e0=0 then(if c0=2 then(impl_DeskDo.j0 k (d0 != 0) a0 b0 c0 d0 e0 l0.1 l0.2)else(if c0=4 then(impl_DeskDo.j0 k (d0 != 0) a0 b0 c0 d0 e0 l0.1 l0.2)else(impl_DeskDo.j0 k false a0 b0 c0 d0 e0 l0.1 l0.2)))else(impl_DeskDo.j0 k true a0 b0 c0 d0 e0 l0.1 l0.2))))else(some (([]:List Int),([]:List (List Int)),false)))
def impl_DeskDo.T9:Bool×List (List Nat×List Nat):=(true,[([],[]),([0],[0]),([],[]),([2],[2]),([3],[3]),([1,4,4],[1,4]),([5],[5]),([6],[6]),([6],[6]),([7,5,0,1,2,3,4,5,6,7],[7]),([8,9,0,1,2,3,4,5,6,7,8,9],[8])])
def impl_DeskDo.B9:List Nat:=[0,1,0,4,12,31,63,127,127,255,1023]
theorem impl_DeskDo.tab9:rtab .any (opsOf Tryz.f53 9)=impl_DeskDo.T9:=by kernel_rfl
theorem impl_DeskDo.bits9:waitsOk impl_DeskDo.T9.2 impl_DeskDo.B9=true:=by kernel_rfl
def impl_DeskDo.T11:Bool×List (List Nat×List Nat):=(true,[([],[]),([0],[0]),([],[]),([2],[2]),([3],[3]),([1,4,4],[1,4]),([5],[5]),([6],[6]),([6],[6]),([7,5,0,1,2,3,4,5,6,7],[7]),([8,9,0,1,2,3,4,5,6,7,8,9],[8])])
def impl_DeskDo.B11:List Nat:=[0,1,0,4,12,31,63,127,127,255,1023]
theorem impl_DeskDo.tab11:rtab .any (opsOf Tryz.f53 11)=impl_DeskDo.T11:=by kernel_rfl
theorem impl_DeskDo.bits11:waitsOk impl_DeskDo.T11.2 impl_DeskDo.B11=true:=by kernel_rfl
theorem impl_DeskDo.calls (k:Nat) (a0:Option Addr) (b0:Nat) (c0:List Int) (d0:Option Addr) (e0:Nat) (g0:List (List Int)) (l0:Int) (n0:Int) (p0:Int) (q0:List Int) (r0:List (List Int)) (s0:Bool) (w:World) (t0:Kd.C (Kd.int .i64) w a0 c0.length c0) (v0:c0.length≤b0) (w0:Kd.C (Kd.slice 3 (Kd.int .i64)) w d0 g0.length g0) (x0:g0.length≤e0) (h:impl_DeskDo.f k c0 g0 l0 n0 p0=some (q0,r0,s0)):
  Calls Tryz.prog 53 #[.agg #[.slice a0 c0.length b0,.slice d0 g0.length e0],.agg #[.int .i64 l0,.int .i64 n0,.int .i64 p0]] w fun e w'=>∃v0_ v1_:Value,e= .returned (.tuple #[.agg #[v0_,v1_],.bool s0])∧Kd.R (Kd.int .i64) 3 w' w.heap.size (fun _=>True) v0_ q0∧Kd.Z (Kd.slice 3 (Kd.int .i64)) 22 w' w.heap.size (fun k_=>some k_≠(v0_:Value).ownBlock) v1_ r0∧Below w.heap.size w w':=by
 have y0:=Tryz.underlying27;have A0:=Tryz.underlying55;have B0:=qa t0;have C0:=qa v0;clear t0 v0;have D0:=qa w0;have E0:=qa x0;clear w0 x0;have HB:=qa (Below.refl w.heap.size w);have H:=h;unfold impl_DeskDo.f at H;clear h;replace H:=qb H;obtain⟨G0,J0,H⟩:=H;replace H:=qc H;obtain⟨rfl,H⟩|⟨rfl,H⟩:=H
 ·replace H:=qb H;obtain⟨⟨K0,L0⟩,M0,H⟩:=H;(try dsimp only at H);have N0:=qa H;clear H
  go_enter Tryz.func53,Tryz.ntmps53
  go_upto_region 4 with(go_big_may;first|(refine bx 2 #[.slice a0 c0.length b0,.slice d0 g0.length e0] 27 ?_;intro P0 hg Q0 hbox hb;have R0:=qa (hbox);have U0:=gw hg;have V0:=gw hg;replace HB:=bs hb;clear hb hbox hg)|(refine bx 3 #[.int .i64 l0,.int .i64 n0,.int .i64 p0] 55 ?_;intro W0 hg X0 hbox hb;have Y0:=qa (hbox);have a1:=gw hg;have b1:=gw hg;replace HB:=bs hb;have c1:=qnl hg R0;have d1:=qng hg R0;replace R0:=qbb R0 hb;clear hb hbox hg)|(refine bx 4 #[.slice none 0 0,.slice none 0 0] 27 ?_;intro e1 hg g1 hbox hb;have l1:=qa (hbox);have n1:=gw hg;have p1:=gw hg;replace HB:=bs hb;have q1:=qnl hg R0;have r1:=qng hg R0;replace R0:=qbb R0 hb;have s1:=qnl hg Y0;have t1:=qng hg Y0;replace Y0:=qbb Y0 hb;clear hb hbox hg;have v1:=c1.out;have w1:=d1.out;have x1:=q1.out;have y1:=r1.out;obtain⟨A1,B1,C1,D1⟩:=qk2 R0)|(refine gb 12 Tryz.func37 (impl_DeskOk.calls k _ _ c0 _ _ g0 true _ (cx (Kd.C_below B0.out HB.out)) C0.out (cx (Kd.C_below D0.out HB.out)) E0.out J0.out) fun E1 hb=>?_;replace R0:=qbb R0 hb;replace Y0:=qbb Y0 hb;replace l1:=qbb l1 hb;replace HB:=bs hb;obtain⟨G1,J1,K1,L1⟩:=qk2 R0)|(refine gol (some 16) Tryz.func54 #[.agg #[.slice a0 c0.length b0,.slice d0 g0.length e0]] ?_;(with_reducible refine(impl_copyDesk.calls k _ _ c0 _ _ g0 K0 L0 _ ?M1 ?N1 ?P1 ?Q1 M0.out).mono ?_);(case M1=>exact cx (Kd.C_below B0.out HB.out));(case N1=>exact C0.out);(case P1=>exact cx (Kd.C_below D0.out HB.out));(case Q1=>exact E0.out);rintro e R1 ⟨U1,V1,rfl,W1,X1,hb⟩;refine⟨_,rfl,?_⟩;have Y1:=qa (Kd.R_lower W1 (below_size (bl)));have a2:=qa (Kd.S_lower X1 (below_size (bl)));replace R0:=qbb R0 hb;replace Y0:=qbb Y0 hb;replace l1:=qbb l1 hb;replace HB:=bs hb)|(refine bx 6 #[.slice none 0 0,.slice none 0 0] 27 ?_;intro b2 hg c2 hbox hb;replace Y1:=qa (Kd.R_below (kR Y1) hb);replace a2:=qa (Kd.S_below (kS a2) hb);have d2:=qa (hbox);have e2:=gw hg;have g2:=gw hg;replace HB:=bs hb;have l2:=qnl hg R0;have n2:=qng hg R0;replace R0:=qbb R0 hb;have p2:=qnl hg Y0;have q2:=qng hg Y0;replace Y0:=qbb Y0 hb;have r2:=qnl hg l1;have s2:=qng hg l1;replace l1:=qbb l1 hb;clear hb hbox hg;obtain⟨t2,v2,rfl⟩:=Kd.R_slice Y1.out;have w2:=n2.out;have x2:=l2.out;have y2:=q2.out;have A2:=p2.out;have B2:=s2.out;have C2:=r2.out;obtain⟨D2,E2,G2,J2⟩:=qk2 d2;obtain⟨K2,L2,rfl⟩:=Kd.S_slice a2.out))
  (try simp only[Act.put,List.setIfInBounds_toArray,List.set_cons_zero,List.set_cons_succ])
  go_cut [39] (fun M2 wc=>∃(kq:Nat) (N2:Bool),M2= .bool N2∧Aside0 (impl_DeskDo.j0 kq N2 c0 g0 l0 n0 p0 K0 L0=some (q0,r0,s0))∧Aside0 (kq≤k)∧Aside0 (Kd.R (Kd.int .i64) 3 wc w.heap.size (fun _=>True) (.slice t2 K0.length v2) K0)∧Aside0 (Kd.S (Kd.slice 3 (Kd.int .i64)) 22 wc w.heap.size (fun k_=>some k_≠((.slice t2 K0.length v2):Value).ownBlock) (.slice K2 L0.length L2) L0)∧Aside0 (wc.heap[P0]? =some (.cells #[(.slice a0 c0.length b0),(.slice d0 g0.length e0)] 27 (0,0)))∧Aside0 (wc.heap[W0]? =some (.cells #[.int .i64 l0,.int .i64 n0,.int .i64 p0] 55 (0,0)))∧Aside0 (wc.heap[e1]? =some (.cells #[(.slice none 0 0),(.slice none 0 0)] 27 (0,0)))∧Aside0 (wc.heap[b2]? =some (.cells #[(.slice t2 K0.length v2),(.slice K2 L0.length L2)] 27 (0,0)))∧Aside0 (Below w.heap.size w wc))
  case first=>
   have H:=N0.out;clear N0;replace H:=qq H;obtain⟨P2,Q2,H⟩|⟨R2,P2,Q2,H⟩:=H
   ·(first|rw[P2]|(simp only[i64_w,i32_w];rw[P2])|skip);replace H:=qq H;obtain⟨U2,V2,H⟩|⟨W2,U2,V2,H⟩:=H
    ·have H':=qa H;clear H;have X2:=d1.out;have Y2:=c1.out;have a3:=s1.out;have b3:=t1.out;have c3:=p2.out;have d3:=q2.out;obtain⟨e3,g3,j3,l3,n3,p3⟩:=qk3 Y0;go_wp2;go_meet
     case rel=>exact⟨_,((n0 != 0)),(sd),H',⟨by first|omega|exact Nat.le_refl _⟩,⟨kFR Y1 d2 (fun _ hk=>trivial)⟩,⟨(kFS a2 d2 (fun _ hk=>hk.1))⟩,⟨kb R0⟩,⟨kb Y0⟩,⟨kb l1⟩,⟨kP d2⟩,⟨bl⟩⟩
    ·replace H:=qq H;obtain⟨q3,r3,H⟩|⟨s3,q3,r3,H⟩:=H
     ·have H':=qa H;clear H;have t3:=d1.out;have v3:=c1.out;have w3:=s1.out;have x3:=t1.out;have y3:=p2.out;have A3:=q2.out;obtain⟨B3,C3,D3,E3,G3,J3⟩:=qk3 Y0;go_wp2;go_meet
      case rel=>exact⟨_,((n0 != 0)),(sd),H',⟨by first|omega|exact Nat.le_refl _⟩,⟨kFR Y1 d2 (fun _ hk=>trivial)⟩,⟨(kFS a2 d2 (fun _ hk=>hk.1))⟩,⟨kb R0⟩,⟨kb Y0⟩,⟨kb l1⟩,⟨kP d2⟩,⟨bl⟩⟩
     ·have H':=qa H;clear H;have K3:=d1.out;have L3:=c1.out;have M3:=s1.out;have N3:=t1.out;have P3:=p2.out;have Q3:=q2.out;obtain⟨R3,U3,V3,W3,X3,Y3⟩:=qk3 Y0;go_wp2;go_meet
      case rel=>exact⟨_,(false),(sd),H',⟨by first|omega|exact Nat.le_refl _⟩,⟨kFR Y1 d2 (fun _ hk=>trivial)⟩,⟨(kFS a2 d2 (fun _ hk=>hk.1))⟩,⟨kb R0⟩,⟨kb Y0⟩,⟨kb l1⟩,⟨kP d2⟩,⟨bl⟩⟩
   ·(first|rw[P2]|(simp only[i64_w,i32_w];rw[P2])|skip);replace H:=qq H;obtain⟨a4,b4,H⟩|⟨c4,a4,b4,H⟩:=H
    ·replace H:=qq H;obtain⟨d4,e4,H⟩|⟨g4,d4,e4,H⟩:=H
     ·have H':=qa H;clear H;have j4:=d1.out;have l4:=c1.out;have n4:=s1.out;have p4:=t1.out;have q4:=p2.out;have r4:=q2.out;obtain⟨s4,t4,v4,w4,x4,y4⟩:=qk3 Y0;go_wp2;go_meet
      case rel=>exact⟨_,((n0 != 0)),(sd),H',⟨by first|omega|exact Nat.le_refl _⟩,⟨kFR Y1 d2 (fun _ hk=>trivial)⟩,⟨(kFS a2 d2 (fun _ hk=>hk.1))⟩,⟨kb R0⟩,⟨kb Y0⟩,⟨kb l1⟩,⟨kP d2⟩,⟨bl⟩⟩
     ·replace H:=qq H;obtain⟨A4,B4,H⟩|⟨C4,A4,B4,H⟩:=H
      ·have H':=qa H;clear H;have D4:=d1.out;have E4:=c1.out;have G4:=s1.out;have J4:=t1.out;have K4:=p2.out;have L4:=q2.out;obtain⟨M4,N4,P4,Q4,R4,U4⟩:=qk3 Y0;go_wp2;go_meet
       case rel=>exact⟨_,((n0 != 0)),(sd),H',⟨by first|omega|exact Nat.le_refl _⟩,⟨kFR Y1 d2 (fun _ hk=>trivial)⟩,⟨(kFS a2 d2 (fun _ hk=>hk.1))⟩,⟨kb R0⟩,⟨kb Y0⟩,⟨kb l1⟩,⟨kP d2⟩,⟨bl⟩⟩
      ·have H':=qa H;clear H;have V4:=d1.out;have W4:=c1.out;have X4:=s1.out;have Y4:=t1.out;have a5:=p2.out;have b5:=q2.out;obtain⟨c5,d5,e5,g5,j5,l5⟩:=qk3 Y0;go_wp2;go_meet
       case rel=>exact⟨_,(false),(sd),H',⟨by first|omega|exact Nat.le_refl _⟩,⟨kFR Y1 d2 (fun _ hk=>trivial)⟩,⟨(kFS a2 d2 (fun _ hk=>hk.1))⟩,⟨kb R0⟩,⟨kb Y0⟩,⟨kb l1⟩,⟨kP d2⟩,⟨bl⟩⟩
    ·have H':=qa H;clear H;have n5:=d1.out;have p5:=c1.out;have q5:=s1.out;have r5:=t1.out;have s5:=p2.out;have t5:=q2.out;obtain⟨v5,w5,x5,y5,A5,B5⟩:=qk3 Y0;go_wp2;go_meet
     case rel=>exact⟨_,(true),(sd),H',⟨by first|omega|exact Nat.le_refl _⟩,⟨kFR Y1 d2 (fun _ hk=>trivial)⟩,⟨(kFS a2 d2 (fun _ hk=>hk.1))⟩,⟨kb R0⟩,⟨kb Y0⟩,⟨kb l1⟩,⟨kP d2⟩,⟨bl⟩⟩
  case rest=>
   clear N0;obtain⟨kq,N2,rfl,HA,C5,D5,E5,R0,Y0,l1,d2,HB⟩:=hcut;have HS_:=E5;replace E5:=qa (Kd.Z_of_S HS_.out);obtain⟨G5,rfl,H⟩:=kz kq HA;clear HA;simp only[impl_DeskDo.j0]at H;replace H:=qc H;obtain⟨rfl,H⟩|⟨rfl,H⟩:=H
   ·simp only[Option.some.injEq,Prod.mk.injEq]at H;obtain⟨rfl,rfl,rfl⟩:=H;have J5:=n2.out;have K5:=l2.out;have L5:=q2.out;have M5:=p2.out;have N5:=s2.out;have P5:=r2.out;obtain⟨Q5,R5,U5,V5⟩:=qk2 d2;have W5:=r1.out;have X5:=q1.out;have Y5:=t1.out;have a6:=s1.out;obtain⟨b6,c6,d6,e6⟩:=qk2 l1;go_wp2;refine bodyPost_ret (results_ct rfl _ _ e1 27 #[.slice t2 K0.length v2,.slice K2 L0.length L2] (0,0) _ rfl (kP l1) Tryz.underlying27 rfl kr_) rfl ?_;exact⟨_,_,er,kFR D5 l1 (fun _ hk=>trivial),z40_,bl⟩
   ·have g6:=qa H;clear H;have j6:=d1.out;have l6:=c1.out;have n6:=s1.out;have p6:=t1.out;have q6:=p2.out;have r6:=q2.out;obtain⟨s6,t6,v6,w6,x6,y6⟩:=qk3 Y0
    go_upto_block 0 with(fail)
    go_cut [7,8] (fun A6 B6 wc=>∃(kq:Nat) (C6:List Int) (D6:Bool) (E6:List Int) (G6:Value),B6= .bool D6∧Aside0 (impl_DeskDo.j1 kq C6 D6 c0 g0 E6 L0=some (q0,r0,s0))∧Aside0 (kq≤G5)∧Aside0 (Kd.R (Kd.int .i64) 3 wc w.heap.size (fun k_=>some k_≠(G6:Value).ownBlock) A6 C6)∧Aside0 (Kd.R (Kd.int .i64) 3 wc w.heap.size (fun k_=>some k_≠(A6:Value).ownBlock) G6 E6)∧Aside0 (Kd.Z (Kd.slice 3 (Kd.int .i64)) 22 wc w.heap.size (fun k_=>some k_≠(A6:Value).ownBlock ∧some k_≠(G6:Value).ownBlock) (.slice K2 L0.length L2) L0)∧Aside0 (wc.heap[P0]? =some (.cells #[(.slice a0 c0.length b0),(.slice d0 g0.length e0)] 27 (0,0)))∧Aside0 (wc.heap[W0]? =some (.cells #[.int .i64 l0,.int .i64 n0,.int .i64 p0] 55 (0,0)))∧Aside0 (wc.heap[e1]? =some (.cells #[(.slice none 0 0),(.slice none 0 0)] 27 (0,0)))∧Aside0 (wc.heap[b2]? =some (.cells #[G6,(.slice K2 L0.length L2)] 27 (0,0)))∧Aside0 (Below w.heap.size w wc))
    case first=>
     have H:=g6.out;clear g6;replace H:=qq H;obtain⟨J6,K6,H⟩|⟨L6,J6,K6,H⟩:=H
     ·(first|rw[J6]|(simp only[i64_w,i32_w];rw[J6])|skip);replace H:=qb H;obtain⟨M6,N6,H⟩:=H;replace H:=qb H;obtain⟨⟨P6,Q6⟩,R6,H⟩:=H;(try dsimp only at H);have H':=qa H;clear H
      try go_wp2
      replace D5:=qa (Kd.R_drew D5.out);replace E5:=qa (Kd.Z_drew E5.out);replace R0:=qa (blk_drew R0.out);replace Y0:=qa (blk_drew Y0.out);replace l1:=qa (blk_drew l1.out);replace d2:=qa (blk_drew d2.out);replace HB:=qa (below_drew1 HB.out);refine start_ (n:=11) (S:=fun w'=>w'.cell? ⟨P0,0,none⟩=some (.slice a0 c0.length b0)∧w'.cell? ⟨P0,1,none⟩=some (.slice d0 g0.length e0)∧w'.cell? ⟨W0,0,none⟩=some (.int .i64 l0)∧w'.cell? ⟨W0,1,none⟩=some (.int .i64 n0)∧w'.cell? ⟨W0,2,none⟩=some (.int .i64 p0)) (ds:=[]) _ kr_ rfl rfl ⟨(blk_cell R0.out 0).trans rfl,(blk_cell R0.out 1).trans rfl,(blk_cell Y0.out 0).trans rfl,(blk_cell Y0.out 1).trans rfl,(blk_cell Y0.out 2).trans rfl⟩ (fun hHeld=>?_);refine with_tabW impl_DeskDo.tab9 impl_DeskDo.bits9 (fun HT_ HW_=>?_);generalize wc.drew=U6 at D5 E5 R0 Y0 l1 d2 HB hHeld ⊢;refine pur 0 46 (bz 11 1) HT_ ?_;refine pur 2 48 (bz 11 5) HT_ ?_;refine tk 1 47 (bz 11 7) hHeld (take_ofW HT_.out HW_.out kr_) ?_;refine tk 3 49 (bz 11 15) hHeld (take_ofW HT_.out HW_.out kr_) ?_;(refine o1 4 (some 50) (bz 11 31) (one_of HT_.out kr_) fun K hK=>?_);(refine gse Tryz.func96 (impl_NamedRow.calls G5 n0 M6 _ N6.out) fun V6 W6 W1 hb=>?_);replace E5:=qa (Kd.Z_elder' (kZ E5) (Kd.R_base W1) hb);have X6:=qa (Kd.R_lower (Kd.R_new' W1 (Kd.R_lt (kR D5))) (below_size (bl)));replace D5:=qa (Kd.R_elder' (kR D5) (Kd.R_base W1) hb);replace R0:=qbb R0 hb;replace Y0:=qbb Y0 hb;replace l1:=qbb l1 hb;replace d2:=qbb d2 hb;replace HB:=bs hb;(try clear hb);(try clear Y6);(try clear hk);(try clear hi);(try clear W1);obtain⟨a7,b7,c7⟩:=Kd.R_slice X6.out;(first|subst c7|(injection c7 with f1_ f2_ f3_;have f4_:=f1_.symm;have f5_:=f3_.symm;clear f1_ f2_ f3_;subst f4_;subst f5_));refine hK.out _ _ ⟨(blk_cell R0.out 0).trans rfl,(blk_cell R0.out 1).trans rfl,(blk_cell Y0.out 0).trans rfl,(blk_cell Y0.out 1).trans rfl,(blk_cell Y0.out 2).trans rfl⟩ (fun hHeld=>?_);clear hK K;refine nm 50 ?_;(refine o1 5 (some 51) (bz 11 63) (one_of HT_.out kr_) fun K hK=>?_);(refine gse Tryz.func95 (impl_TimesOf.calls G5 _ _ c0 _ _ M6 P6 Q6 _ (cx (Kd.C_below B0.out HB.out)) C0.out (cx (Kd.R_reads' X6.out).2.2) ((Kd.R_reads' X6.out).2.1) R6.out) fun d7 e7 W1 hb=>?_);replace E5:=qa (Kd.Z_elder' (kZ E5) (Kd.R_base W1) hb);have g7:=qa (Kd.R_lower (Kd.R_new' (Kd.R_new' W1 (Kd.R_lt (kR D5))) (Kd.R_lt (kR X6))) (below_size (bl)));replace D5:=qa (Kd.R_elder' (kR D5) (Kd.R_base W1) hb);replace X6:=qa (Kd.R_elder' (kR X6) (Kd.R_base W1) hb);replace R0:=qbb R0 hb;replace Y0:=qbb Y0 hb;replace l1:=qbb l1 hb;replace d2:=qbb d2 hb;replace HB:=bs hb;(try clear hb);(try clear Y6);(try clear hk);(try clear hi);(try clear W1);refine hK.out _ _ ⟨(blk_cell R0.out 0).trans rfl,(blk_cell R0.out 1).trans rfl,(blk_cell Y0.out 0).trans rfl,(blk_cell Y0.out 1).trans rfl,(blk_cell Y0.out 2).trans rfl⟩ (fun hHeld=>?_);clear hK K;refine nm 51 ?_;refine pur 6 45 (bz 11 127) HT_ ?_;refine pur 7 52 (bz 11 255) HT_ ?_;refine pur 8 53 (bz 11 511) HT_ ?_;refine pur 9 7 (bz 11 1023) HT_ ?_;refine pur 10 8 (bz 11 2047) HT_ ?_;refine done_ (done_of HT_.out kr_) ?_
      try go_wp2
      go_meet
      case rel=>exact⟨_,(P6),(Q6),(K0),(.slice t2 K0.length v2),(sd),H',⟨z24_⟩,⟨by(with_reducible repeat(first|apply Kd.R_alloc|apply Kd.R_drewN|apply Kd.R_drew));exact Kd.R_mono g7.out (fun _ hk=>hk.1.2)⟩,⟨z25_⟩,⟨by(with_reducible repeat(first|apply Kd.Z_alloc|apply Kd.Z_drewN|apply Kd.Z_drew));exact Kd.Z_mono E5.out (fun _ hk=>⟨hk.2,hk.1.1⟩)⟩,⟨bk⟩,⟨bk⟩,⟨bk⟩,⟨bk⟩,⟨bl⟩⟩
     ·(first|rw[J6]|(simp only[i64_w,i32_w];rw[J6])|skip);replace H:=qq H;obtain⟨j7,l7,H⟩|⟨n7,j7,l7,H⟩:=H
      ·replace H:=qb H;obtain⟨p7,q7,H⟩:=H;replace H:=qb H;obtain⟨⟨r7,s7⟩,t7,H⟩:=H;(try dsimp only at H);have H':=qa H;clear H
       try go_wp2
       replace D5:=qa (Kd.R_drew D5.out);replace E5:=qa (Kd.Z_drew E5.out);replace R0:=qa (blk_drew R0.out);replace Y0:=qa (blk_drew Y0.out);replace l1:=qa (blk_drew l1.out);replace d2:=qa (blk_drew d2.out);replace HB:=qa (below_drew1 HB.out);refine start_ (n:=11) (S:=fun w'=>w'.cell? ⟨P0,0,none⟩=some (.slice a0 c0.length b0)∧w'.cell? ⟨P0,1,none⟩=some (.slice d0 g0.length e0)∧w'.cell? ⟨W0,0,none⟩=some (.int .i64 l0)∧w'.cell? ⟨W0,1,none⟩=some (.int .i64 n0)∧w'.cell? ⟨W0,2,none⟩=some (.int .i64 p0)) (ds:=[]) _ kr_ rfl rfl ⟨(blk_cell R0.out 0).trans rfl,(blk_cell R0.out 1).trans rfl,(blk_cell Y0.out 0).trans rfl,(blk_cell Y0.out 1).trans rfl,(blk_cell Y0.out 2).trans rfl⟩ (fun hHeld=>?_);refine with_tabW impl_DeskDo.tab11 impl_DeskDo.bits11 (fun HT_ HW_=>?_);generalize wc.drew=v7 at D5 E5 R0 Y0 l1 d2 HB hHeld ⊢;refine pur 0 57 (bz 11 1) HT_ ?_;refine pur 2 59 (bz 11 5) HT_ ?_;refine tk 1 58 (bz 11 7) hHeld (take_ofW HT_.out HW_.out kr_) ?_;refine tk 3 60 (bz 11 15) hHeld (take_ofW HT_.out HW_.out kr_) ?_;(refine o1 4 (some 61) (bz 11 31) (one_of HT_.out kr_) fun K hK=>?_);(refine gse Tryz.func96 (impl_NamedRow.calls G5 n0 p7 _ q7.out) fun w7 x7 W1 hb=>?_);replace E5:=qa (Kd.Z_elder' (kZ E5) (Kd.R_base W1) hb);have y7:=qa (Kd.R_lower (Kd.R_new' W1 (Kd.R_lt (kR D5))) (below_size (bl)));replace D5:=qa (Kd.R_elder' (kR D5) (Kd.R_base W1) hb);replace R0:=qbb R0 hb;replace Y0:=qbb Y0 hb;replace l1:=qbb l1 hb;replace d2:=qbb d2 hb;replace HB:=bs hb;(try clear hb);(try clear Y6);(try clear hk);(try clear hi);(try clear W1);obtain⟨A7,B7,C7⟩:=Kd.R_slice y7.out;(first|subst C7|(injection C7 with f1_ f2_ f3_;have f4_:=f1_.symm;have f5_:=f3_.symm;clear f1_ f2_ f3_;subst f4_;subst f5_));refine hK.out _ _ ⟨(blk_cell R0.out 0).trans rfl,(blk_cell R0.out 1).trans rfl,(blk_cell Y0.out 0).trans rfl,(blk_cell Y0.out 1).trans rfl,(blk_cell Y0.out 2).trans rfl⟩ (fun hHeld=>?_);clear hK K;refine nm 61 ?_;(refine o1 5 (some 62) (bz 11 63) (one_of HT_.out kr_) fun K hK=>?_);(refine gse Tryz.func97 (impl_UnitaryTimes.calls G5 _ _ c0 _ _ p7 r7 s7 _ (cx (Kd.C_below B0.out HB.out)) C0.out (cx (Kd.R_reads' y7.out).2.2) ((Kd.R_reads' y7.out).2.1) t7.out) fun D7 E7 W1 hb=>?_);replace E5:=qa (Kd.Z_elder' (kZ E5) (Kd.R_base W1) hb);have G7:=qa (Kd.R_lower (Kd.R_new' (Kd.R_new' W1 (Kd.R_lt (kR D5))) (Kd.R_lt (kR y7))) (below_size (bl)));replace D5:=qa (Kd.R_elder' (kR D5) (Kd.R_base W1) hb);replace y7:=qa (Kd.R_elder' (kR y7) (Kd.R_base W1) hb);replace R0:=qbb R0 hb;replace Y0:=qbb Y0 hb;replace l1:=qbb l1 hb;replace d2:=qbb d2 hb;replace HB:=bs hb;(try clear hb);(try clear Y6);(try clear hk);(try clear hi);(try clear W1);refine hK.out _ _ ⟨(blk_cell R0.out 0).trans rfl,(blk_cell R0.out 1).trans rfl,(blk_cell Y0.out 0).trans rfl,(blk_cell Y0.out 1).trans rfl,(blk_cell Y0.out 2).trans rfl⟩ (fun hHeld=>?_);clear hK K;refine nm 62 ?_;refine pur 6 56 (bz 11 127) HT_ ?_;refine pur 7 63 (bz 11 255) HT_ ?_;refine pur 8 64 (bz 11 511) HT_ ?_;refine pur 9 7 (bz 11 1023) HT_ ?_;refine pur 10 8 (bz 11 2047) HT_ ?_;refine done_ (done_of HT_.out kr_) ?_
       try go_wp2
       go_meet
       case rel=>exact⟨_,(r7),(s7),(K0),(.slice t2 K0.length v2),(sd),H',⟨z24_⟩,⟨by(with_reducible repeat(first|apply Kd.R_alloc|apply Kd.R_drewN|apply Kd.R_drew));exact Kd.R_mono G7.out (fun _ hk=>hk.1.2)⟩,⟨z25_⟩,⟨by(with_reducible repeat(first|apply Kd.Z_alloc|apply Kd.Z_drewN|apply Kd.Z_drew));exact Kd.Z_mono E5.out (fun _ hk=>⟨hk.2,hk.1.1⟩)⟩,⟨bk⟩,⟨bk⟩,⟨bk⟩,⟨bk⟩,⟨bl⟩⟩
      ·replace H:=qq H;obtain⟨J7,K7,H⟩|⟨L7,J7,K7,H⟩:=H
       ·replace H:=qb H;obtain⟨⟨M7,N7⟩,P7,H⟩:=H;(try dsimp only at H);have H':=qa H;clear H;have Q7:=c1.out;have R7:=d1.out;have U7:=q1.out;have V7:=r1.out;have W7:=l2.out;have X7:=n2.out;obtain⟨Y7,a8,b8,c8⟩:=qk2 R0
        go_wp2_with(first|(refine ge_ 70 Tryz.func98 (impl_InverseOf.calls G5 _ _ c0 M7 N7 _ (cx (Kd.C_below B0.out HB.out)) C0.out P7.out) fun d8 e8 W1 hb=>?_;replace E5:=qa (Kd.Z_elder' (kZ E5) (Kd.R_base W1) hb);have g8:=qa (Kd.R_lower (Kd.R_new' W1 (Kd.R_lt (kR D5))) (below_size (bl)));replace D5:=qa (Kd.R_elder' (kR D5) (Kd.R_base W1) hb);replace R0:=qbb R0 hb;replace Y0:=qbb Y0 hb;replace l1:=qbb l1 hb;replace d2:=qbb d2 hb;replace HB:=bs hb))
        go_meet
        case rel=>exact⟨_,(M7),(N7),(K0),(.slice t2 K0.length v2),(sd),H',⟨z24_⟩,⟨by(with_reducible repeat(first|apply Kd.R_alloc|apply Kd.R_drewN|apply Kd.R_drew));exact Kd.R_mono g8.out (fun _ hk=>hk.2)⟩,⟨z25_⟩,⟨by(with_reducible repeat(first|apply Kd.Z_alloc|apply Kd.Z_drewN|apply Kd.Z_drew));exact Kd.Z_mono E5.out (fun _ hk=>⟨hk.2,hk.1⟩)⟩,⟨bk⟩,⟨bk⟩,⟨bk⟩,⟨bk⟩,⟨bl⟩⟩
       ·replace H:=qq H;obtain⟨j8,l8,H⟩|⟨n8,j8,l8,H⟩:=H
        ·replace H:=qu H;obtain⟨p8,H⟩|⟨p8,H⟩:=H
         ·replace H:=qe H;obtain⟨q8,H⟩|⟨q8,H⟩:=H
          ·replace H:=qu H;obtain⟨r8,H⟩|⟨r8,H⟩:=H
           ·replace H:=qe H;obtain⟨s8,H⟩|⟨s8,H⟩:=H
            ·replace H:=qb H;obtain⟨t8,v8,H⟩:=H;obtain⟨w8,x8⟩:∃j_:Int,(wrap64 (n0-1))=j_:=⟨_,rfl⟩;(first|rw[x8]at H|(try simp only[x8]at H));(try rw[x8]at v8);have y8:(IntKind.i64.wrap (n0-1))=w8:=(i64_w _).trans x8;replace H:=qd H;obtain⟨A8,H⟩:=H;replace H:=qd H;obtain⟨B8,H⟩:=H;obtain⟨C8,hy_⟩:∃y_:List Int,y_=(t8.set ((w8):Int).toNat p0):=⟨_,rfl⟩;replace H:(impl_DeskDo.j1 G5 C8 true c0 g0 K0 L0)=some (q0,r0,s0):=yh;have D8:=qa hy_;clear hy_;have H':=qa H;clear H;have E8:=d1.out;have G8:=c1.out;have J8:=s1.out;have K8:=t1.out;have L8:=p2.out;have M8:=q2.out;obtain⟨N8,P8,Q8,R8,U8,V8⟩:=qk3 Y0;have W8:=q1.out;have X8:=r1.out;have Y8:=l2.out;have a9:=n2.out;obtain⟨b9,c9,d9,e9⟩:=qk2 R0
             go_wp2_with(first|(refine ge_ 95 Tryz.func99 (slices_Clone_int_int.calls G5 _ _ c0 t8 _ (cx (Kd.C_below B0.out HB.out)) C0.out v8.out) fun g9 j9 W1 hb=>?_;replace E5:=qa (Kd.Z_elder' (kZ E5) (Kd.R_base W1) hb);have l9:=qa (Kd.R_lower (Kd.R_new' W1 (Kd.R_lt (kR D5))) (below_size (bl)));replace D5:=qa (Kd.R_elder' (kR D5) (Kd.R_base W1) hb);replace R0:=qbb R0 hb;replace Y0:=qbb Y0 hb;replace l1:=qbb l1 hb;replace d2:=qbb d2 hb;replace HB:=bs hb;obtain⟨n9,p9,q9,r9,s9,t9⟩:=qk3 Y0;have v9:0≤((w8):Int):=qo;have w9:((w8):Int)<((t8.length:Int):Int):=qo;obtain⟨x9,y9,A9,B9,gl100,cl100,HG100⟩:=Kd.R_form l9.out ko_;(first|cases A9|(injection A9 with ea_ en_ ec_;(first|subst ea_|(injection ea_ with ea_;subst ea_));subst ec_;clear en_));have GB100:=qa B9;have GG100:=qa HG100;clear B9 gl100 HG100;obtain⟨C9,D9⟩:=Kd.R_celln 0 l9.out ((w8):Int) v9 w9;replace v9:=eq_true v9;replace w9:=eq_true w9;have n_:=qa (Kd.R_mono (ok':=(fun k_=>some k_≠(.slice t2 K0.length v2:Value).ownBlock)) l9.out (fun k_ hk=>hk.2));clear l9;have l9:=n_;clear n_;obtain⟨hy110_,hz110_⟩:=Kd.R_celln 0 l9.out ((w8):Int) (qo) (qo);have HP110:=Kd.R_putg l9.out ((w8):Int) p0)|((with_reducible refine gate_store (t:=3) (p:=102) rfl ?_);refine store_event (t:=3) (p:=102) (v:=?vo_w111) (w1:=(j9.setCell ⟨x9,((w8):Int).toNat,none⟩ (.int .i64 p0))) ?hg ?ho ?hn ?hr ?_;(case ho=>rfl);(case hg=>rfl);(case hn=>rfl);(case hr=>exact gr);intro E9 hw;have hg:j9.grownBy E9 (some x9):=(by rw[hw];exact HP110.2);have hp_:Kd.R (Kd.int .i64) 3 E9 w.heap.size (fun k_=>some k_≠(.slice t2 K0.length v2:Value).ownBlock) (.slice (some ⟨x9,0,none⟩) t8.length y9) C8:=(by rw[hw,D8.out];exact HP110.1);clear HP110;replace D5:=qa (Kd.R_after (v:=(.slice (some ⟨x9,0,none⟩) t8.length y9)) (v1:=(.slice (some ⟨x9,0,none⟩) t8.length y9)) (ok:=(fun _=>True)) (kR D5) hg (.inl rfl));replace E5:=qa (Kd.Z_after (v:=(.slice (some ⟨x9,0,none⟩) t8.length y9)) (v1:=(.slice (some ⟨x9,0,none⟩) t8.length y9)) (ok:=(fun k_=>some k_≠(.slice t2 K0.length v2:Value).ownBlock)) (kZ E5) hg (.inl rfl));replace R0:=qa (blk_grown (g:=P0) (o:= .cells #[.slice a0 c0.length b0,.slice d0 g0.length e0] 27 (0,0)) (bk) hg (Kd.R_ne l9.out R0.out kd_));replace Y0:=qa (blk_grown (g:=W0) (o:= .cells #[.int .i64 l0,.int .i64 n0,.int .i64 p0] 55 (0,0)) (bk) hg (Kd.R_ne l9.out Y0.out kd_));replace l1:=qa (blk_grown (g:=e1) (o:= .cells #[.slice none 0 0,.slice none 0 0] 27 (0,0)) (bk) hg (Kd.R_ne l9.out l1.out kd_));replace d2:=qa (blk_grown (g:=b2) (o:= .cells #[.slice t2 K0.length v2,.slice K2 L0.length L2] 27 (0,0)) (bk) hg (Kd.R_ne l9.out d2.out kd_));replace l9:=qa (hp_);replace HB:=qa ((by rw[hw];exact below_set (HB.out) GB100.out:Below w.heap.size w E9));clear hg hw hp_))
             go_meet
             case rel=>exact⟨_,(C8),(true),(K0),(.slice t2 K0.length v2),(sd),H',⟨z24_⟩,⟨kR l9⟩,⟨z25_⟩,⟨by(with_reducible repeat(first|apply Kd.Z_alloc|apply Kd.Z_drewN|apply Kd.Z_drew));exact Kd.Z_mono E5.out (fun _ hk=>⟨hk.2,hk.1⟩)⟩,⟨bk⟩,⟨bk⟩,⟨bk⟩,⟨bk⟩,⟨bl⟩⟩
            ·have H':=qa H;clear H;have G9:=d1.out;have J9:=c1.out;have K9:=s1.out;have L9:=t1.out;have M9:=p2.out;have N9:=q2.out;obtain⟨P9,Q9,R9,U9,V9,W9⟩:=qk3 Y0;go_wp2;go_meet
             case rel=>exact⟨_,(([]:List Int)),(false),(K0),(.slice t2 K0.length v2),(sd),H',⟨z24_⟩,⟨z2_⟩,⟨z19_⟩,⟨z18_⟩,⟨bk⟩,⟨bk⟩,⟨bk⟩,⟨bk⟩,⟨bl⟩⟩
           ·have H':=qa H;clear H;have X9:=d1.out;have Y9:=c1.out;have a10:=s1.out;have b10:=t1.out;have c10:=p2.out;have d10:=q2.out;obtain⟨e10,g10,j10,l10,n10,p10⟩:=qk3 Y0;go_wp2;go_meet
            case rel=>exact⟨_,(([]:List Int)),(false),(K0),(.slice t2 K0.length v2),(sd),H',⟨z24_⟩,⟨z2_⟩,⟨z19_⟩,⟨z18_⟩,⟨bk⟩,⟨bk⟩,⟨bk⟩,⟨bk⟩,⟨bl⟩⟩
          ·have H':=qa H;clear H;have q10:=d1.out;have r10:=c1.out;have s10:=s1.out;have t10:=t1.out;have v10:=p2.out;have w10:=q2.out;obtain⟨x10,y10,A10,B10,C10,D10⟩:=qk3 Y0;go_wp2;go_meet
           case rel=>exact⟨_,(([]:List Int)),(false),(K0),(.slice t2 K0.length v2),(sd),H',⟨z24_⟩,⟨z2_⟩,⟨z19_⟩,⟨z18_⟩,⟨bk⟩,⟨bk⟩,⟨bk⟩,⟨bk⟩,⟨bl⟩⟩
         ·have H':=qa H;clear H;have E10:=d1.out;have G10:=c1.out;have J10:=s1.out;have K10:=t1.out;have L10:=p2.out;have M10:=q2.out;obtain⟨N10,P10,Q10,R10,U10,V10⟩:=qk3 Y0;go_wp2;go_meet
          case rel=>exact⟨_,(([]:List Int)),(false),(K0),(.slice t2 K0.length v2),(sd),H',⟨z24_⟩,⟨z2_⟩,⟨z19_⟩,⟨z18_⟩,⟨bk⟩,⟨bk⟩,⟨bk⟩,⟨bk⟩,⟨bl⟩⟩
        ·replace H:=qq H;obtain⟨W10,X10,H⟩|⟨Y10,W10,X10,H⟩:=H
         ·have hwn_:IntKind.i64.wrap ((L0.length:Int)-1)=wrap64 ((L0.length:Int)-1):=i64_w _
          by_cases c0_:L0.length=0
          ·rw[if_pos c0_]at H;simp only[Option.some.injEq,Prod.mk.injEq]at H;obtain⟨rfl,rfl,rfl⟩:=H;(have hw1_:IntKind.i64.wrap ((L0.length:Int)-1)= -1:=by rw[c0_];rfl);have hw2_:((-1:Int)<0)=True:=eq_true kd_;clear c0_ hwn_;have J5:=n2.out;have K5:=l2.out;have L5:=q2.out;have M5:=p2.out;have N5:=s2.out;have P5:=r2.out;obtain⟨Q5,R5,U5,V5⟩:=qk2 d2;have W5:=r1.out;have X5:=q1.out;have Y5:=t1.out;have a6:=s1.out;obtain⟨b6,c6,d6,e6⟩:=qk2 l1;go_wp2;refine bodyPost_ret (results_ct rfl _ _ e1 27 #[.slice t2 K0.length v2,.slice K2 L0.length L2] (0,0) _ rfl (kP l1) Tryz.underlying27 rfl kr_) rfl ?_;exact⟨_,_,er,kFR D5 l1 (fun _ hk=>trivial),z40_,bl⟩
          ·rw[if_neg c0_]at H
           by_cases c1_:L0.length<4096
           ·rw[if_pos c1_]at H;simp only[Option.some.injEq,Prod.mk.injEq]at H;obtain⟨e1_,e2_,rfl⟩:=H;obtain⟨j_,hj_⟩:∃j_:Int,(L0.length:Int)-1=j_:=⟨_,rfl⟩;(have hm_:L0.length=j_.toNat+1:=by omega);(have em_:L0.length-1=j_.toNat:=by omega);rw[em_]at e1_ e2_;have hPc_:=(Kd.R_reads' (Kd.S_R HS_.out)).2.1
            obtain⟨ad_,ea_⟩:∃ad_,K2=some ad_:=by
             obtain⟨g_,c2_,e_,_⟩:=Kd.S_form HS_.out ko_;(injection e_ with e_ _ _);exact⟨_,e_⟩
            subst ea_;obtain⟨v_,hcell_,hv_,hrest_⟩:=S_pop2 HS_.out hm_ hm_;rw[e1_]at hv_;rw[e2_]at hrest_;obtain⟨Av_,cv_,ev_⟩:=Kd.R_slice hv_;subst ev_;have hQ_:=Kd.Z_clip hrest_;(have hwj_:IntKind.i64.wrap ((L0.length:Int)-1)=j_:=by rw[i64_w,hj_];exact w64_small2 _ ko_ ko_);have hn_:(j_<0)=False:=eq_false ko_;have hp_:(0≤j_)=True:=eq_true ko_;have hq_:(j_<(L0.length:Int))=True:=eq_true ko_;(have hjc_:j_.toNat≤L2:=by omega);obtain⟨i0_,hi0_,_,hsz_,_⟩:=info_parts info22;have hcut_:=cut_to (P:=Tryz.prog) 23 22 .i64 Tryz.underlying23 hi0_ (some ad_) L0.length L2 j_ ko_ ko_ hPc_;clear hi0_ hsz_ hrest_ e1_ e2_ hm_ em_ c0_ c1_ hj_ hPc_ hwn_;have J5:=n2.out;have K5:=l2.out;have L5:=q2.out;have M5:=p2.out;have N5:=s2.out;have P5:=r2.out;obtain⟨Q5,R5,U5,V5⟩:=qk2 d2;have W5:=r1.out;have X5:=q1.out;have Y5:=t1.out;have a6:=s1.out;obtain⟨b6,c6,d6,e6⟩:=qk2 l1;go_wp2;refine wp_region_still_tail 10 rfl kr_ ?_;simp only[List.take_succ_cons,List.take_zero,List.drop_succ_cons,List.drop_zero]
            repeat still_step
            still_call (slices_Clip_int_int.calls (some ad_) j_.toNat L2 _ hjc_)
            refine wpStill_nil ?_;go_wp2;refine bodyPost_ret (results_ct rfl _ _ e1 27 #[.slice Av_ q0.length cv_,.slice (some ad_) j_.toNat j_.toNat] (0,0) _ rfl (kP l1) Tryz.underlying27 rfl kr_) rfl ?_;exact⟨_,_,er,by(with_reducible repeat(first|apply Kd.R_alloc|apply Kd.R_drewN|apply Kd.R_drew));exact Kd.R_mono (Kd.R_far (p:=⟨e1,1,none⟩) (Kd.R_far (p:=⟨e1,0,none⟩) (Kd.R_types hv_ l1.out kd_) (fun _ hk=>hk.2) (.slice Av_ q0.length cv_)) (fun _ hk=>hk.2) (.slice (some ad_) j_.toNat j_.toNat)) (fun _ hk=>trivial),by(with_reducible repeat(first|apply Kd.Z_alloc|apply Kd.Z_drewN|apply Kd.Z_drew));exact Kd.Z_mono (Kd.Z_far (p:=⟨e1,1,none⟩) (Kd.Z_far (p:=⟨e1,0,none⟩) (Kd.Z_types hQ_ l1.out kd_) (fun _ hk=>hk.2) (.slice Av_ q0.length cv_)) (fun _ hk=>hk.2) (.slice (some ad_) j_.toNat j_.toNat)) (fun _ hk=>hk.1.2),bl⟩
           ·rw[if_neg c1_]at H;exact absurd H (by simp)
         ·have H':=qa H;clear H;go_wp2;go_meet
          case rel=>exact⟨_,(([]:List Int)),(false),(K0),(.slice t2 K0.length v2),(sd),H',⟨z24_⟩,⟨z2_⟩,⟨z19_⟩,⟨z18_⟩,⟨bk⟩,⟨bk⟩,⟨bk⟩,⟨bk⟩,⟨bl⟩⟩
    case rest=>
     clear g6;obtain⟨kq,C6,D6,E6,G6,rfl,HA,a11,b11,D5,E5,R0,Y0,l1,d2,HB⟩:=hcut;obtain⟨c11,rfl,H⟩:=kz kq HA;clear HA;simp only[impl_DeskDo.j1]at H;have d11:=qa H;clear H
     go_upto_region 23 with(fail)
     go_cut [130] (fun e11 wc=>∃(kq:Nat) (g11:Bool),e11= .bool g11∧Aside0 (impl_DeskDo.j2 kq C6 g11 E6 L0=some (q0,r0,s0))∧Aside0 (kq≤c11)∧Aside0 (Kd.R (Kd.int .i64) 3 wc w.heap.size (fun k_=>some k_≠(G6:Value).ownBlock) u7 C6)∧Aside0 (Kd.R (Kd.int .i64) 3 wc w.heap.size (fun k_=>some k_≠(u7:Value).ownBlock) G6 E6)∧Aside0 (Kd.Z (Kd.slice 3 (Kd.int .i64)) 22 wc w.heap.size (fun k_=>some k_≠(u7:Value).ownBlock ∧some k_≠(G6:Value).ownBlock) (.slice K2 L0.length L2) L0)∧Aside0 (wc.heap[P0]? =some (.cells #[(.slice a0 c0.length b0),(.slice d0 g0.length e0)] 27 (0,0)))∧Aside0 (wc.heap[W0]? =some (.cells #[.int .i64 l0,.int .i64 n0,.int .i64 p0] 55 (0,0)))∧Aside0 (wc.heap[e1]? =some (.cells #[(.slice none 0 0),(.slice none 0 0)] 27 (0,0)))∧Aside0 (wc.heap[b2]? =some (.cells #[G6,(.slice K2 L0.length L2)] 27 (0,0)))∧Aside0 (Below w.heap.size w wc))
     case first=>
      have H:=d11.out;clear d11;replace H:=qc H;obtain⟨rfl,H⟩|⟨rfl,H⟩:=H
      ·replace H:=qb H;obtain⟨j11,l11,H⟩:=H;have H':=qa H;clear H;have n11:=c1.out;have p11:=d1.out;have q11:=q1.out;have r11:=r1.out;have s11:=l2.out;have t11:=n2.out;obtain⟨v11,w11,x11,y11⟩:=qk2 R0;obtain⟨A11,B11,rfl⟩:=Kd.R_slice b11.out
       go_wp2_with(first|(go_at_call 101;(with_reducible refine(slices_Equal_int_int.calls c11 _ _ C6 _ _ c0 j11 _ ?M1 ?N1 ?P1 ?Q1 l11.out).mono ?_);(case M1=>exact cx (Kd.R_reads' b11.out).2.2);(case N1=>exact(Kd.R_reads' b11.out).2.1);(case P1=>exact cx (Kd.C_below B0.out HB.out));(case Q1=>exact C0.out);rintro e w' ⟨rfl,⟨nd,rfl⟩⟩))
       go_meet
       case rel=>exact⟨_,(j11),(sd),H',⟨by have:=C5.out;have:=a11.out;first|omega|exact Nat.le_refl _⟩,⟨kR b11⟩,⟨kR D5⟩,⟨kZ E5⟩,⟨bk⟩,⟨bk⟩,⟨bk⟩,⟨bk⟩,⟨bl⟩⟩
      ·have H':=qa H;clear H;go_wp2;go_meet
       case rel=>exact⟨_,(true),(sd),H',⟨by have:=C5.out;have:=a11.out;first|omega|exact Nat.le_refl _⟩,⟨kR b11⟩,⟨kR D5⟩,⟨kZ E5⟩,⟨bk⟩,⟨bk⟩,⟨bk⟩,⟨bk⟩,⟨bl⟩⟩
     case rest=>
      clear d11;obtain⟨kq,g11,rfl,HA,C11,b11,D5,E5,R0,Y0,l1,d2,HB⟩:=hcut;obtain⟨D11,rfl,H⟩:=kz kq HA;clear HA;simp only[impl_DeskDo.j2]at H;replace H:=qc H;obtain⟨rfl,H⟩|⟨rfl,H⟩:=H
      ·simp only[Option.some.injEq,Prod.mk.injEq]at H;obtain⟨rfl,rfl,rfl⟩:=H;have E11:=n2.out;have G11:=l2.out;have J11:=q2.out;have K11:=p2.out;have L11:=s2.out;have M11:=r2.out;obtain⟨N11,P11,Q11,R11⟩:=qk2 d2;obtain⟨U11,V11,rfl⟩:=Kd.R_slice D5.out;have W11:=r1.out;have X11:=q1.out;have Y11:=t1.out;have a12:=s1.out;obtain⟨b12,c12,d12,e12⟩:=qk2 l1;go_wp2;refine bodyPost_ret (results_ct rfl _ _ e1 27 #[.slice U11 E6.length V11,.slice K2 L0.length L2] (0,0) _ rfl (kP l1) Tryz.underlying27 rfl kr_) rfl ?_;exact⟨_,_,er,kFR D5 l1 (fun _ hk=>trivial),by(with_reducible repeat(first|apply Kd.Z_alloc|apply Kd.Z_drewN|apply Kd.Z_drew));exact Kd.Z_mono (Kd.Z_far (p:=⟨e1,1,none⟩) (Kd.Z_far (p:=⟨e1,0,none⟩) (Kd.Z_types E5.out l1.out kd_) (fun _ hk=>hk.2) (.slice U11 E6.length V11)) (fun _ hk=>hk.2) (.slice K2 L0.length L2)) (fun _ hk=>hk.1.2),bl⟩
      ·replace H:=qn H;obtain⟨g12,H⟩:=H;have j12:=qa g12;clear g12;replace H:=qs H;obtain⟨l12,n12,H⟩:=H
       by_cases p12:(l12.length:Int)>8
       ·rw[if_pos p12]at H;have q12:decide (8<(l12.length:Int))=true:=decide_eq_true p12;have r12:decide (8<l12.length)=true:=decide_eq_true ko_;clear p12;replace H:=qn H;obtain⟨s12,H⟩:=H;have t12:=eq_true s12;have v12:decide (1≤(l12.length:Int))=true:=decide_eq_true s12;clear s12;obtain⟨w12,hy_⟩:∃y_:List (List Int),y_=(l12.drop (1:Int).toNat):=⟨_,rfl⟩;replace H:((impl_copyDesk.f D11 C6 w12).bind fun x12=>(some (x12.1,x12.2,true)))=some (q0,r0,s0):=yh;have y12:=qa hy_;clear hy_;replace H:=qb H;obtain⟨⟨A12,B12⟩,C12,H⟩:=H;(try dsimp only at H);simp only[Option.some.injEq,Prod.mk.injEq]at H;obtain⟨rfl,rfl,rfl⟩:=H;have D12:=n2.out;have E12:=l2.out;have G12:=q2.out;have J12:=p2.out;have K12:=s2.out;have L12:=r2.out;obtain⟨M12,N12,P12,Q12⟩:=qk2 d2;obtain⟨R12,U12,rfl⟩:=Kd.R_slice D5.out
        go_wp2_with(first|((with_reducible refine gate_builtin (b:= .append) (xs:=#[.tmp 134,.tmp 137]) rfl ?_);at_builtin;refine Kd.Q_append (Kd.slice 3 (Kd.int .i64)) (w0:=w) w.heap.size rfl (.tmp 134) (.tmp 137) 23 22 (.slice none 0 0) 24 rfl Tryz.underlying23 info22 rfl kd_ ko_ (.slice K2 L0.length L2) L0 E6 [.slice R12 E6.length U12] (fun k_=>some k_≠(u7:Value).ownBlock) (fun k_=>((fun k_=>some k_≠(u7:Value).ownBlock)) k_∧some k_≠(.slice K2 L0.length L2:Value).ownBlock) rfl rfl ?aP (fun _ hk=>hk) ?aF ?aO ?aB ?aS ?aL ?_;(case aP=>exact Kd.M_row (Kd.R_mono (Kd.R_apart' (D5.out) (Kd.Z_typed E5.out) kd_) (fun k_ hk=>⟨hk.1,hk.2⟩)));(case aB=>exact(bl));(case aF=>exact(fun k_ hk=>Kd.fresh' (Kd.R_lt (kR b11)) k_ hk));(case aO=>exact Kd.Z_Q (by(with_reducible repeat(first|apply Kd.Z_alloc|apply Kd.Z_drewN|apply Kd.Z_drew));exact Kd.Z_mono E5.out (fun _ hk=>hk.1)));(case aS=>exact(below_size (bl)));(case aL=>have:=j12.out;omega);intro V12 W12 ho hb hg hat;rw[←n12.out]at ho;replace b11:=qa (Kd.R_over' (kR b11) (Kd.Z_typed (kZ E5)) kd_ hg);replace R0:=qa (blk_grown (g:=P0) (o:= .cells #[.slice a0 c0.length b0,.slice d0 g0.length e0] 27 (0,0)) (bk) hg (Kd.Z_ne E5.out R0.out kd_));replace Y0:=qa (blk_grown (g:=W0) (o:= .cells #[.int .i64 l0,.int .i64 n0,.int .i64 p0] 55 (0,0)) (bk) hg (Kd.Z_ne E5.out Y0.out kd_));replace l1:=qa (blk_grown (g:=e1) (o:= .cells #[.slice none 0 0,.slice none 0 0] 27 (0,0)) (bk) hg (Kd.Z_ne E5.out l1.out kd_));replace d2:=qa (blk_grown (g:=b2) (o:= .cells #[.slice R12 E6.length U12,.slice K2 L0.length L2] 27 (0,0)) (bk) hg (Kd.Z_ne E5.out d2.out kd_));replace HB:=qa (hb);have X12:=qa (ho);clear E5 D5;clear ho hb hg hat;obtain⟨Y12,a13,b13,_⟩:=Kd.Q_slice X12.out;subst b13;obtain⟨c13,d13,rfl⟩:=Kd.R_slice b11.out)|(refine bx 10 #[.slice none 0 0,.slice none 0 0] 27 ?_;intro e13 hg g13 hbox hb;replace b11:=qa (Kd.R_below (kR b11) hb);replace X12:=qa (Kd.Q_below (kQ X12) hb);have j13:=qa (hbox);have l13:=gw hg;have n13:=gw hg;replace HB:=bs hb;have p13:=qnl hg R0;have q13:=qng hg R0;replace R0:=qbb R0 hb;have r13:=qnl hg Y0;have s13:=qng hg Y0;replace Y0:=qbb Y0 hb;have t13:=qnl hg l1;have v13:=qng hg l1;replace l1:=qbb l1 hb;have w13:=qnl hg d2;have x13:=qng hg d2;replace d2:=qbb d2 hb;clear hb hbox hg;have y13:=q13.out;have A13:=p13.out;have B13:=s13.out;have C13:=r13.out;have D13:=v13.out;have E13:=t13.out;have G13:=x13.out;have J13:=w13.out;obtain⟨K13,L13,M13,N13⟩:=qk2 j13)|((with_reducible refine gate_store (t:=27) (p:=10) rfl ?_);refine store_event (t:=27) (p:=10) (v:=?vo_w164) (w1:=((g13.setCell ⟨e13,0,none⟩ (.slice c13 C6.length d13)).setCell ⟨e13,1,none⟩ (.slice Y12 l12.length a13))) ?hg ?ho ?hn ?hr ?_;(case ho=>rfl);(case hg=>rfl);(case hn=>rfl);(case hr=>exact gr);intro P13 hw;have n0_:Aside0 (Kd.R (Kd.int .i64) 3 P13 w.heap.size (fun _=>True) (.slice c13 C6.length d13) C6):=⟨(by rw[hw];exact(kFR b11 j13 (fun _ hk=>trivial)))⟩;have n1_:Aside0 (Kd.Q (Kd.slice 3 (Kd.int .i64)) 22 P13 w.heap.size (fun k_=>some k_≠(.slice c13 C6.length d13:Value).ownBlock) (.slice Y12 l12.length a13) l12):=⟨(by rw[hw];exact(kFQ X12 j13 (fun _ hk=>hk.1)))⟩;have n2_:Aside0 (P13.heap[P0]? =some (.cells #[.slice a0 c0.length b0,.slice d0 g0.length e0] 27 (0,0))):=⟨(by rw[hw];exact(kb R0))⟩;have n3_:Aside0 (P13.heap[W0]? =some (.cells #[.int .i64 l0,.int .i64 n0,.int .i64 p0] 55 (0,0))):=⟨(by rw[hw];exact(kb Y0))⟩;have n4_:Aside0 (P13.heap[e1]? =some (.cells #[.slice none 0 0,.slice none 0 0] 27 (0,0))):=⟨(by rw[hw];exact(kb l1))⟩;have n5_:Aside0 (P13.heap[b2]? =some (.cells #[.slice R12 E6.length U12,.slice K2 L0.length L2] 27 (0,0))):=⟨(by rw[hw];exact(kb d2))⟩;have n6_:Aside0 (P13.heap[e13]? =some (.cells #[.slice c13 C6.length d13,.slice Y12 l12.length a13] 27 (0,0))):=⟨(by rw[hw];exact(kP j13))⟩;have n7_:Aside0 (Below w.heap.size w P13):=⟨(by rw[hw];exact(bl))⟩;clear hw;clear b11;clear X12;clear R0;clear Y0;clear l1;clear d2;clear j13;clear HB;have b11:=n0_;have X12:=n1_;have R0:=n2_;have Y0:=n3_;have l1:=n4_;have d2:=n5_;have j13:=n6_;have HB:=n7_;clear n0_ n1_ n2_ n3_ n4_ n5_ n6_ n7_;obtain⟨Q13,R13,U13,V13⟩:=qk2 j13;have W13:(1:Int)≤((l12.length:Int):Int):=qo;obtain⟨i0166,X13,_,Y13,_⟩:=info_parts info22;have a14:=cut_from (P:=Tryz.prog) 23 22 .i64 Tryz.underlying23 X13 1 Y13 Y12 l12.length a13 1 ko_ W13;have b14:=Kd.Q_drop (k:=(1:Int).toNat) X12.out ko_;obtain⟨c14,hA166⟩:∃d14,d14=(if a13=(1:Int).toNat then Y12 else(Y12:Option Addr).map (·.add ((1:Int).toNat *1))):=⟨_,rfl⟩;obtain⟨e14,g14⟩:∃j14,j14=a13-(1:Int).toNat :=⟨_,rfl⟩;have l14:w12.length=l12.length-(1:Int).toNat :=(by rw[y12.out,List.length_drop]);rw[←y12.out]at b14;rw[←l14,←hA166,←g14]at a14;replace b14:Kd.Q (Kd.slice 3 (Kd.int .i64)) 22 P13 w.heap.size (fun k_=>some k_≠(.slice c13 C6.length d13:Value).ownBlock) (.slice c14 w12.length e14) w12:=(by rw[hA166,g14,l14];exact b14);have HE166:Aside0 ((Value.slice c14 w12.length e14).ownBlock =(.slice Y12 l12.length a13:Value).ownBlock):=⟨by rw[hA166];split <;> (cases (Y12:Option Addr) <;> rfl)⟩;clear l14 X13 Y13 X12 hA166 g14;have n14:=qa b14;clear b14;replace W13:=eq_true W13)|(refine gol (some 149) Tryz.func54 #[.agg #[.slice c13 C6.length d13,.slice c14 w12.length e14]] ?_;(with_reducible refine(impl_copyDesk.calls D11 _ _ C6 _ _ w12 A12 B12 _ ?M1 ?N1 ?P1 ?Q1 C12.out).mono ?_);(case M1=>refine(Kd.R_reads' (e:=3) (base:=w.heap.size) (ok:=fun k_=>True) (n:=C6.length) (c:=d13) ?_).2.2;exact(kFR b11 j13 (fun _ h_=>h_.1)));(case N1=>exact(Kd.R_reads' b11.out).2.1);(case P1=>refine(Kd.Q_reads' (e:=22) (base:=w.heap.size) (ok:=fun k_=>some k_≠(.slice c13 C6.length d13:Value).ownBlock) (n:=w12.length) (c:=e14) ?_).2.2;exact(kFQ n14 j13 (fun _ h_=>h_.1)));(case Q1=>exact(Kd.Q_reads' n14.out).2.1);rintro e p14 ⟨q14,r14,rfl,W1,X1,hb⟩;refine⟨_,rfl,?_⟩;have s14:=qa (Kd.R_lower (Kd.R_new' W1 (Kd.R_lt (kFR b11 j13 (fun _ h_=>h_.1)))) (below_size (bl)));have t14:=qa (Kd.S_lower (Kd.S_new' (Kd.S_new' X1 (Kd.R_lt (kFR b11 j13 (fun _ h_=>h_.1)))) (Kd.Q_lt (kFQ n14 j13 (fun _ h_=>h_.1)))) (below_size (bl)));replace b11:=qa (Kd.R_elder' (kFR b11 j13 (fun _ h_=>h_.1)) (Kd.R_base W1) hb);replace n14:=qa (Kd.Q_mono (Kd.Q_told (Kd.Q_told (Kd.Q_old (kFQ n14 j13 (fun _ h_=>h_.1)) hb) (Kd.R_base W1)) (Kd.S_base X1)) (fun _ h_=>h_.1));replace R0:=qbb R0 hb;replace Y0:=qbb Y0 hb;replace l1:=qbb l1 hb;replace d2:=qbb d2 hb;replace j13:=qa (blk_below (g:=e13) (o:= .cells #[.slice c13 C6.length d13,.slice c14 w12.length e14] 27 (0,0)) (kP j13) hb);replace HB:=bs hb;obtain⟨v14,w14,rfl⟩:=Kd.R_slice s14.out;have x14:=r1.out;have y14:=q1.out;have A14:=t1.out;have B14:=s1.out;obtain⟨C14,D14,E14,G14⟩:=qk2 l1;obtain⟨J14,K14,rfl⟩:=Kd.S_slice t14.out))
        refine bodyPost_ret (results_ct rfl _ _ e1 27 #[.slice v14 A12.length w14,.slice J14 B12.length K14] (0,0) _ rfl (kP l1) Tryz.underlying27 rfl kr_) rfl ?_;exact⟨_,_,er,kFR s14 l1 (fun _ hk=>trivial),Kd.Z_of_S (kFS t14 l1 (fun _ hk=>hk.1.1.1)),bl⟩
       ·rw[if_neg p12]at H;have q12:decide (8<(l12.length:Int))=false:=decide_eq_false p12;have r12:decide (8<l12.length)=false:=decide_eq_false ko_;clear p12;replace H:=qb H;obtain⟨⟨L14,M14⟩,N14,H⟩:=H;(try dsimp only at H);simp only[Option.some.injEq,Prod.mk.injEq]at H;obtain⟨rfl,rfl,rfl⟩:=H;have P14:=n2.out;have Q14:=l2.out;have R14:=q2.out;have U14:=p2.out;have V14:=s2.out;have W14:=r2.out;obtain⟨X14,Y14,a15,b15⟩:=qk2 d2;obtain⟨c15,d15,rfl⟩:=Kd.R_slice D5.out
        go_wp2_with(first|((with_reducible refine gate_builtin (b:= .append) (xs:=#[.tmp 134,.tmp 137]) rfl ?_);at_builtin;refine Kd.Q_append (Kd.slice 3 (Kd.int .i64)) (w0:=w) w.heap.size rfl (.tmp 134) (.tmp 137) 23 22 (.slice none 0 0) 24 rfl Tryz.underlying23 info22 rfl kd_ ko_ (.slice K2 L0.length L2) L0 E6 [.slice c15 E6.length d15] (fun k_=>some k_≠(u7:Value).ownBlock) (fun k_=>((fun k_=>some k_≠(u7:Value).ownBlock)) k_∧some k_≠(.slice K2 L0.length L2:Value).ownBlock) rfl rfl ?aP (fun _ hk=>hk) ?aF ?aO ?aB ?aS ?aL ?_;(case aP=>exact Kd.M_row (Kd.R_mono (Kd.R_apart' (D5.out) (Kd.Z_typed E5.out) kd_) (fun k_ hk=>⟨hk.1,hk.2⟩)));(case aB=>exact(bl));(case aF=>exact(fun k_ hk=>Kd.fresh' (Kd.R_lt (kR b11)) k_ hk));(case aO=>exact Kd.Z_Q (by(with_reducible repeat(first|apply Kd.Z_alloc|apply Kd.Z_drewN|apply Kd.Z_drew));exact Kd.Z_mono E5.out (fun _ hk=>hk.1)));(case aS=>exact(below_size (bl)));(case aL=>have:=j12.out;omega);intro V12 e15 ho hb hg hat;rw[←n12.out]at ho;replace b11:=qa (Kd.R_over' (kR b11) (Kd.Z_typed (kZ E5)) kd_ hg);replace R0:=qa (blk_grown (g:=P0) (o:= .cells #[.slice a0 c0.length b0,.slice d0 g0.length e0] 27 (0,0)) (bk) hg (Kd.Z_ne E5.out R0.out kd_));replace Y0:=qa (blk_grown (g:=W0) (o:= .cells #[.int .i64 l0,.int .i64 n0,.int .i64 p0] 55 (0,0)) (bk) hg (Kd.Z_ne E5.out Y0.out kd_));replace l1:=qa (blk_grown (g:=e1) (o:= .cells #[.slice none 0 0,.slice none 0 0] 27 (0,0)) (bk) hg (Kd.Z_ne E5.out l1.out kd_));replace d2:=qa (blk_grown (g:=b2) (o:= .cells #[.slice c15 E6.length d15,.slice K2 L0.length L2] 27 (0,0)) (bk) hg (Kd.Z_ne E5.out d2.out kd_));replace HB:=qa (hb);have X12:=qa (ho);clear E5 D5;clear ho hb hg hat;obtain⟨g15,j15,l15,_⟩:=Kd.Q_slice X12.out;subst l15;obtain⟨n15,p15,rfl⟩:=Kd.R_slice b11.out)|(refine bx 10 #[.slice none 0 0,.slice none 0 0] 27 ?_;intro e13 hg q15 hbox hb;replace b11:=qa (Kd.R_below (kR b11) hb);replace X12:=qa (Kd.Q_below (kQ X12) hb);have j13:=qa (hbox);have l13:=gw hg;have n13:=gw hg;replace HB:=bs hb;have p13:=qnl hg R0;have q13:=qng hg R0;replace R0:=qbb R0 hb;have r13:=qnl hg Y0;have s13:=qng hg Y0;replace Y0:=qbb Y0 hb;have t13:=qnl hg l1;have v13:=qng hg l1;replace l1:=qbb l1 hb;have w13:=qnl hg d2;have x13:=qng hg d2;replace d2:=qbb d2 hb;clear hb hbox hg;have r15:=q13.out;have s15:=p13.out;have t15:=s13.out;have v15:=r13.out;have w15:=v13.out;have x15:=t13.out;have y15:=x13.out;have A15:=w13.out;obtain⟨B15,C15,D15,E15⟩:=qk2 j13)|(refine gol (some 149) Tryz.func54 #[.agg #[.slice n15 C6.length p15,.slice g15 l12.length j15]] ?_;(with_reducible refine(impl_copyDesk.calls D11 _ _ C6 _ _ l12 L14 M14 _ ?M1 ?N1 ?P1 ?Q1 N14.out).mono ?_);(case M1=>refine(Kd.R_reads' (e:=3) (base:=w.heap.size) (ok:=fun k_=>some k_≠(.slice c15 E6.length d15:Value).ownBlock) (n:=C6.length) (c:=p15) ?_).2.2;exact(kFR b11 j13 (fun _ h_=>h_.1)));(case N1=>exact(Kd.R_reads' b11.out).2.1);(case P1=>refine(Kd.Q_reads' (e:=22) (base:=w.heap.size) (ok:=fun k_=>some k_≠(.slice n15 C6.length p15:Value).ownBlock) (n:=l12.length) (c:=j15) ?_).2.2;exact(kFQ X12 j13 (fun _ h_=>h_.1)));(case Q1=>exact(Kd.Q_reads' X12.out).2.1);rintro e G15 ⟨J15,K15,rfl,W1,X1,hb⟩;refine⟨_,rfl,?_⟩;have L15:=qa (Kd.R_lower (Kd.R_new' W1 (Kd.R_lt (kFR b11 j13 (fun _ h_=>h_.1)))) (below_size (bl)));have M15:=qa (Kd.S_lower (Kd.S_new' (Kd.S_new' X1 (Kd.R_lt (kFR b11 j13 (fun _ h_=>h_.1)))) (Kd.Q_lt (kFQ X12 j13 (fun _ h_=>h_.1)))) (below_size (bl)));replace b11:=qa (Kd.R_elder' (kFR b11 j13 (fun _ h_=>h_.1)) (Kd.R_base W1) hb);replace X12:=qa (Kd.Q_mono (Kd.Q_told (Kd.Q_told (Kd.Q_old (kFQ X12 j13 (fun _ h_=>h_.1)) hb) (Kd.R_base W1)) (Kd.S_base X1)) (fun _ h_=>h_.1));replace R0:=qbb R0 hb;replace Y0:=qbb Y0 hb;replace l1:=qbb l1 hb;replace d2:=qbb d2 hb;replace j13:=qa (blk_below (g:=e13) (o:= .cells #[.slice n15 C6.length p15,.slice g15 l12.length j15] 27 (0,0)) (kP j13) hb);replace HB:=bs hb;obtain⟨N15,P15,rfl⟩:=Kd.R_slice L15.out;have Q15:=r1.out;have R15:=q1.out;have U15:=t1.out;have V15:=s1.out;obtain⟨W15,X15,Y15,a16⟩:=qk2 l1;obtain⟨b16,c16,rfl⟩:=Kd.S_slice M15.out))
        refine bodyPost_ret (results_ct rfl _ _ e1 27 #[.slice N15 L14.length P15,.slice b16 M14.length c16] (0,0) _ rfl (kP l1) Tryz.underlying27 rfl kr_) rfl ?_;exact⟨_,_,er,kFR L15 l1 (fun _ hk=>trivial),Kd.Z_of_S (kFS M15 l1 (fun _ hk=>hk.1.1.1)),bl⟩
 ·simp only[Option.some.injEq,Prod.mk.injEq]at H;obtain⟨rfl,rfl,rfl⟩:=H
  go_enter Tryz.func53,Tryz.ntmps53
  go_wp2_with(first|(refine bx 2 #[.slice a0 c0.length b0,.slice d0 g0.length e0] 27 ?_;intro P0 hg d16 hbox hb;have R0:=qa (hbox);have U0:=gw hg;have V0:=gw hg;replace HB:=bs hb;clear hb hbox hg)|(refine bx 3 #[.int .i64 l0,.int .i64 n0,.int .i64 p0] 55 ?_;intro W0 hg e16 hbox hb;have Y0:=qa (hbox);have a1:=gw hg;have b1:=gw hg;replace HB:=bs hb;have c1:=qnl hg R0;have d1:=qng hg R0;replace R0:=qbb R0 hb;clear hb hbox hg)|(refine bx 4 #[.slice none 0 0,.slice none 0 0] 27 ?_;intro e1 hg g16 hbox hb;have l1:=qa (hbox);have n1:=gw hg;have p1:=gw hg;replace HB:=bs hb;have q1:=qnl hg R0;have r1:=qng hg R0;replace R0:=qbb R0 hb;have s1:=qnl hg Y0;have t1:=qng hg Y0;replace Y0:=qbb Y0 hb;clear hb hbox hg;have j16:=c1.out;have l16:=d1.out;have n16:=q1.out;have p16:=r1.out;obtain⟨q16,r16,s16,t16⟩:=qk2 R0)|(refine gb 12 Tryz.func37 (impl_DeskOk.calls k _ _ c0 _ _ g0 false _ (cx (Kd.C_below B0.out HB.out)) C0.out (cx (Kd.C_below D0.out HB.out)) E0.out J0.out) fun v16 hb=>?_;replace R0:=qbb R0 hb;replace Y0:=qbb Y0 hb;replace l1:=qbb l1 hb;replace HB:=bs hb;have w16:=t1.out;have x16:=s1.out;obtain⟨y16,A16,B16,C16⟩:=qk2 l1))
  refine bodyPost_ret (results_ct rfl _ _ e1 27 #[.slice none 0 0,.slice none 0 0] (0,0) _ rfl (kP l1) Tryz.underlying27 rfl kr_) rfl ?_;exact⟨_,_,er,z2_,Kd.Z_of_S z14_,bl⟩
-- GLOBAL
-- IMPORT Derived.Test.YtdmlkjjlgkdnlaaGreatDoorShelf
def strings_Cut.f (a0 b0:ByteArray):Option (ByteArray×ByteArray×Bool):=if a0.size<4294967281 then some (⟨(Lib.cut a0.data.toList b0.data.toList).1.toArray⟩,⟨(Lib.cut a0.data.toList b0.data.toList).2.1.toArray⟩,(Lib.cut a0.data.toList b0.data.toList).2.2)else none
theorem strings_Cut.calls (a0:ByteArray) (b0:ByteArray) (c0:ByteArray) (d0:ByteArray) (e0:Bool) (w:World) (h:strings_Cut.f a0 b0=some (c0,d0,e0)) (hG_:GL w):
  Calls Tryz.prog 75 #[.string a0,.string b0] w fun e w'=>e= .returned (.tuple #[.string c0,.string d0,.bool e0])∧Below w.heap.size w w':=by
 unfold strings_Cut.f at h
 by_cases h0:a0.size<4294967281
 ·rw[if_pos h0]at h;have h:=Option.some.inj h;obtain⟨m,hm⟩:=hG_.maxlen;refine(Tryz.strings_Cut a0 b0 m w h0 hm).mono ?_;rintro e w' ⟨rfl,n,rfl⟩;have g0:=congrArg (·.1) h;have j0:=congrArg (·.2.1) h;have l0:=congrArg (·.2.2) h;simp only at g0 j0 l0;rw[g0,j0,l0];exact⟨rfl,pw_below_drewN (Below.refl _ _) n⟩
 ·rw[if_neg h0]at h;cases h

-- IMPORT Derived.Test.YtdmlkjjlgkdnlaaGreatDoorShelf
def strings_Join.f (a0:List ByteArray) (b0:ByteArray):Option ByteArray:=if a0.length≤140737488355328∧(Lib.join (a0.map (·.data.toList)) b0.data.toList).length ≤140737488355328 then some ⟨(Lib.join (a0.map (·.data.toList)) b0.data.toList).toArray⟩else none
theorem strings_Join.calls (a0:Option Addr) (b0:Nat) (c0:List ByteArray) (d0:ByteArray) (r:ByteArray) (w:World) (e0:Kd.C Kd.string w a0 c0.length c0) (g0:c0.length≤b0) (h:strings_Join.f c0 d0=some r):
  Calls Tryz.prog 142 #[.slice a0 c0.length b0,.string d0] w fun e w'=>e= .returned (.string r)∧Below w.heap.size w w':=by
 unfold strings_Join.f at h
 by_cases h0:c0.length≤140737488355328∧(Lib.join (c0.map (·.data.toList)) d0.data.toList).length ≤140737488355328
 ·rw[if_pos h0]at h;obtain rfl:=Option.some.inj h
  cases c0 with
  |nil=>exact(Tryz.strings_Join_none a0 b0 d0 w).mono fun e w' ⟨he,hw⟩=>⟨he,hw▸Below.refl _ _⟩
  |cons x l=>
   obtain⟨_,_,hc⟩:=e0;obtain⟨⟨bk,o,s⟩,rfl,hcell⟩:=hc (by simp)
   have h1:w.cell? ⟨bk,o,s⟩=some (.string x):=by
    obtain⟨c,hs,hk,hi⟩:=hcell 0 x rfl;have hk:c=[.string x]:=hk;subst hk;have h2:=hi 0 _ rfl;simp only[Nat.zero_mul,Nat.add_zero]at h2;exact h2
   have hsn:s=none:=by
    cases s with
    |none=>rfl
    |some q=>
     unfold World.cell? at h1
     split at h1 <;> simp at h1
   subst hsn
   have hx:∀(j:Nat) p,(x::l)[j]? =some p→w.cell? ⟨bk,o+j,none⟩=some (.string p):=fun j p hj=>by
    obtain⟨c,hs,hk,hi⟩:=hcell j p hj;have hk:c=[.string p]:=hk;subst hk;have h2:=hi 0 _ rfl;rw[add_at,show j*Kd.string.sz+0=j from Nat.mul_one j]at h2;exact h2
   exact Tryz.strings_Join bk o b0 (x::l) d0 w hx (World.block_lt_of_cell? w _ h1) h0.1 g0 h0.2
 ·rw[if_neg h0]at h;cases h

def impl_rowText.l0:Nat→List ByteArray→List Int→Int→Int→Option (ByteArray)
 |0,_,_,_,_=>none
 |k+1,a0,b0,c0,d0=>if d0<c0 then(if 0≤d0 then(if d0<(b0.length:Int)then((strconv_Itoa.f (rd b0 d0)).bind fun e0=>(if a0.length<8796093022208 then(impl_rowText.l0 k (a0++[e0]) b0 c0 (wrap64 (d0+1)))else(none)))else(none))else(none))else((strings_Join.f a0 (⟨#[44]⟩:ByteArray)).bind fun g0=>(some g0))
def impl_rowText.f (k:Nat) (a0:List Int):Option (ByteArray):=impl_rowText.l0 k (([]:List ByteArray)) a0 (a0.length:Int) 0
theorem impl_rowText.calls (k:Nat) (a0:Option Addr) (b0:Nat) (c0:List Int) (r:ByteArray) (w:World) (d0:Kd.C (Kd.int .i64) w a0 c0.length c0) (e0:c0.length≤b0) (h:impl_rowText.f k c0=some r) (hG_:GL w):
  Calls Tryz.prog 102 #[.slice a0 c0.length b0] w fun e w'=>e= .returned (.string r)∧Below w.heap.size w w':=by
 have g0:=qa d0;have j0:=qa e0;clear d0 e0;have HB:=qa (Below.refl w.heap.size w);have H:=h;unfold impl_rowText.f at H;clear h;obtain⟨n0,hy_⟩:∃y_:List ByteArray,y_=(([]:List ByteArray)):=⟨_,rfl⟩;replace H:(impl_rowText.l0 k n0 c0 (c0.length:Int) 0)=some r:=yh;have p0:=qa hy_;clear hy_;have H':=qa H;clear H
 go_enter Tryz.func102,Tryz.ntmps102
 go_wp2_with(first|(refine rls 9 6 p0.out fun q0 r0 s0 hb=>?_;have t0:=qa (Kd.R_lower s0 (below_size (bl)));replace HB:=bs hb;clear hb s0))
 go_loopg [3,9] k (fun kq v0 w0 w'=>∃(x0:List ByteArray) (y0:Int),w0= .int .i64 y0∧Aside0 (impl_rowText.l0 kq x0 c0 (c0.length:Int) y0=some r)∧Aside0 (kq≤k)∧Aside0 (Kd.R Kd.string 9 w' w.heap.size (fun _=>True) v0 x0)∧Aside0 (Below w.heap.size w w'))
 case atStart=>exact⟨(n0),(0),(sd),H',⟨Nat.le_refl _⟩,⟨kR t0⟩,⟨bl⟩⟩
 case round=>
  clear H';obtain⟨x0,y0,rfl,HA,HK1,A0,HB⟩:=hrel;obtain⟨k1,rfl,H⟩:=kz gk HA;clear HA;simp only[impl_rowText.l0]at H;replace H:=qe H;obtain⟨B0,H⟩|⟨B0,H⟩:=H
  ·replace H:=qd H;obtain⟨C0,H⟩:=H;replace H:=qd H;obtain⟨D0,H⟩:=H;replace H:=qb H;obtain⟨E0,G0,H⟩:=H;replace H:=qn H;obtain⟨J0,H⟩:=H;have K0:=qa J0;clear J0;obtain⟨L0,hy_⟩:∃y_:List ByteArray,y_=(x0++[E0]):=⟨_,rfl⟩;replace H:(impl_rowText.l0 k1 L0 c0 (c0.length:Int) (wrap64 (y0+1)))=some r:=yh;have M0:=qa hy_;clear hy_;have H':=qa H;clear H;obtain⟨N0,⟨⟩,P0,Q0,R0⟩:=ai g0.out y0;(try replace P0:=(HB.out.cell (World.block_lt_of_cell? w _ P0)).trans P0)
   go_wp2_with(first|(refine gb 15 Tryz.func77 (strconv_Itoa.calls (rd c0 y0) E0 _ G0.out (GL_below hG_ (bl))) fun U0 hb=>?_;replace A0:=qa (Kd.R_below (kR A0) hb);replace HB:=bs hb)|((with_reducible refine gate_builtin (b:= .append) (xs:=#[.tmp 13,.tmp 16]) rfl ?_);at_builtin;refine Kd.R_append Kd.string (w0:=w) w.heap.size rfl (.tmp 13) (.tmp 16) 35 9 (.string ⟨#[]⟩) 16 rfl Tryz.underlying35 info9 rfl kd_ ko_ u3 x0 E0 [.string E0] (fun _=>True) (fun _=>False) rfl rfl ?aP (fun _ hk=>hk.elim) ?aF ?aO ?aB ?aS ?aL ?_;(case aP=>exact rfl);(case aB=>exact(bl));(case aF=>exact(fun _ _=>trivial));(case aO=>exact(kR A0));(case aS=>exact(below_size (bl)));(case aL=>have:=K0.out;omega);intro V0 W0 ho hb hg hat;rw[←M0.out]at ho;replace HB:=qa (hb);have X0:=qa (ho);clear A0;clear ho hb hg hat))
   go_roundg k1
   case measure=>have:=HK1.out;omega
   case rel=>exact⟨(L0),(wrap64 (y0+1)),(sd),H',⟨by have:=HK1.out;omega⟩,⟨kR X0⟩,⟨bl⟩⟩
  ·replace H:=qb H;obtain⟨Y0,a1,H⟩:=H;obtain rfl:=sj H;obtain⟨b1,c1,rfl⟩:=Kd.R_slice A0.out
   go_wp2_with(first|(refine gb 20 Tryz.func142 (strings_Join.calls _ _ x0 (⟨#[44]⟩:ByteArray) Y0 _ (cx (Kd.R_reads' A0.out).2.2) ((Kd.R_reads' A0.out).2.1) a1.out) fun d1 hb=>?_;replace A0:=qa (Kd.R_below (kR A0) hb);replace HB:=bs hb))
   go_ret;exact⟨er,bl⟩

def impl_yes.f (a0:Bool):Option (ByteArray):=if a0=true then(some (⟨#[121,101,115]⟩:ByteArray))else(some (⟨#[110,111]⟩:ByteArray))
theorem impl_yes.calls (a0:Bool) (r:ByteArray) (w:World) (h:impl_yes.f a0=some r):
  Calls Tryz.prog 103 #[.bool a0] w fun e w'=>e= .returned (.string r)∧Drawn0 w w':=by
 have H:=h;unfold impl_yes.f at H;clear h;replace H:=qc H;obtain⟨rfl,H⟩|⟨rfl,H⟩:=H
 ·obtain rfl:=sj H
  go_enter Tryz.func103,Tryz.ntmps103
  go_wp2;go_ret;exact⟨sd,dr⟩
 ·obtain rfl:=sj H
  go_enter Tryz.func103,Tryz.ntmps103
  go_wp2;go_ret;exact⟨sd,dr⟩

mutual
def impl_productsOk.l0:Nat→List Int→Bool→Int→Option (Bool)
 |0,_,_,_=>none
 |k+1,a0,b0,c0=>if c0≤24 then(impl_productsOk.l1 k a0 b0 c0 1)else(if 0<(a0.length:Int)then(some ((rd a0 0)==1))else(none))
def impl_productsOk.l1:Nat→List Int→Bool→Int→Int→Option (Bool)
 |0,_,_,_,_=>none
 |k+1,a0,b0,c0,d0=>if(wrap64 (c0*d0))≤24 then(if b0=true then(if 0≤(wrap64 ((wrap64 (c0*d0))-1))then(if(wrap64 ((wrap64 (c0*d0))-1))<(a0.length:Int)then(if 0≤(wrap64 (c0-1))then(if(wrap64 (c0-1))<(a0.length:Int)then(if 0≤(wrap64 (d0-1))then(if(wrap64 (d0-1))<(a0.length:Int)then(if(rd a0 (wrap64 ((wrap64 (c0*d0))-1)))=(wrap64 ((rd a0 (wrap64 (c0-1)))*(rd a0 (wrap64 (d0-1)))))then(impl_productsOk.l1 k a0 b0 c0 (wrap64 (d0+1)))else(some false))else(none))else(none))else(none))else(none))else(none))else(none))else((impl_gcd.f k c0 d0).bind fun e0=>(if e0=1 then(if 0≤(wrap64 ((wrap64 (c0*d0))-1))then(if(wrap64 ((wrap64 (c0*d0))-1))<(a0.length:Int)then(if 0≤(wrap64 (c0-1))then(if(wrap64 (c0-1))<(a0.length:Int)then(if 0≤(wrap64 (d0-1))then(if(wrap64 (d0-1))<(a0.length:Int)then(if(rd a0 (wrap64 ((wrap64 (c0*d0))-1)))=(wrap64 ((rd a0 (wrap64 (c0-1)))*(rd a0 (wrap64 (d0-1)))))then(impl_productsOk.l1 k a0 b0 c0 (wrap64 (d0+1)))else(some false))else(none))else(none))else(none))else(none))else(none))else(none))else(impl_productsOk.l1 k a0 b0 c0 (wrap64 (d0+1))))))else(impl_productsOk.l0 k a0 b0 (wrap64 (c0+1)))
end

def impl_productsOk.f (k:Nat) (a0:List Int) (b0:Bool):Option (Bool):=impl_productsOk.l0 k a0 b0 1
theorem impl_productsOk.calls (k:Nat) (a0:Option Addr) (b0:Nat) (c0:List Int) (d0:Bool) (r:Bool) (w:World) (e0:Kd.C (Kd.int .i64) w a0 c0.length c0) (g0:c0.length≤b0) (h:impl_productsOk.f k c0 d0=some r):
  Calls Tryz.prog 143 #[.slice a0 c0.length b0,.bool d0] w fun e w'=>e= .returned (.bool r)∧Drawn0 w w':=by
 have j0:=qa e0;have n0:=qa g0;clear e0 g0;have H:=h;unfold impl_productsOk.f at H;clear h;have H':=qa H;clear H
 go_enter Tryz.func143,Tryz.ntmps143
 go_wp2
 repeat(go_quiet(fail);try go_wp2)
 go_loopg [5] k (fun kq p0 w'=>∃(q0:Int),p0= .int .i64 q0∧Aside0 (impl_productsOk.l0 kq c0 d0 q0=some r)∧Aside0 (kq≤k)∧Drawn0 w w')
 case atStart=>exact⟨(1),(sd),H',⟨Nat.le_refl _⟩,dr⟩
 case round=>
  clear H';obtain⟨q0,rfl,HA,HK1,⟨m1,rfl⟩⟩:=hrel;obtain⟨k1,rfl,H⟩:=kz gk HA;clear HA;simp only[impl_productsOk.l0]at H;replace H:=qe H;obtain⟨r0,H⟩|⟨r0,H⟩:=H
  ·have H':=qa H;clear H;go_wp2
   repeat(go_quiet(fail);try go_wp2)
   go_loopg [6] k1 (fun kq s0 w'=>∃(t0:Int),s0= .int .i64 t0∧Aside0 (impl_productsOk.l1 kq c0 d0 q0 t0=some r)∧Aside0 (kq≤k1)∧Drawn0 w w')
   case atStart=>exact⟨(1),(sd),H',⟨Nat.le_refl _⟩,dr⟩
   case round=>
    clear H';obtain⟨t0,rfl,HA,HK2,⟨m2,rfl⟩⟩:=hrel;obtain⟨k2,rfl,H⟩:=kz gk HA;clear HA;simp only[impl_productsOk.l1]at H;replace H:=qe H;obtain⟨v0,H⟩|⟨v0,H⟩:=H
    ·replace H:=qc H;obtain⟨rfl,H⟩|⟨rfl,H⟩:=H
     ·obtain⟨w0,x0⟩:∃j_:Int,(wrap64 ((wrap64 (q0*t0))-1))=j_:=⟨_,rfl⟩;(first|rw[x0]at H|(try simp only[x0]at H));have y0:(IntKind.i64.wrap ((wrap64 (q0*t0))-1))=w0:=(i64_w _).trans x0;have A0:(IntKind.i64.wrap ((IntKind.i64.wrap (q0*t0))-1))=w0:=(congrArg (fun z_=>IntKind.i64.wrap (z_-1)) (i64_w _)).trans y0;replace H:=qd H;obtain⟨B0,H⟩:=H;replace H:=qd H;obtain⟨C0,H⟩:=H;obtain⟨D0,E0⟩:∃j_:Int,(wrap64 (q0-1))=j_:=⟨_,rfl⟩;(first|rw[E0]at H|(try simp only[E0]at H));have G0:(IntKind.i64.wrap (q0-1))=D0:=(i64_w _).trans E0;replace H:=qd H;obtain⟨J0,H⟩:=H;replace H:=qd H;obtain⟨K0,H⟩:=H;obtain⟨L0,M0⟩:∃j_:Int,(wrap64 (t0-1))=j_:=⟨_,rfl⟩;(first|rw[M0]at H|(try simp only[M0]at H));have N0:(IntKind.i64.wrap (t0-1))=L0:=(i64_w _).trans M0;replace H:=qd H;obtain⟨P0,H⟩:=H;replace H:=qd H;obtain⟨Q0,H⟩:=H;replace H:=qq H;obtain⟨R0,U0,H⟩|⟨V0,R0,U0,H⟩:=H
      ·(try(have c15b0v:=R0;have c15b1v:=U0;simp only[←i64_w]at c15b0v c15b1v));have H':=qa H;clear H;obtain⟨W0,⟨⟩,X0,Y0,a1⟩:=ai j0.out (w0);obtain⟨b1,c1,d1⟩:=aj j0.out (D0);obtain⟨e1,g1,j1⟩:=aj j0.out (L0);go_wp2
       repeat(go_quiet(fail);try go_wp2)
       go_roundg k2
       case measure=>have:=HK1.out;have:=HK2.out;omega
       case rel=>exact⟨(wrap64 (t0+1)),(sd),H',⟨by have:=HK1.out;have:=HK2.out;omega⟩,dr⟩
      ·(try(have c15b0v:=R0;have c15b1v:=U0;simp only[←i64_w]at c15b0v c15b1v));obtain rfl:=sj H;obtain⟨W0,⟨⟩,X0,Y0,a1⟩:=ai j0.out (w0);obtain⟨b1,c1,d1⟩:=aj j0.out (D0);obtain⟨e1,g1,j1⟩:=aj j0.out (L0);go_wp2
       repeat(go_quiet(fail);try go_wp2)
       go_ret;exact⟨by first|rfl|(simp;done)|(simp only[←x0,←E0,←M0] <;> (first|rfl|simp))|(simp[*];done),dr⟩
     ·replace H:=qb H;obtain⟨n1,p1,H⟩:=H;replace H:=qq H;obtain⟨q1,r1,H⟩|⟨s1,q1,r1,H⟩:=H
      ·(try(have c17b0v:=q1;have c17b1v:=r1;simp only[←i64_w]at c17b0v c17b1v));obtain⟨t1,v1⟩:∃j_:Int,(wrap64 ((wrap64 (q0*t0))-1))=j_:=⟨_,rfl⟩;(first|rw[v1]at H|(try simp only[v1]at H));(try rw[v1]at p1);have w1:(IntKind.i64.wrap ((wrap64 (q0*t0))-1))=t1:=(i64_w _).trans v1;have x1:(IntKind.i64.wrap ((IntKind.i64.wrap (q0*t0))-1))=t1:=(congrArg (fun z_=>IntKind.i64.wrap (z_-1)) (i64_w _)).trans w1;replace H:=qd H;obtain⟨y1,H⟩:=H;replace H:=qd H;obtain⟨A1,H⟩:=H;obtain⟨B1,C1⟩:∃j_:Int,(wrap64 (q0-1))=j_:=⟨_,rfl⟩;(first|rw[C1]at H|(try simp only[C1]at H));(try rw[C1]at p1);have D1:(IntKind.i64.wrap (q0-1))=B1:=(i64_w _).trans C1;replace H:=qd H;obtain⟨E1,H⟩:=H;replace H:=qd H;obtain⟨G1,H⟩:=H;obtain⟨J1,K1⟩:∃j_:Int,(wrap64 (t0-1))=j_:=⟨_,rfl⟩;(first|rw[K1]at H|(try simp only[K1]at H));(try rw[K1]at p1);have L1:(IntKind.i64.wrap (t0-1))=J1:=(i64_w _).trans K1;replace H:=qd H;obtain⟨M1,H⟩:=H;replace H:=qd H;obtain⟨N1,H⟩:=H;replace H:=qq H;obtain⟨P1,Q1,H⟩|⟨R1,P1,Q1,H⟩:=H
       ·(try(have c27b0v:=P1;have c27b1v:=Q1;simp only[←i64_w]at c27b0v c27b1v));have H':=qa H;clear H
        go_wp2_with(first|(go_at_call 163;(with_reducible refine gm (impl_gcd.calls k2 q0 t0 n1 _ p1.out) fun nd=>?_);(try exact dn);obtain⟨U1,⟨⟩,V1,W1,X1⟩:=ai j0.out (t1);obtain⟨Y1,a2,b2⟩:=aj j0.out (B1);obtain⟨c2,d2,e2⟩:=aj j0.out (J1)))
        repeat(go_quiet(first|(go_at_call 163;(with_reducible refine gm (impl_gcd.calls k2 q0 t0 n1 _ p1.out) fun nd=>?_);(try exact dn);obtain⟨U1,⟨⟩,V1,W1,X1⟩:=ai j0.out (t1);obtain⟨Y1,a2,b2⟩:=aj j0.out (B1);obtain⟨c2,d2,e2⟩:=aj j0.out (J1)));try go_wp2_with(first|(go_at_call 163;(with_reducible refine gm (impl_gcd.calls k2 q0 t0 n1 _ p1.out) fun nd=>?_);(try exact dn);obtain⟨U1,⟨⟩,V1,W1,X1⟩:=ai j0.out (t1);obtain⟨Y1,a2,b2⟩:=aj j0.out (B1);obtain⟨c2,d2,e2⟩:=aj j0.out (J1))))
        go_roundg k2
        case measure=>have:=HK1.out;have:=HK2.out;omega
        case rel=>exact⟨(wrap64 (t0+1)),(sd),H',⟨by have:=HK1.out;have:=HK2.out;omega⟩,dr⟩
       ·(try(have c27b0v:=P1;have c27b1v:=Q1;simp only[←i64_w]at c27b0v c27b1v));obtain rfl:=sj H
        go_wp2_with(first|(go_at_call 163;(with_reducible refine gm (impl_gcd.calls k2 q0 t0 n1 _ p1.out) fun nd=>?_);(try exact dn);obtain⟨U1,⟨⟩,V1,W1,X1⟩:=ai j0.out (t1);obtain⟨Y1,a2,b2⟩:=aj j0.out (B1);obtain⟨c2,d2,e2⟩:=aj j0.out (J1)))
        repeat(go_quiet(first|(go_at_call 163;(with_reducible refine gm (impl_gcd.calls k2 q0 t0 n1 _ p1.out) fun nd=>?_);(try exact dn);obtain⟨U1,⟨⟩,V1,W1,X1⟩:=ai j0.out (t1);obtain⟨Y1,a2,b2⟩:=aj j0.out (B1);obtain⟨c2,d2,e2⟩:=aj j0.out (J1)));try go_wp2_with(first|(go_at_call 163;(with_reducible refine gm (impl_gcd.calls k2 q0 t0 n1 _ p1.out) fun nd=>?_);(try exact dn);obtain⟨U1,⟨⟩,V1,W1,X1⟩:=ai j0.out (t1);obtain⟨Y1,a2,b2⟩:=aj j0.out (B1);obtain⟨c2,d2,e2⟩:=aj j0.out (J1))))
        go_ret;exact⟨by first|rfl|(simp;done)|(simp only[←v1,←C1,←K1] <;> (first|rfl|simp))|(simp[*];done),dr⟩
      ·(try(have c17b0v:=q1;have c17b1v:=r1;simp only[←i64_w]at c17b0v c17b1v));have H':=qa H;clear H
       go_wp2_with(first|(go_at_call 163;(with_reducible refine gm (impl_gcd.calls k2 q0 t0 n1 _ p1.out) fun nd=>?_);(try exact dn)))
       repeat(go_quiet(first|(go_at_call 163;(with_reducible refine gm (impl_gcd.calls k2 q0 t0 n1 _ p1.out) fun nd=>?_);(try exact dn)));try go_wp2_with(first|(go_at_call 163;(with_reducible refine gm (impl_gcd.calls k2 q0 t0 n1 _ p1.out) fun nd=>?_);(try exact dn))))
       go_roundg k2
       case measure=>have:=HK1.out;have:=HK2.out;omega
       case rel=>exact⟨(wrap64 (t0+1)),(sd),H',⟨by have:=HK1.out;have:=HK2.out;omega⟩,dr⟩
    ·have H':=qa H;clear H;go_wp2
     repeat(go_quiet(fail);try go_wp2)
     go_roundg k2
     case measure=>have:=HK1.out;have:=HK2.out;omega
     case rel=>exact⟨(wrap64 (q0+1)),(sd),H',⟨by have:=HK1.out;have:=HK2.out;omega⟩,dr⟩
  ·by_cases g2:0<(c0.length:Int)
   ·rw[if_pos g2]at H;have j2:decide (0<(c0.length:Int))=true:=decide_eq_true g2;have l2:decide (0<c0.length)=true:=decide_eq_true ko_;clear g2;obtain rfl:=sj H;obtain⟨n2,⟨⟩,p2,qi349,q2,r2⟩:=ain 0 j0.out 0;(try rw[Addr.add_zero']at p2);go_wp2
    repeat(go_quiet(fail);try go_wp2)
    go_ret;exact⟨sd,dr⟩
   ·rw[if_neg g2]at H;exact absurd H (by simp)

def impl_MultiplicativeOk.f (k:Nat) (a0:List Int):Option (Bool):=(impl_RowOk.f k a0).bind fun b0=>(if b0=true then((impl_productsOk.f k a0 false).bind fun c0=>(some c0))else(some false))
theorem impl_MultiplicativeOk.calls (k:Nat) (a0:Option Addr) (b0:Nat) (c0:List Int) (r:Bool) (w:World) (d0:Kd.C (Kd.int .i64) w a0 c0.length c0) (e0:c0.length≤b0) (h:impl_MultiplicativeOk.f k c0=some r):
  Calls Tryz.prog 104 #[.slice a0 c0.length b0] w fun e w'=>e= .returned (.bool r)∧Drawn0 w w':=by
 have g0:=qa d0;have j0:=qa e0;clear d0 e0;have H:=h;unfold impl_MultiplicativeOk.f at H;clear h;replace H:=qb H;obtain⟨l0,n0,H⟩:=H;replace H:=qc H;obtain⟨rfl,H⟩|⟨rfl,H⟩:=H
 ·replace H:=qb H;obtain⟨p0,q0,H⟩:=H;obtain rfl:=sj H
  go_enter Tryz.func104,Tryz.ntmps104
  go_wp2_with(first|(refine gd 4 Tryz.func78 (impl_RowOk.calls k _ _ c0 true _ (cx g0.out) j0.out n0.out) fun nd=>?_)|(go_at_call 143;(with_reducible refine(impl_productsOk.calls k _ _ c0 false p0 _ ?r0 ?s0 q0.out).mono ?_);(case r0=>exact cx g0.out);(case s0=>exact j0.out);rintro e w' ⟨rfl,⟨nd,rfl⟩⟩))
  go_ret;exact⟨sd,dr⟩
 ·obtain rfl:=sj H
  go_enter Tryz.func104,Tryz.ntmps104
  go_wp2_with(first|(refine gd 4 Tryz.func78 (impl_RowOk.calls k _ _ c0 false _ (cx g0.out) j0.out n0.out) fun nd=>?_))
  go_ret;exact⟨sd,dr⟩

def impl_FullyOk.f (k:Nat) (a0:List Int):Option (Bool):=(impl_RowOk.f k a0).bind fun b0=>(if b0=true then((impl_productsOk.f k a0 true).bind fun c0=>(some c0))else(some false))
theorem impl_FullyOk.calls (k:Nat) (a0:Option Addr) (b0:Nat) (c0:List Int) (r:Bool) (w:World) (d0:Kd.C (Kd.int .i64) w a0 c0.length c0) (e0:c0.length≤b0) (h:impl_FullyOk.f k c0=some r):
  Calls Tryz.prog 105 #[.slice a0 c0.length b0] w fun e w'=>e= .returned (.bool r)∧Drawn0 w w':=by
 have g0:=qa d0;have j0:=qa e0;clear d0 e0;have H:=h;unfold impl_FullyOk.f at H;clear h;replace H:=qb H;obtain⟨l0,n0,H⟩:=H;replace H:=qc H;obtain⟨rfl,H⟩|⟨rfl,H⟩:=H
 ·replace H:=qb H;obtain⟨p0,q0,H⟩:=H;obtain rfl:=sj H
  go_enter Tryz.func105,Tryz.ntmps105
  go_wp2_with(first|(refine gd 4 Tryz.func78 (impl_RowOk.calls k _ _ c0 true _ (cx g0.out) j0.out n0.out) fun nd=>?_)|(go_at_call 143;(with_reducible refine(impl_productsOk.calls k _ _ c0 true p0 _ ?r0 ?s0 q0.out).mono ?_);(case r0=>exact cx g0.out);(case s0=>exact j0.out);rintro e w' ⟨rfl,⟨nd,rfl⟩⟩))
  go_ret;exact⟨sd,dr⟩
 ·obtain rfl:=sj H
  go_enter Tryz.func105,Tryz.ntmps105
  go_wp2_with(first|(refine gd 4 Tryz.func78 (impl_RowOk.calls k _ _ c0 false _ (cx g0.out) j0.out n0.out) fun nd=>?_))
  go_ret;exact⟨sd,dr⟩

def slices_Contains_string_string.f (k:Nat) (a0:List ByteArray) (b0:ByteArray):Option (Bool):=(slices_Index_string_string.f k a0 b0).bind fun c0=>(some (decide (c0≥0)))
theorem slices_Contains_string_string.calls (k:Nat) (a0:Option Addr) (b0:Nat) (c0:List ByteArray) (d0:ByteArray) (r:Bool) (w:World) (e0:Kd.C Kd.string w a0 c0.length c0) (g0:c0.length≤b0) (h:slices_Contains_string_string.f k c0 d0=some r):
  Calls Tryz.prog 106 #[.slice a0 c0.length b0,.string d0] w fun e w'=>e= .returned (.bool r)∧Drawn0 w w':=by
 have j0:=qa e0;have l0:=qa g0;clear e0 g0;have H:=h;unfold slices_Contains_string_string.f at H;clear h;replace H:=qb H;obtain⟨n0,p0,H⟩:=H;obtain rfl:=sj H
 go_enter Tryz.func106,Tryz.ntmps106
 go_wp2_with(first|(refine gd 7 Tryz.func93 (slices_Index_string_string.calls k _ _ c0 d0 n0 _ (cx j0.out) l0.out p0.out) fun nd=>?_))
 go_ret;exact⟨sd,dr⟩

def impl_numberOk.f (a0:Int):Option (Bool):=if a0≥1 then(some (decide (a0≤10000)))else(some false)
theorem impl_numberOk.calls (a0:Int) (r:Bool) (w:World) (h:impl_numberOk.f a0=some r):
  Calls Tryz.prog 107 #[.int .i64 a0] w fun e w'=>e= .returned (.bool r)∧Drawn0 w w':=by
 have H:=h;unfold impl_numberOk.f at H;clear h;replace H:=qu H;obtain⟨b0,H⟩|⟨b0,H⟩:=H
 ·obtain rfl:=sj H
  go_enter Tryz.func107,Tryz.ntmps107
  go_wp2;go_ret;exact⟨sd,dr⟩
 ·obtain rfl:=sj H
  go_enter Tryz.func107,Tryz.ntmps107
  go_wp2;go_ret;exact⟨sd,dr⟩
def impl_FactorText.l0:Nat→List ByteArray→List (List Int)→Int→Int→Option (ByteArray)
 |0,_,_,_,_=>none
 |k+1,a0,b0,c0,d0=>if d0<c0 then(if 0≤d0 then(if d0<(b0.length:Int)then(if 0<((rd_L1 b0 d0).length :Int)then((strconv_Itoa.f (rd (rd_L1 b0 d0) 0)).bind fun e0=>(if 1<((rd_L1 b0 d0).length :Int)then(if(rd (rd_L1 b0 d0) 1)>1 then((strconv_Itoa.f (rd (rd_L1 b0 d0) 1)).bind fun g0=>(if 1+g0.size≤9223372036854775807 then(if e0.size+((⟨#[94]⟩:ByteArray)++g0).size ≤9223372036854775807 then(if a0.length<8796093022208 then(impl_FactorText.l0 k (a0++[e0++((⟨#[94]⟩:ByteArray)++g0)]) b0 c0 (wrap64 (d0+1)))else(none))else(none))else(none)))else(if a0.length<8796093022208 then(impl_FactorText.l0 k (a0++[e0]) b0 c0 (wrap64 (d0+1)))else(none)))else(none)))else(none))else(none))else(none))else((strings_Join.f a0 (⟨#[46]⟩:ByteArray)).bind fun j0=>(some j0))
def impl_FactorText.f (k:Nat) (a0:Int):Option (ByteArray):=(impl_numberOk.f a0).bind fun b0=>(if b0=true then(if a0=1 then(some (⟨#[49]⟩:ByteArray))else((impl_factors.f k a0).bind fun c0=>(impl_FactorText.l0 k (([]:List ByteArray)) c0 (c0.length:Int) 0)))else(some (⟨#[]⟩:ByteArray)))
theorem impl_FactorText.calls (k:Nat) (a0:Int) (r:ByteArray) (w:World) (h:impl_FactorText.f k a0=some r) (hG_:GL w):
  Calls Tryz.prog 108 #[.int .i64 a0] w fun e w'=>e= .returned (.string r)∧Below w.heap.size w w':=by
 have HB:=qa (Below.refl w.heap.size w);have H:=h;unfold impl_FactorText.f at H;clear h;replace H:=qb H;obtain⟨b0,c0,H⟩:=H;replace H:=qc H;obtain⟨rfl,H⟩|⟨rfl,H⟩:=H
 ·replace H:=qq H;obtain⟨d0,e0,H⟩|⟨g0,d0,e0,H⟩:=H
  ·obtain rfl:=sj H
   go_enter Tryz.func108,Tryz.ntmps108
   go_wp2_with(first|(refine gd 8 Tryz.func107 (impl_numberOk.calls a0 true _ c0.out) fun nd=>?_))
   go_ret;exact⟨er,bl⟩
  ·obtain⟨j0,n0⟩:∃y_:List ByteArray,y_=(([]:List ByteArray)):=⟨_,rfl⟩;(replace H:((impl_factors.f k a0).bind fun p0=>(impl_FactorText.l0 k j0 p0 (p0.length:Int) 0))=some r:=by first|(rw[n0];with_reducible exact H)|(have H2_:=(Option.bind_some _ _).symm.trans H;rw[n0];with_reducible exact H2_)|(have H2_:=(Option.bind_some _ _).symm.trans H;with_reducible exact H2_)|with_reducible exact H|(rw[n0];exact H)|exact H);have q0:=qa n0;clear n0;replace H:=qb H;obtain⟨p0,r0,H⟩:=H;have H':=qa H;clear H
   go_enter Tryz.func108,Tryz.ntmps108
   go_wp2_with(first|(refine gd 8 Tryz.func107 (impl_numberOk.calls a0 true _ c0.out) fun nd=>?_)|(refine rls 9 12 q0.out fun s0 t0 v0 hb=>?_;have w0:=qa (Kd.R_lower v0 (below_size (bl)));replace HB:=bs hb;clear hb v0)|(refine ge_ 14 Tryz.func138 (impl_factors.calls k a0 p0 _ r0.out) fun x0 y0 A0 hb=>?_;replace w0:=qa (Kd.R_below (kR w0) hb);have B0:=qa (Kd.S_lower A0 (below_size (bl)));replace HB:=bs hb;obtain⟨C0,D0,rfl⟩:=Kd.S_slice B0.out))
   go_loopg [3,16] k (fun kq E0 G0 w'=>∃(J0:List ByteArray) (K0:Int),G0= .int .i64 K0∧Aside0 (impl_FactorText.l0 kq J0 p0 (p0.length:Int) K0=some r)∧Aside0 (kq≤k)∧Aside0 (Kd.R Kd.string 9 w' w.heap.size (fun _=>True) E0 J0)∧Aside0 (Kd.S (Kd.slice 3 (Kd.int .i64)) 22 w' w.heap.size (fun _=>True) (.slice C0 p0.length D0) p0)∧Aside0 (Below w.heap.size w w'))
   case atStart=>exact⟨(j0),(0),(sd),H',⟨Nat.le_refl _⟩,⟨kR w0⟩,⟨kS B0⟩,⟨bl⟩⟩
   case round=>
    clear H';obtain⟨J0,K0,rfl,HA,HK1,L0,M0,HB⟩:=hrel;obtain⟨k1,rfl,H⟩:=kz gk HA;clear HA;simp only[impl_FactorText.l0]at H;replace H:=qe H;obtain⟨N0,H⟩|⟨N0,H⟩:=H
    ·replace H:=qd H;obtain⟨P0,H⟩:=H;replace H:=qd H;obtain⟨Q0,H⟩:=H;replace H:=qL 0 H;obtain⟨R0,U0,H⟩:=H;replace H:=qb H;obtain⟨V0,W0,H⟩:=H;replace H:=qL 1 H;obtain⟨X0,Y0,H⟩:=H;replace H:=qg H;obtain⟨a1,H⟩|⟨a1,H⟩:=H
     ·replace H:=qb H;obtain⟨b1,c1,H⟩:=H;replace H:=qN H;obtain⟨d1,e1,g1,j1,H⟩:=H;replace H:=qN H;obtain⟨l1,n1,p1,q1,H⟩:=H
      try(have c19bq:=q1;simp only[ByteArray.size_append,show(⟨#[94]⟩:ByteArray).size =1 from rfl]at c19bq)
      replace H:=qn H;obtain⟨r1,H⟩:=H;have s1:=qa r1;clear r1;obtain⟨t1,hy_⟩:∃y_:List ByteArray,y_=(J0++[V0++((⟨#[94]⟩:ByteArray)++b1)]):=⟨_,rfl⟩;replace H:(impl_FactorText.l0 k1 t1 p0 (p0.length:Int) (wrap64 (K0+1)))=some r:=yh;have v1:=qa hy_;clear hy_;have H':=qa H;clear H;obtain⟨w1,x1,y1,⟨⟩,A1,HL370_0,B1,C1,D1,E1⟩:=sg_L1 M0.out K0;obtain⟨G1,⟨⟩,J1,qi371,K1,L1⟩:=ain 0 z5_ 0;(try rw[Addr.add_zero']at J1)
      go_wp2_with(first|(refine gb 23 Tryz.func77 (strconv_Itoa.calls (rd (rd_L1 p0 K0) 0) V0 _ W0.out (GL_below hG_ (bl))) fun M1 hb=>?_;replace L0:=qa (Kd.R_below (kR L0) hb);replace M0:=qa (Kd.S_below (kS M0) hb);replace HL370_0:=qa (Kd.R_below z22_ hb);replace B1:=qa (Kd.C_below z5_ hb);replace HB:=bs hb;have N1:0≤(1:Int):=ko_;have P1:1<((rd_L1 p0 K0).length :Int):=qo;obtain⟨Q1,R1,U1⟩:=Kd.at_int z5_ 1 N1 P1;obtain rfl:G1=Q1:=(by injection R1);(try simp only[show(1:Int).toNat =1 from rfl,Nat.reduceMul,Nat.reduceEqDiff,Go.Addr.add,↓reduceIte]at U1);have qi373:(1<(rd_L1 p0 K0).length)=True:=eq_true ko_;(try rw[show((1:Int)).toNat =1 from rfl]at U1);replace N1:=eq_true N1;replace P1:=eq_true P1;have V1:0≤(1:Int):=ko_;have W1:1<((rd_L1 p0 K0).length :Int):=qo;obtain⟨X1,Y1,a2⟩:=Kd.at_int z5_ 1 V1 W1;obtain rfl:G1=X1:=(by injection Y1);(try simp only[show(1:Int).toNat =1 from rfl,Nat.reduceMul,Nat.reduceEqDiff,Go.Addr.add,↓reduceIte]at a2);have qi374:(1<(rd_L1 p0 K0).length)=True:=eq_true ko_;(try rw[show((1:Int)).toNat =1 from rfl]at a2);replace V1:=eq_true V1;replace W1:=eq_true W1)|(refine gb 32 Tryz.func77 (strconv_Itoa.calls (rd (rd_L1 p0 K0) 1) b1 _ c1.out (GL_below hG_ (bl))) fun b2 hb=>?_;replace L0:=qa (Kd.R_below (kR L0) hb);replace M0:=qa (Kd.S_below (kS M0) hb);replace HL370_0:=qa (Kd.R_below z22_ hb);replace B1:=qa (Kd.C_below z5_ hb);replace HB:=bs hb)|((with_reducible refine gate_builtin (b:= .append) (xs:=#[.tmp 35,.tmp 37]) rfl ?_);at_builtin;refine Kd.R_append Kd.string (w0:=w) w.heap.size rfl (.tmp 35) (.tmp 37) 35 9 (.string ⟨#[]⟩) 16 rfl Tryz.underlying35 info9 rfl kd_ ko_ u3 J0 (V0++((⟨#[94]⟩:ByteArray)++b1)) [.string (V0++((⟨#[94]⟩:ByteArray)++b1))] (fun _=>True) (fun _=>False) rfl rfl ?aP (fun _ hk=>hk.elim) ?aF ?aO ?aB ?aS ?aL ?_;(case aP=>exact rfl);(case aB=>exact(bl));(case aF=>exact(fun _ _=>trivial));(case aO=>exact(kR L0));(case aS=>exact(below_size (bl)));(case aL=>have:=s1.out;omega);intro c2 d2 ho hb hg hat;rw[←v1.out]at ho;replace M0:=qa (Kd.S_over' (kS M0) (Kd.R_typed (kR L0)) kd_ hg);replace HL370_0:=qa (Kd.R_over' z22_ (Kd.R_typed (kR L0)) kd_ hg);replace HB:=qa (hb);have e2:=qa (ho);clear L0;clear ho hb hg hat))
      go_roundg k1
      case measure=>have:=HK1.out;omega
      case rel=>exact⟨(t1),(wrap64 (K0+1)),(sd),H',⟨by have:=HK1.out;omega⟩,⟨kR e2⟩,⟨kS M0⟩,⟨bl⟩⟩
     ·replace H:=qn H;obtain⟨g2,H⟩:=H;have j2:=qa g2;clear g2;obtain⟨l2,hy_⟩:∃y_:List ByteArray,y_=(J0++[V0]):=⟨_,rfl⟩;replace H:(impl_FactorText.l0 k1 l2 p0 (p0.length:Int) (wrap64 (K0+1)))=some r:=yh;have n2:=qa hy_;clear hy_;have H':=qa H;clear H;obtain⟨w1,x1,y1,⟨⟩,A1,HL370_0,B1,C1,D1,E1⟩:=sg_L1 M0.out K0;obtain⟨G1,⟨⟩,J1,qi371,K1,L1⟩:=ain 0 z5_ 0;(try rw[Addr.add_zero']at J1)
      go_wp2_with(first|(refine gb 23 Tryz.func77 (strconv_Itoa.calls (rd (rd_L1 p0 K0) 0) V0 _ W0.out (GL_below hG_ (bl))) fun p2 hb=>?_;replace L0:=qa (Kd.R_below (kR L0) hb);replace M0:=qa (Kd.S_below (kS M0) hb);replace HL370_0:=qa (Kd.R_below z22_ hb);replace B1:=qa (Kd.C_below z5_ hb);replace HB:=bs hb;have N1:0≤(1:Int):=ko_;have P1:1<((rd_L1 p0 K0).length :Int):=qo;obtain⟨Q1,R1,U1⟩:=Kd.at_int z5_ 1 N1 P1;obtain rfl:G1=Q1:=(by injection R1);(try simp only[show(1:Int).toNat =1 from rfl,Nat.reduceMul,Nat.reduceEqDiff,Go.Addr.add,↓reduceIte]at U1);have qi373:(1<(rd_L1 p0 K0).length)=True:=eq_true ko_;(try rw[show((1:Int)).toNat =1 from rfl]at U1);replace N1:=eq_true N1;replace P1:=eq_true P1)|((with_reducible refine gate_builtin (b:= .append) (xs:=#[.tmp 35,.tmp 37]) rfl ?_);at_builtin;refine Kd.R_append Kd.string (w0:=w) w.heap.size rfl (.tmp 35) (.tmp 37) 35 9 (.string ⟨#[]⟩) 16 rfl Tryz.underlying35 info9 rfl kd_ ko_ u3 J0 V0 [.string V0] (fun _=>True) (fun _=>False) rfl rfl ?aP (fun _ hk=>hk.elim) ?aF ?aO ?aB ?aS ?aL ?_;(case aP=>exact rfl);(case aB=>exact(bl));(case aF=>exact(fun _ _=>trivial));(case aO=>exact(kR L0));(case aS=>exact(below_size (bl)));(case aL=>have:=j2.out;omega);intro q2 r2 ho hb hg hat;rw[←n2.out]at ho;replace M0:=qa (Kd.S_over' (kS M0) (Kd.R_typed (kR L0)) kd_ hg);replace HL370_0:=qa (Kd.R_over' z22_ (Kd.R_typed (kR L0)) kd_ hg);replace HB:=qa (hb);have s2:=qa (ho);clear L0;clear ho hb hg hat))
      go_roundg k1
      case measure=>have:=HK1.out;omega
      case rel=>exact⟨(l2),(wrap64 (K0+1)),(sd),H',⟨by have:=HK1.out;omega⟩,⟨kR s2⟩,⟨kS M0⟩,⟨bl⟩⟩
    ·replace H:=qb H;obtain⟨t2,v2,H⟩:=H;obtain rfl:=sj H;obtain⟨w2,x2,rfl⟩:=Kd.R_slice L0.out
     go_wp2_with(first|(refine gb 41 Tryz.func142 (strings_Join.calls _ _ J0 (⟨#[46]⟩:ByteArray) t2 _ (cx (Kd.R_reads' L0.out).2.2) ((Kd.R_reads' L0.out).2.1) v2.out) fun y2 hb=>?_;replace L0:=qa (Kd.R_below (kR L0) hb);replace M0:=qa (Kd.S_below (kS M0) hb);replace HB:=bs hb))
     go_ret;exact⟨er,bl⟩
 ·obtain rfl:=sj H
  go_enter Tryz.func108,Tryz.ntmps108
  go_wp2_with(first|(refine gd 8 Tryz.func107 (impl_numberOk.calls a0 false _ c0.out) fun nd=>?_))
  go_ret;exact⟨er,bl⟩

def slices_Index_int_int.l0:Nat→List Int→Int→Int→Int→Option (Int)
 |0,_,_,_,_=>none
 |k+1,a0,b0,c0,d0=>if d0<c0 then(if 0≤d0 then(if d0<(a0.length:Int)then(if b0=(rd a0 d0)then(some d0)else(slices_Index_int_int.l0 k a0 b0 c0 (wrap64 (d0+1))))else(none))else(none))else(some (-1))
def slices_Index_int_int.f (k:Nat) (a0:List Int) (b0:Int):Option (Int):=slices_Index_int_int.l0 k a0 b0 (a0.length:Int) 0
theorem slices_Index_int_int.calls (k:Nat) (a0:Option Addr) (b0:Nat) (c0:List Int) (d0:Int) (r:Int) (w:World) (e0:Kd.C (Kd.int .i64) w a0 c0.length c0) (g0:c0.length≤b0) (h:slices_Index_int_int.f k c0 d0=some r):
  Calls Tryz.prog 168 #[.slice a0 c0.length b0,.int .i64 d0] w fun e w'=>e= .returned (.int .i64 r)∧Drawn0 w w':=by
 have j0:=qa e0;have n0:=qa g0;clear e0 g0;have H:=h;unfold slices_Index_int_int.f at H;clear h;have H':=qa H;clear H
 go_enter Tryz.func168,Tryz.ntmps168
 go_wp2
 go_loopg [8] k (fun kq p0 w'=>∃(q0:Int),p0= .int .i64 q0∧Aside0 (slices_Index_int_int.l0 kq c0 d0 (c0.length:Int) q0=some r)∧Aside0 (kq≤k)∧Drawn0 w w')
 case atStart=>exact⟨(0),(sd),H',⟨Nat.le_refl _⟩,dr⟩
 case round=>
  clear H';obtain⟨q0,rfl,HA,HK1,⟨m1,rfl⟩⟩:=hrel;obtain⟨k1,rfl,H⟩:=kz gk HA;clear HA;simp only[slices_Index_int_int.l0]at H;replace H:=qe H;obtain⟨r0,H⟩|⟨r0,H⟩:=H
  ·replace H:=qd H;obtain⟨s0,H⟩:=H;replace H:=qd H;obtain⟨t0,H⟩:=H;replace H:=qq H;obtain⟨v0,w0,H⟩|⟨x0,v0,w0,H⟩:=H
   ·obtain rfl:=sj H;obtain⟨y0,⟨⟩,A0,B0,C0⟩:=ai j0.out q0;go_wp2;go_ret;exact⟨sd,dr⟩
   ·have H':=qa H;clear H;obtain⟨y0,⟨⟩,A0,B0,C0⟩:=ai j0.out q0;go_wp2
    go_roundg k1
    case measure=>have:=HK1.out;omega
    case rel=>exact⟨(wrap64 (q0+1)),(sd),H',⟨by have:=HK1.out;omega⟩,dr⟩
  ·obtain rfl:=sj H;go_wp2;go_ret;exact⟨sd,dr⟩

def slices_Contains_int_int.f (k:Nat) (a0:List Int) (b0:Int):Option (Bool):=(slices_Index_int_int.f k a0 b0).bind fun c0=>(some (decide (c0≥0)))
theorem slices_Contains_int_int.calls (k:Nat) (a0:Option Addr) (b0:Nat) (c0:List Int) (d0:Int) (r:Bool) (w:World) (e0:Kd.C (Kd.int .i64) w a0 c0.length c0) (g0:c0.length≤b0) (h:slices_Contains_int_int.f k c0 d0=some r):
  Calls Tryz.prog 145 #[.slice a0 c0.length b0,.int .i64 d0] w fun e w'=>e= .returned (.bool r)∧Drawn0 w w':=by
 have j0:=qa e0;have l0:=qa g0;clear e0 g0;have H:=h;unfold slices_Contains_int_int.f at H;clear h;replace H:=qb H;obtain⟨n0,p0,H⟩:=H;obtain rfl:=sj H
 go_enter Tryz.func145,Tryz.ntmps145
 go_wp2_with(first|(refine gd 7 Tryz.func168 (slices_Index_int_int.calls k _ _ c0 d0 n0 _ (cx j0.out) l0.out p0.out) fun nd=>?_))
 go_ret;exact⟨sd,dr⟩

def impl_ProperSum.f (k:Nat) (a0:Int):Option (Int):=(impl_numberOk.f a0).bind fun b0=>(if b0=true then((impl_divisors.f k a0).bind fun c0=>((impl_sum.f k c0).bind fun d0=>(some (wrap64 (d0-a0)))))else(some (-1)))
theorem impl_ProperSum.calls (k:Nat) (a0:Int) (r:Int) (w:World) (h:impl_ProperSum.f k a0=some r):
  Calls Tryz.prog 146 #[.int .i64 a0] w fun e w'=>e= .returned (.int .i64 r)∧Below w.heap.size w w':=by
 have HB:=qa (Below.refl w.heap.size w);have H:=h;unfold impl_ProperSum.f at H;clear h;replace H:=qb H;obtain⟨b0,c0,H⟩:=H;replace H:=qc H;obtain⟨rfl,H⟩|⟨rfl,H⟩:=H
 ·replace H:=qb H;obtain⟨d0,e0,H⟩:=H;replace H:=qb H;obtain⟨g0,j0,H⟩:=H;obtain rfl:=sj H
  go_enter Tryz.func146,Tryz.ntmps146
  go_wp2_with(first|(refine gd 4 Tryz.func107 (impl_numberOk.calls a0 true _ c0.out) fun nd=>?_)|(refine ge_ 7 Tryz.func109 (impl_divisors.calls k a0 d0 _ e0.out) fun l0 n0 p0 hb=>?_;have q0:=qa (Kd.R_lower p0 (below_size (bl)));replace HB:=bs hb;obtain⟨r0,s0,rfl⟩:=Kd.R_slice q0.out)|(refine gd 8 Tryz.func136 (impl_sum.calls k _ _ d0 g0 _ (cx (Kd.R_reads' q0.out).2.2) ((Kd.R_reads' q0.out).2.1) j0.out) fun nd=>?_))
  go_ret;exact⟨er,bl⟩
 ·obtain rfl:=sj H
  go_enter Tryz.func146,Tryz.ntmps146
  go_wp2_with(first|(refine gd 4 Tryz.func107 (impl_numberOk.calls a0 false _ c0.out) fun nd=>?_))
  go_ret;exact⟨er,bl⟩

def impl_WayFrom.l0:Nat→Int→List Int→Option (List Int)
 |0,_,_=>none
 |k+1,a0,b0=>(impl_numberOk.f a0).bind fun c0=>(if c0=true then(if(b0.length:Int)<30 then((slices_Contains_int_int.f k b0 a0).bind fun d0=>(if d0=true then(some b0)else(if b0.length<17592186044416 then((impl_ProperSum.f k a0).bind fun e0=>(impl_WayFrom.l0 k e0 (b0++[a0])))else(none))))else(some b0))else(some b0))
def impl_WayFrom.f (k:Nat) (a0:Int):Option (List Int):=(impl_numberOk.f a0).bind fun b0=>(if b0=true then(impl_WayFrom.l0 k a0 (([]:List Int)))else(some ([]:List Int)))
theorem impl_WayFrom.calls (k:Nat) (a0:Int) (r:List Int) (w:World) (h:impl_WayFrom.f k a0=some r):
  Calls Tryz.prog 110 #[.int .i64 a0] w fun e w'=>∃v0_:Value,e= .returned (v0_)∧Kd.R (Kd.int .i64) 3 w' w.heap.size (fun _=>True) v0_ r∧Below w.heap.size w w':=by
 have HB:=qa (Below.refl w.heap.size w);have H:=h;unfold impl_WayFrom.f at H;clear h;replace H:=qb H;obtain⟨b0,c0,H⟩:=H;replace H:=qc H;obtain⟨rfl,H⟩|⟨rfl,H⟩:=H
 ·obtain⟨d0,hy_⟩:∃y_:List Int,y_=(([]:List Int)):=⟨_,rfl⟩;replace H:(impl_WayFrom.l0 k a0 d0)=some r:=yh;have e0:=qa hy_;clear hy_;have H':=qa H;clear H
  go_enter Tryz.func110,Tryz.ntmps110
  go_wp2_with(first|(refine gd 5 Tryz.func107 (impl_numberOk.calls a0 true _ c0.out) fun nd=>?_)|(refine rli .i64 3 7 e0.out fun g0 j0 n0 hb=>?_;have p0:=qa (Kd.R_lower n0 (below_size (bl)));replace HB:=bs hb;clear hb n0))
  go_loopg [0,3] k (fun kq q0 r0 w'=>∃(s0:Int) (t0:List Int),q0= .int .i64 s0∧Aside0 (impl_WayFrom.l0 kq s0 t0=some r)∧Aside0 (kq≤k)∧Aside0 (Kd.R (Kd.int .i64) 3 w' w.heap.size (fun _=>True) r0 t0)∧Aside0 (Below w.heap.size w w'))
  case atStart=>exact⟨(a0),(d0),(sd),H',⟨Nat.le_refl _⟩,⟨kR p0⟩,⟨bl⟩⟩
  case round=>
   clear H';obtain⟨s0,t0,rfl,HA,HK1,v0,HB⟩:=hrel;obtain⟨k1,rfl,H⟩:=kz gk HA;clear HA;simp only[impl_WayFrom.l0]at H;replace H:=qb H;obtain⟨w0,x0,H⟩:=H;replace H:=qc H;obtain⟨rfl,H⟩|⟨rfl,H⟩:=H
   ·by_cases y0:(t0.length:Int)<30
    ·rw[if_pos y0]at H;have A0:decide ((t0.length:Int)<30)=true:=decide_eq_true y0;have B0:decide (t0.length<30)=true:=decide_eq_true ko_;clear y0;replace H:=qb H;obtain⟨C0,D0,H⟩:=H;replace H:=qc H;obtain⟨rfl,H⟩|⟨rfl,H⟩:=H
     ·obtain rfl:=sj H
      go_wp2_with(first|(refine gd 9 Tryz.func107 (impl_numberOk.calls s0 true _ x0.out) fun nd=>?_;obtain⟨E0,G0,rfl⟩:=Kd.R_slice v0.out)|(go_at_call 145;(with_reducible refine(slices_Contains_int_int.calls k1 _ _ t0 s0 true _ ?J0 ?K0 D0.out).mono ?_);(case J0=>exact cx (Kd.R_reads' v0.out).2.2);(case K0=>exact(Kd.R_reads' v0.out).2.1);rintro e w' ⟨rfl,⟨nd,rfl⟩⟩))
      go_ret;exact⟨_,er,kR v0,bl⟩
     ·replace H:=qn H;obtain⟨L0,H⟩:=H;have M0:=qa L0;clear L0;obtain⟨N0,hy_⟩:∃y_:List Int,y_=(t0++[s0]):=⟨_,rfl⟩;replace H:((impl_ProperSum.f k1 s0).bind fun P0=>(impl_WayFrom.l0 k1 P0 N0))=some r:=yh;have Q0:=qa hy_;clear hy_;replace H:=qb H;obtain⟨P0,R0,H⟩:=H;have H':=qa H;clear H
      go_wp2_with(first|(refine gd 9 Tryz.func107 (impl_numberOk.calls s0 true _ x0.out) fun nd=>?_;obtain⟨U0,V0,rfl⟩:=Kd.R_slice v0.out)|(go_at_call 145;(with_reducible refine(slices_Contains_int_int.calls k1 _ _ t0 s0 false _ ?J0 ?K0 D0.out).mono ?_);(case J0=>exact cx (Kd.R_reads' v0.out).2.2);(case K0=>exact(Kd.R_reads' v0.out).2.1);rintro e w' ⟨rfl,⟨nd,rfl⟩⟩)|((with_reducible refine gate_builtin (b:= .append) (xs:=#[.tmp 21,.tmp 23]) rfl ?_);(try(refine gate_guard (by rfl) ?_;dsimp only));at_builtin;refine Kd.R_append (Kd.int .i64) (w0:=w) w.heap.size rfl (.tmp 21) (.tmp 23) 22 3 (.int .i64 0) 8 rfl Tryz.underlying22 info3 rfl kd_ ko_ (.slice U0 t0.length V0) t0 s0 [.int .i64 s0] (fun _=>True) (fun _=>False) rfl rfl ?aP (fun _ hk=>hk.elim) ?aF ?aO ?aB ?aS ?aL ?_;(case aP=>exact rfl);(case aB=>exact(bl));(case aF=>exact(fun _ _=>trivial));(case aO=>exact(kR v0));(case aS=>exact(below_size (bl)));(case aL=>have:=M0.out;omega);intro W0 X0 ho hb hg hat;rw[←Q0.out]at ho;replace HB:=qa (hb);have Y0:=qa (ho);clear v0;clear ho hb hg hat)|(refine gb 26 Tryz.func146 (impl_ProperSum.calls k1 s0 P0 _ R0.out) fun a1 hb=>?_;replace Y0:=qa (Kd.R_below (kR Y0) hb);replace HB:=bs hb))
      go_roundg k1
      case measure=>have:=HK1.out;omega
      case rel=>exact⟨(P0),(N0),(sd),H',⟨by have:=HK1.out;omega⟩,⟨kR Y0⟩,⟨bl⟩⟩
    ·rw[if_neg y0]at H;have A0:decide ((t0.length:Int)<30)=false:=decide_eq_false y0;have B0:decide (t0.length<30)=false:=decide_eq_false ko_;clear y0;obtain rfl:=sj H
     go_wp2_with(first|(refine gd 9 Tryz.func107 (impl_numberOk.calls s0 true _ x0.out) fun nd=>?_;obtain⟨b1,c1,rfl⟩:=Kd.R_slice v0.out))
     go_ret;exact⟨_,er,kR v0,bl⟩
   ·obtain rfl:=sj H
    go_wp2_with(first|(refine gd 9 Tryz.func107 (impl_numberOk.calls s0 false _ x0.out) fun nd=>?_))
    go_ret;exact⟨_,er,kR v0,bl⟩
 ·obtain rfl:=sj H
  go_enter Tryz.func110,Tryz.ntmps110
  go_wp2_with(first|(refine gd 5 Tryz.func107 (impl_numberOk.calls a0 false _ c0.out) fun nd=>?_))
  go_ret;exact⟨_,er,z2_,bl⟩

mutual
def impl_AllSum.l0:Nat→Int→List (List Int)→Int→Int→Option (Int)
 |0,_,_,_,_=>none
 |k+1,a0,b0,c0,d0=>if d0<c0 then(if 0≤d0 then(if d0<(b0.length:Int)then(if 1<((rd_L1 b0 d0).length :Int)then(impl_AllSum.l1 k a0 (rd_L1 b0 d0) 1 b0 c0 d0 (rd (rd_L1 b0 d0) 1) 0)else(none))else(none))else(none))else(some a0)
def impl_AllSum.l1:Nat→Int→List Int→Int→List (List Int)→Int→Int→Int→Int→Option (Int)
 |0,_,_,_,_,_,_,_,_=>none
 |k+1,a0,e0,g0,b0,c0,d0,j0,n0=>if n0<j0 then(if 0<(e0.length:Int)then(impl_AllSum.l1 k a0 e0 (wrap64 ((wrap64 (g0*(rd e0 0)))+1)) b0 c0 d0 j0 (wrap64 (n0+1)))else(none))else(impl_AllSum.l0 k (wrap64 (a0*g0)) b0 c0 (wrap64 (d0+1)))
end

def impl_AllSum.f (k:Nat) (a0:Int):Option (Int):=(impl_numberOk.f a0).bind fun b0=>(if b0=true then((impl_factors.f k a0).bind fun c0=>(impl_AllSum.l0 k 1 c0 (c0.length:Int) 0))else(some (-1)))
theorem impl_AllSum.calls (k:Nat) (a0:Int) (r:Int) (w:World) (h:impl_AllSum.f k a0=some r):
  Calls Tryz.prog 111 #[.int .i64 a0] w fun e w'=>e= .returned (.int .i64 r)∧Below w.heap.size w w':=by
 have HB:=qa (Below.refl w.heap.size w);have H:=h;unfold impl_AllSum.f at H;clear h;replace H:=qb H;obtain⟨b0,c0,H⟩:=H;replace H:=qc H;obtain⟨rfl,H⟩|⟨rfl,H⟩:=H
 ·replace H:=qb H;obtain⟨d0,e0,H⟩:=H;have H':=qa H;clear H
  go_enter Tryz.func111,Tryz.ntmps111
  go_wp2_with(first|(refine gd 8 Tryz.func107 (impl_numberOk.calls a0 true _ c0.out) fun nd=>?_)|(refine ge_ 11 Tryz.func138 (impl_factors.calls k a0 d0 _ e0.out) fun g0 j0 n0 hb=>?_;have p0:=qa (Kd.S_lower n0 (below_size (bl)));replace HB:=bs hb;obtain⟨q0,r0,rfl⟩:=Kd.S_slice p0.out))
  go_loopg [3,13] k (fun kq s0 t0 w'=>∃(v0:Int) (w0:Int),s0= .int .i64 v0∧t0= .int .i64 w0∧Aside0 (impl_AllSum.l0 kq v0 d0 (d0.length:Int) w0=some r)∧Aside0 (kq≤k)∧Aside0 (Kd.S (Kd.slice 3 (Kd.int .i64)) 22 w' w.heap.size (fun _=>True) (.slice q0 d0.length r0) d0)∧Aside0 (Below w.heap.size w w'))
  case atStart=>exact⟨(1),(0),(sd),(sd),H',⟨Nat.le_refl _⟩,⟨kS p0⟩,⟨bl⟩⟩
  case round=>
   clear H';obtain⟨v0,w0,rfl,rfl,HA,HK1,x0,HB⟩:=hrel;obtain⟨k1,rfl,H⟩:=kz gk HA;clear HA;simp only[impl_AllSum.l0]at H;replace H:=qe H;obtain⟨y0,H⟩|⟨y0,H⟩:=H
   ·replace H:=qd H;obtain⟨A0,H⟩:=H;replace H:=qd H;obtain⟨B0,H⟩:=H;replace H:=qL 1 H;obtain⟨C0,D0,H⟩:=H;have H':=qa H;clear H;obtain⟨E0,G0,J0,⟨⟩,K0,HL403_0,L0,M0,N0,P0⟩:=sg_L1 x0.out w0;have Q0:0≤(1:Int):=ko_;have R0:1<((rd_L1 d0 w0).length :Int):=qo;obtain⟨U0,V0,W0⟩:=Kd.at_int z31_ 1 Q0 R0;cases V0;(try simp only[show(1:Int).toNat =1 from rfl,Nat.reduceMul,Nat.reduceEqDiff,Go.Addr.add,↓reduceIte]at W0);have qi404:(1<(rd_L1 d0 w0).length)=True:=eq_true ko_;(try rw[show((1:Int)).toNat =1 from rfl]at W0);replace Q0:=eq_true Q0;replace R0:=eq_true R0;go_wp2
    go_loopg [6,20] k1 (fun kq X0 Y0 w'=>∃(a1:Int) (b1:Int),X0= .int .i64 a1∧Y0= .int .i64 b1∧Aside0 (impl_AllSum.l1 kq v0 (rd_L1 d0 w0) a1 d0 (d0.length:Int) w0 (rd (rd_L1 d0 w0) 1) b1=some r)∧Aside0 (kq≤k1)∧Aside0 (Kd.S (Kd.slice 3 (Kd.int .i64)) 22 w' w.heap.size (fun _=>True) (.slice (some E0) d0.length r0) d0)∧Aside0 (Kd.C (Kd.int .i64) w' (some U0) (rd_L1 d0 w0).length (rd_L1 d0 w0))∧Aside0 (Below w.heap.size w w'))
    case atStart=>exact⟨(1),(0),(sd),(sd),H',⟨Nat.le_refl _⟩,⟨kS x0⟩,⟨z31_⟩,⟨bl⟩⟩
    case round=>
     clear H';obtain⟨a1,b1,rfl,rfl,HA,HK2,x0,L0,HB⟩:=hrel;obtain⟨k2,rfl,H⟩:=kz gk HA;clear HA;simp only[impl_AllSum.l1]at H;replace H:=qe H;obtain⟨c1,H⟩|⟨c1,H⟩:=H
     ·replace H:=qL 0 H;obtain⟨d1,e1,H⟩:=H;have H':=qa H;clear H;obtain⟨g1,qi405,j1,n1⟩:=ajn 0 L0.out 0;(try rw[Addr.add_zero']at g1);(try replace g1:=(HB.out.cell (World.block_lt_of_cell? w _ g1)).trans g1);go_wp2
      go_roundg k2
      case measure=>have:=HK1.out;have:=HK2.out;omega
      case rel=>exact⟨(wrap64 ((wrap64 (a1*(rd (rd_L1 d0 w0) 0)))+1)),(wrap64 (b1+1)),(sd),(sd),H',⟨by have:=HK1.out;have:=HK2.out;omega⟩,⟨kS x0⟩,⟨z31_⟩,⟨bl⟩⟩
     ·have H':=qa H;clear H;go_wp2
      go_roundg k2
      case measure=>have:=HK1.out;have:=HK2.out;omega
      case rel=>exact⟨(wrap64 (v0*a1)),(wrap64 (w0+1)),(sd),(sd),H',⟨by have:=HK1.out;have:=HK2.out;omega⟩,⟨kS x0⟩,⟨bl⟩⟩
   ·obtain rfl:=sj H;go_wp2;go_ret;exact⟨er,bl⟩
 ·obtain rfl:=sj H
  go_enter Tryz.func111,Tryz.ntmps111
  go_wp2_with(first|(refine gd 8 Tryz.func107 (impl_numberOk.calls a0 false _ c0.out) fun nd=>?_))
  go_ret;exact⟨er,bl⟩
def cmp_isNaN_int.f (a0:Int):Option (Bool):=some (a0 != a0)
theorem cmp_isNaN_int.calls (a0:Int) (r:Bool) (w:World) (h:cmp_isNaN_int.f a0=some r):
  Calls Tryz.prog 169 #[.int .i64 a0] w fun e w'=>e= .returned (.bool r)∧Drawn0 w w':=by
 have H:=h;unfold cmp_isNaN_int.f at H;clear h;obtain rfl:=sj H
 go_enter Tryz.func169,Tryz.ntmps169
 go_wp2;go_ret;exact⟨sd,dr⟩

def cmp_Compare_int.f (a0:Int) (b0:Int):Option (Int):=(cmp_isNaN_int.f a0).bind fun c0=>((cmp_isNaN_int.f b0).bind fun d0=>(if c0=true then(if d0=true then(some 0)else(some (-1)))else(if d0=true then(some 1)else(if a0<b0 then(some (-1))else(if a0>b0 then(some 1)else(some 0))))))
theorem cmp_Compare_int.calls (a0:Int) (b0:Int) (r:Int) (w:World) (h:cmp_Compare_int.f a0 b0=some r):
  Calls Tryz.prog 147 #[.int .i64 a0,.int .i64 b0] w fun e w'=>e= .returned (.int .i64 r)∧Drawn0 w w':=by
 have H:=h;unfold cmp_Compare_int.f at H;clear h;replace H:=qb H;obtain⟨c0,d0,H⟩:=H;replace H:=qb H;obtain⟨e0,g0,H⟩:=H;replace H:=qc H;obtain⟨rfl,H⟩|⟨rfl,H⟩:=H
 ·replace H:=qc H;obtain⟨rfl,H⟩|⟨rfl,H⟩:=H
  ·obtain rfl:=sj H
   go_enter Tryz.func147,Tryz.ntmps147
   go_wp2_with(first|(refine gd 8 Tryz.func169 (cmp_isNaN_int.calls a0 true _ d0.out) fun nd=>?_)|(refine gd 10 Tryz.func169 (cmp_isNaN_int.calls b0 true _ g0.out) fun nd=>?_))
   go_ret;exact⟨sd,dr⟩
  ·obtain rfl:=sj H
   go_enter Tryz.func147,Tryz.ntmps147
   go_wp2_with(first|(refine gd 8 Tryz.func169 (cmp_isNaN_int.calls a0 true _ d0.out) fun nd=>?_)|(refine gd 10 Tryz.func169 (cmp_isNaN_int.calls b0 false _ g0.out) fun nd=>?_))
   go_ret;exact⟨sd,dr⟩
 ·replace H:=qc H;obtain⟨rfl,H⟩|⟨rfl,H⟩:=H
  ·obtain rfl:=sj H
   go_enter Tryz.func147,Tryz.ntmps147
   go_wp2_with(first|(refine gd 8 Tryz.func169 (cmp_isNaN_int.calls a0 false _ d0.out) fun nd=>?_)|(refine gd 10 Tryz.func169 (cmp_isNaN_int.calls b0 true _ g0.out) fun nd=>?_))
   go_ret;exact⟨sd,dr⟩
  ·replace H:=qe H;obtain⟨j0,H⟩|⟨j0,H⟩:=H
   ·obtain rfl:=sj H
    go_enter Tryz.func147,Tryz.ntmps147
    go_wp2_with(first|(refine gd 8 Tryz.func169 (cmp_isNaN_int.calls a0 false _ d0.out) fun nd=>?_)|(refine gd 10 Tryz.func169 (cmp_isNaN_int.calls b0 false _ g0.out) fun nd=>?_))
    go_ret;exact⟨sd,dr⟩
   ·replace H:=qg H;obtain⟨l0,H⟩|⟨l0,H⟩:=H
    ·obtain rfl:=sj H
     go_enter Tryz.func147,Tryz.ntmps147
     go_wp2_with(first|(refine gd 8 Tryz.func169 (cmp_isNaN_int.calls a0 false _ d0.out) fun nd=>?_)|(refine gd 10 Tryz.func169 (cmp_isNaN_int.calls b0 false _ g0.out) fun nd=>?_))
     go_ret;exact⟨sd,dr⟩
    ·obtain rfl:=sj H
     go_enter Tryz.func147,Tryz.ntmps147
     go_wp2_with(first|(refine gd 8 Tryz.func169 (cmp_isNaN_int.calls a0 false _ d0.out) fun nd=>?_)|(refine gd 10 Tryz.func169 (cmp_isNaN_int.calls b0 false _ g0.out) fun nd=>?_))
     go_ret;exact⟨sd,dr⟩

def impl_KindOf.f (k:Nat) (a0:Int):Option (Int):=(impl_numberOk.f a0).bind fun b0=>(if b0=true then((impl_ProperSum.f k a0).bind fun c0=>((cmp_Compare_int.f c0 a0).bind fun d0=>(some d0)))else(some (-2)))
theorem impl_KindOf.calls (k:Nat) (a0:Int) (r:Int) (w:World) (h:impl_KindOf.f k a0=some r):
  Calls Tryz.prog 112 #[.int .i64 a0] w fun e w'=>e= .returned (.int .i64 r)∧Below w.heap.size w w':=by
 have HB:=qa (Below.refl w.heap.size w);have H:=h;unfold impl_KindOf.f at H;clear h;replace H:=qb H;obtain⟨b0,c0,H⟩:=H;replace H:=qc H;obtain⟨rfl,H⟩|⟨rfl,H⟩:=H
 ·replace H:=qb H;obtain⟨d0,e0,H⟩:=H;replace H:=qb H;obtain⟨g0,j0,H⟩:=H;obtain rfl:=sj H
  go_enter Tryz.func112,Tryz.ntmps112
  go_wp2_with(first|(refine gd 4 Tryz.func107 (impl_numberOk.calls a0 true _ c0.out) fun nd=>?_)|(refine gb 7 Tryz.func146 (impl_ProperSum.calls k a0 d0 _ e0.out) fun l0 hb=>?_;replace HB:=bs hb)|(refine gd 9 Tryz.func147 (cmp_Compare_int.calls d0 a0 g0 _ j0.out) fun nd=>?_))
  go_ret;exact⟨er,bl⟩
 ·obtain rfl:=sj H
  go_enter Tryz.func112,Tryz.ntmps112
  go_wp2_with(first|(refine gd 4 Tryz.func107 (impl_numberOk.calls a0 false _ c0.out) fun nd=>?_))
  go_ret;exact⟨er,bl⟩

def impl_leavesSign.f (a0:Int):Option (Int):=if(Int.tmod a0 4)=1 then(some 1)else(if(Int.tmod a0 4)=3 then(some (-1))else(some 0))
theorem impl_leavesSign.calls (a0:Int) (r:Int) (w:World) (h:impl_leavesSign.f a0=some r):
  Calls Tryz.prog 148 #[.int .i64 a0] w fun e w'=>e= .returned (.int .i64 r)∧Drawn0 w w':=by
 have H:=h;unfold impl_leavesSign.f at H;clear h;replace H:=qq H;obtain⟨b0,c0,H⟩|⟨d0,b0,c0,H⟩:=H
 ·obtain rfl:=sj H
  go_enter Tryz.func148,Tryz.ntmps148
  go_wp2;go_ret;exact⟨sd,dr⟩
 ·replace H:=qq H;obtain⟨e0,g0,H⟩|⟨j0,e0,g0,H⟩:=H
  ·obtain rfl:=sj H
   go_enter Tryz.func148,Tryz.ntmps148
   go_wp2;go_ret;exact⟨sd,dr⟩
  ·obtain rfl:=sj H
   go_enter Tryz.func148,Tryz.ntmps148
   go_wp2;go_ret;exact⟨sd,dr⟩

def impl_ByDivisors.l0:Nat→Int→List Int→Int→Int→Option (Int)
 |0,_,_,_,_=>none
 |k+1,a0,b0,c0,d0=>if d0<c0 then(if 0≤d0 then(if d0<(b0.length:Int)then((impl_leavesSign.f (rd b0 d0)).bind fun e0=>(impl_ByDivisors.l0 k (wrap64 (a0+(wrap64 (4*e0)))) b0 c0 (wrap64 (d0+1))))else(none))else(none))else(some a0)
def impl_ByDivisors.f (k:Nat) (a0:Int):Option (Int):=(impl_numberOk.f a0).bind fun b0=>(if b0=true then((impl_divisors.f k a0).bind fun c0=>(impl_ByDivisors.l0 k 0 c0 (c0.length:Int) 0))else(some (-1)))
theorem impl_ByDivisors.calls (k:Nat) (a0:Int) (r:Int) (w:World) (h:impl_ByDivisors.f k a0=some r):
  Calls Tryz.prog 114 #[.int .i64 a0] w fun e w'=>e= .returned (.int .i64 r)∧Below w.heap.size w w':=by
 have HB:=qa (Below.refl w.heap.size w);have H:=h;unfold impl_ByDivisors.f at H;clear h;replace H:=qb H;obtain⟨b0,c0,H⟩:=H;replace H:=qc H;obtain⟨rfl,H⟩|⟨rfl,H⟩:=H
 ·replace H:=qb H;obtain⟨d0,e0,H⟩:=H;have H':=qa H;clear H
  go_enter Tryz.func114,Tryz.ntmps114
  go_wp2_with(first|(refine gd 7 Tryz.func107 (impl_numberOk.calls a0 true _ c0.out) fun nd=>?_)|(refine ge_ 10 Tryz.func109 (impl_divisors.calls k a0 d0 _ e0.out) fun g0 j0 n0 hb=>?_;have p0:=qa (Kd.R_lower n0 (below_size (bl)));replace HB:=bs hb;obtain⟨q0,r0,rfl⟩:=Kd.R_slice p0.out))
  go_loopg [3,12] k (fun kq s0 t0 w'=>∃(v0:Int) (w0:Int),s0= .int .i64 v0∧t0= .int .i64 w0∧Aside0 (impl_ByDivisors.l0 kq v0 d0 (d0.length:Int) w0=some r)∧Aside0 (kq≤k)∧Aside0 (Kd.R (Kd.int .i64) 3 w' w.heap.size (fun _=>True) (.slice q0 d0.length r0) d0)∧Aside0 (Below w.heap.size w w'))
  case atStart=>exact⟨(0),(0),(sd),(sd),H',⟨Nat.le_refl _⟩,⟨kR p0⟩,⟨bl⟩⟩
  case round=>
   clear H';obtain⟨v0,w0,rfl,rfl,HA,HK1,x0,HB⟩:=hrel;obtain⟨k1,rfl,H⟩:=kz gk HA;clear HA;simp only[impl_ByDivisors.l0]at H;replace H:=qe H;obtain⟨y0,H⟩|⟨y0,H⟩:=H
   ·replace H:=qd H;obtain⟨A0,H⟩:=H;replace H:=qd H;obtain⟨B0,H⟩:=H;replace H:=qb H;obtain⟨C0,D0,H⟩:=H;have H':=qa H;clear H;obtain⟨E0,⟨⟩,G0,J0,K0⟩:=ai (Kd.R_reads' x0.out).2.2 w0
    go_wp2_with(first|(refine gd 18 Tryz.func148 (impl_leavesSign.calls (rd d0 w0) C0 _ D0.out) fun nd=>?_))
    go_roundg k1
    case measure=>have:=HK1.out;omega
    case rel=>exact⟨(wrap64 (v0+(wrap64 (4*C0)))),(wrap64 (w0+1)),(sd),(sd),H',⟨by have:=HK1.out;omega⟩,⟨kR x0⟩,⟨bl⟩⟩
   ·obtain rfl:=sj H;go_wp2;go_ret;exact⟨er,bl⟩
 ·obtain rfl:=sj H
  go_enter Tryz.func114,Tryz.ntmps114
  go_wp2_with(first|(refine gd 7 Tryz.func107 (impl_numberOk.calls a0 false _ c0.out) fun nd=>?_))
  go_ret;exact⟨er,bl⟩
mutual
def impl_answer.j0:Nat→List Int→ByteArray→Int→Bool→Option (ByteArray)
 |0,_,_,_,_=>none
 |k+1,a0,b0,c0,d0=>if d0=true then(some (⟨#[119,104,97,116]⟩:ByteArray))else((impl_numberOk.f c0).bind fun e0=>(if e0=true then(if b0.toList=([97,116]:List UInt8)then(impl_answer.j1 k a0 b0 c0 (decide (c0>24)))else(impl_answer.j1 k a0 b0 c0 false))else(impl_answer.j1 k a0 b0 c0 true)))
def impl_answer.j1:Nat→List Int→ByteArray→Int→Bool→Option (ByteArray)
 |0,_,_,_,_=>none
 |k+1,a0,b0,c0,g0=>if g0=true then(some (⟨#[110,111,110,101]⟩:ByteArray))else(if b0.toList=([97,116]:List UInt8)then(if 0≤(wrap64 (c0-1))then(if(wrap64 (c0-1))<(a0.length:Int)then((strconv_Itoa.f (rd a0 (wrap64 (c0-1)))).bind fun l0=>(some l0))else(none))else(none))else(if b0.toList=([112,114,105,109,101,115]:List UInt8)then((impl_FactorText.f k c0).bind fun n0=>(some n0))else(if b0.toList=([100,105,118,105,115,111,114,115]:List UInt8)then((impl_divisors.f k c0).bind fun p0=>((impl_rowText.f k p0).bind fun q0=>(some q0)))else(if b0.toList=([119,97,121]:List UInt8)then((impl_WayFrom.f k c0).bind fun r0=>((impl_rowText.f k r0).bind fun s0=>(some s0)))else(if b0.toList=([115,117,109]:List UInt8)then((impl_AllSum.f k c0).bind fun t0=>((strconv_Itoa.f t0).bind fun v0=>(some v0)))else(if b0.toList=([107,105,110,100]:List UInt8)then((some (([(⟨#[112,111,111,114]⟩:ByteArray),(⟨#[112,101,114,102,101,99,116]⟩:ByteArray),(⟨#[114,105,99,104]⟩:ByteArray)]:List ByteArray):List ByteArray)).bind fun w0=>((impl_KindOf.f k c0).bind fun x0=>(if 0≤(wrap64 (x0+1))then(if(wrap64 (x0+1))<(w0.length:Int)then(some (rdOf ByteArray.empty w0 (wrap64 (x0+1))))else(none))else(none))))else(if b0.toList=([97,112,97,114,116]:List UInt8)then((impl_phi.f k c0).bind fun y0=>((strconv_Itoa.f y0).bind fun A0=>(some A0)))else((impl_ByDivisors.f k c0).bind fun B0=>((strconv_Itoa.f B0).bind fun C0=>(some C0))))))))))
end

def impl_answer.f (k:Nat) (a0:List Int) (b0:ByteArray):Option (ByteArray):=if b0.toList=([102,105,114,115,116]:List UInt8)then(if 8≤(a0.length:Int)then((impl_rowText.f k (a0.take 8)).bind fun c0=>(some c0))else(none))else(if b0.toList=([109,117,108,116,105,112,108,105,99,97,116,105,118,101]:List UInt8)then((impl_MultiplicativeOk.f k a0).bind fun d0=>((impl_yes.f d0).bind fun e0=>(some e0)))else(if b0.toList=([102,117,108,108]:List UInt8)then((impl_FullyOk.f k a0).bind fun g0=>((impl_yes.f g0).bind fun l0=>(some l0)))else((strings_Cut.f b0 (⟨#[32]⟩:ByteArray)).bind fun n0=>((strconv_Atoi.f n0.2.1).bind fun p0=>((slices_Contains_string_string.f k (([(⟨#[97,116]⟩:ByteArray),(⟨#[112,114,105,109,101,115]⟩:ByteArray),(⟨#[100,105,118,105,115,111,114,115]⟩:ByteArray),(⟨#[119,97,121]⟩:ByteArray),(⟨#[115,117,109]⟩:ByteArray),(⟨#[107,105,110,100]⟩:ByteArray),(⟨#[97,112,97,114,116]⟩:ByteArray),(⟨#[115,113,117,97,114,101,115]⟩:ByteArray)]:List ByteArray)) n0.1).bind fun q0=>(if q0=true then(if p0.2.isNone=true then(if p0.1<0 then(impl_answer.j0 k a0 n0.1 p0.1 true)else(if(n0.2.1.size:Int)>5 then(impl_answer.j0 k a0 n0.1 p0.1 true)else((strconv_Itoa.f p0.1).bind fun r0=>(impl_answer.j0 k a0 n0.1 p0.1 (r0.toList != n0.2.1.toList)))))else(impl_answer.j0 k a0 n0.1 p0.1 true))else(impl_answer.j0 k a0 n0.1 p0.1 true)))))))
theorem impl_answer.calls (k:Nat) (a0:Option Addr) (b0:Nat) (c0:List Int) (d0:ByteArray) (r:ByteArray) (w:World) (e0:Kd.C (Kd.int .i64) w a0 c0.length c0) (g0:c0.length≤b0) (h:impl_answer.f k c0 d0=some r) (hG_:GL w):
  Calls Tryz.prog 55 #[.slice a0 c0.length b0,.string d0] w fun e w'=>e= .returned (.string r)∧Below w.heap.size w w':=by
 have l0:=Tryz.underlying98;have n0:=qa e0;have p0:=qa g0;clear e0 g0;have HB:=qa (Below.refl w.heap.size w);have H:=h;unfold impl_answer.f at H;clear h;replace H:=qq H;obtain⟨q0,r0,H⟩|⟨s0,q0,r0,H⟩:=H
 ·replace H:=qn H;obtain⟨t0,H⟩:=H;have v0:=eq_true t0;have w0:decide (8≤(c0.length:Int))=true:=decide_eq_true t0;clear t0;replace H:=qb H;obtain⟨x0,y0,H⟩:=H;obtain rfl:=sj H;obtain⟨i06,A0,_,B0,_⟩:=info_parts info3;obtain⟨C0,hA6,hC6⟩:=print_take_of (P:=Tryz.prog) (Value.int .i64) 0 22 3 .i64 Tryz.underlying22 A0 B0 a0 b0 c0 8 ko_ (qo) p0.out;have D0:=qa (Kd.C_of_reads (h1:=fun _=>rfl) (hA6 _ (Kd.reads_of_C n0.out)));have E0:=qa hC6;clear hA6 hC6 A0 B0
  go_enter Tryz.func55,Tryz.ntmps55
  go_wp2_with(first|((with_reducible refine gate_callee (f:=102) rfl ?_);refine goesL_ (some 15) rfl rfl Tryz.func102 kr_ rfl #[.slice a0 (c0.take 8).length b0] rfl z49_ ?_;(with_reducible refine(impl_rowText.calls k _ _ (c0.take 8) x0 _ ?G0 ?J0 y0.out ?K0).mono ?_);(case G0=>exact cx D0.out);(case J0=>exact E0.out);(case K0=>exact GL_below hG_ (bl));rintro e L0 ⟨rfl,hb⟩;refine⟨_,rfl,?_⟩;replace HB:=bs hb))
  go_ret;exact⟨er,bl⟩
 ·replace H:=qq H;obtain⟨M0,N0,H⟩|⟨P0,M0,N0,H⟩:=H
  ·replace H:=qb H;obtain⟨Q0,R0,H⟩:=H;replace H:=qb H;obtain⟨U0,V0,H⟩:=H;obtain rfl:=sj H
   go_enter Tryz.func55,Tryz.ntmps55
   go_wp2_with(first|(refine gd 19 Tryz.func104 (impl_MultiplicativeOk.calls k _ _ c0 Q0 _ (cx n0.out) p0.out R0.out) fun nd=>?_)|(refine gd 20 Tryz.func103 (impl_yes.calls Q0 U0 _ V0.out) fun nd=>?_))
   go_ret;exact⟨er,bl⟩
  ·replace H:=qq H;obtain⟨W0,X0,H⟩|⟨Y0,W0,X0,H⟩:=H
   ·replace H:=qb H;obtain⟨a1,b1,H⟩:=H;replace H:=qb H;obtain⟨c1,d1,H⟩:=H;obtain rfl:=sj H
    go_enter Tryz.func55,Tryz.ntmps55
    go_wp2_with(first|(refine gd 24 Tryz.func105 (impl_FullyOk.calls k _ _ c0 a1 _ (cx n0.out) p0.out b1.out) fun nd=>?_)|(refine gd 25 Tryz.func103 (impl_yes.calls a1 c1 _ d1.out) fun nd=>?_))
    go_ret;exact⟨er,bl⟩
   ·replace H:=qb H;obtain⟨⟨e1,g1,l1⟩,n1,H⟩:=H;(try dsimp only at H);replace H:=qb H;obtain⟨⟨p1,q1⟩,r1,H⟩:=H;(try dsimp only at H);have s1:=qa H;clear H
    go_enter Tryz.func55,Tryz.ntmps55
    go_upto_region 10 with(go_big_may;first|(refine gb 28 Tryz.func75 (strings_Cut.calls d0 (⟨#[32]⟩:ByteArray) e1 g1 l1 _ n1.out (GL_below hG_ (bl))) fun t1 hb=>?_;replace HB:=bs hb)|(refine gol (some 34) Tryz.func94 #[.string g1] ?_;(with_reducible refine(strconv_Atoi.calls g1 p1 q1 _ r1.out ?G0).mono ?_);(case G0=>exact GL_below hG_ (bl));rintro e v1 ⟨ev_,hev_,rfl,hb⟩;refine⟨_,rfl,?_⟩;replace HB:=bs hb;(try simp only[errW_none,errW_some])))
    (try simp only[Act.put,List.setIfInBounds_toArray,List.set_cons_zero,List.set_cons_succ])
    go_cut [59] (fun w1 wc=>∃(kq:Nat) (x1:Bool),w1= .bool x1∧Aside0 (impl_answer.j0 kq c0 e1 p1 x1=some r)∧Aside0 (kq≤k)∧Aside0 (Below w.heap.size w wc))
    case first=>
     have H:=s1.out;clear s1;obtain⟨y1,hy_⟩:∃y_:List ByteArray,y_=(([(⟨#[97,116]⟩:ByteArray),(⟨#[112,114,105,109,101,115]⟩:ByteArray),(⟨#[100,105,118,105,115,111,114,115]⟩:ByteArray),(⟨#[119,97,121]⟩:ByteArray),(⟨#[115,117,109]⟩:ByteArray),(⟨#[107,105,110,100]⟩:ByteArray),(⟨#[97,112,97,114,116]⟩:ByteArray),(⟨#[115,113,117,97,114,101,115]⟩:ByteArray)]:List ByteArray)):=⟨_,rfl⟩;replace H:((slices_Contains_string_string.f k y1 e1).bind fun A1=>(if A1=true then(if q1.isNone=true then(if p1<0 then(impl_answer.j0 k c0 e1 p1 true)else(if(g1.size:Int)>5 then(impl_answer.j0 k c0 e1 p1 true)else((strconv_Itoa.f p1).bind fun B1=>(impl_answer.j0 k c0 e1 p1 (B1.toList != g1.toList)))))else(impl_answer.j0 k c0 e1 p1 true))else(impl_answer.j0 k c0 e1 p1 true)))=some r:=yh;have C1:=qa hy_;clear hy_;replace H:=qb H;obtain⟨A1,D1,H⟩:=H;replace H:=qc H;obtain⟨rfl,H⟩|⟨rfl,H⟩:=H
     ·rcases q1 with _|E1
      ·obtain rfl:=ev0_ hev_;(have H1:(if p1<0 then(impl_answer.j0 k c0 e1 p1 true)else(if(g1.size:Int)>5 then(impl_answer.j0 k c0 e1 p1 true)else((strconv_Itoa.f p1).bind fun B1=>(impl_answer.j0 k c0 e1 p1 (B1.toList != g1.toList)))))=some r:=by rw[if_pos (show(none:Option Int).isNone =true by rfl)]at H;exact H);clear H;have H:=H1;clear H1
       try simp only[errW_none,errW_some]
       replace H:=qe H;obtain⟨G1,H⟩|⟨G1,H⟩:=H
       ·(first|rw[G1]|(simp only[i64_w,i32_w];rw[G1])|skip);have H':=qa H;clear H
        go_wp2_with(first|(refine rls 9 37 C1.out fun J1 K1 L1 hb=>?_;have M1:=qa (Kd.R_lower L1 (below_size (bl)));replace HB:=bs hb;clear hb L1;obtain⟨N1,P1,rfl⟩:=Kd.R_slice M1.out)|(refine gd 39 Tryz.func106 (slices_Contains_string_string.calls k _ _ y1 e1 true _ (cx (Kd.R_reads' M1.out).2.2) ((Kd.R_reads' M1.out).2.1) D1.out) fun nd=>?_))
        go_meet
        case rel=>exact⟨_,(true),(sd),H',⟨by first|omega|exact Nat.le_refl _⟩,⟨bl⟩⟩
       ·(first|rw[G1]|(simp only[i64_w,i32_w];rw[G1])|skip)
        by_cases Q1:(g1.size:Int)>5
        ·rw[if_pos Q1]at H;have R1:decide (5<(g1.size:Int))=true:=decide_eq_true Q1;have U1:decide (5<g1.size)=true:=decide_eq_true ko_;clear Q1;have H':=qa H;clear H
         go_wp2_with(first|(refine rls 9 37 C1.out fun J1 V1 W1 hb=>?_;have M1:=qa (Kd.R_lower W1 (below_size (bl)));replace HB:=bs hb;clear hb W1;obtain⟨X1,Y1,rfl⟩:=Kd.R_slice M1.out)|(refine gd 39 Tryz.func106 (slices_Contains_string_string.calls k _ _ y1 e1 true _ (cx (Kd.R_reads' M1.out).2.2) ((Kd.R_reads' M1.out).2.1) D1.out) fun nd=>?_))
         go_meet
         case rel=>exact⟨_,(true),(sd),H',⟨by first|omega|exact Nat.le_refl _⟩,⟨bl⟩⟩
        ·rw[if_neg Q1]at H;have R1:decide (5<(g1.size:Int))=false:=decide_eq_false Q1;have U1:decide (5<g1.size)=false:=decide_eq_false ko_;clear Q1;replace H:=qb H;obtain⟨B1,a2,H⟩:=H;have H':=qa H;clear H
         go_wp2_with(first|(refine rls 9 37 C1.out fun J1 b2 c2 hb=>?_;have M1:=qa (Kd.R_lower c2 (below_size (bl)));replace HB:=bs hb;clear hb c2;obtain⟨d2,e2,rfl⟩:=Kd.R_slice M1.out)|(refine gd 39 Tryz.func106 (slices_Contains_string_string.calls k _ _ y1 e1 true _ (cx (Kd.R_reads' M1.out).2.2) ((Kd.R_reads' M1.out).2.1) D1.out) fun nd=>?_)|(go_at_call 77;(with_reducible refine(strconv_Itoa.calls p1 B1 _ a2.out ?G0).mono ?_);(case G0=>exact GL_below hG_ (bl));rintro e g2 ⟨rfl,hb⟩;replace M1:=qa (Kd.R_below (kR M1) hb);replace HB:=bs hb))
         go_meet
         case rel=>exact⟨_,((B1.toList != g1.toList)),(sd),H',⟨by first|omega|exact Nat.le_refl _⟩,⟨bl⟩⟩
      ·obtain⟨te_,pe_,rfl⟩:=ev1_ hev_;(have H1:(impl_answer.j0 k c0 e1 p1 true)=some r:=by rw[if_neg (show ¬(some E1).isNone =true by simp)]at H;exact H);clear H;have H:=H1;clear H1
       try simp only[errW_none,errW_some]
       have H':=qa H;clear H
       go_wp2_with(first|(refine rls 9 37 C1.out fun J1 j2 l2 hb=>?_;have M1:=qa (Kd.R_lower l2 (below_size (bl)));replace HB:=bs hb;clear hb l2;obtain⟨n2,p2,rfl⟩:=Kd.R_slice M1.out)|(refine gd 39 Tryz.func106 (slices_Contains_string_string.calls k _ _ y1 e1 true _ (cx (Kd.R_reads' M1.out).2.2) ((Kd.R_reads' M1.out).2.1) D1.out) fun nd=>?_))
       go_meet
       case rel=>exact⟨_,(true),(sd),H',⟨by first|omega|exact Nat.le_refl _⟩,⟨bl⟩⟩
     ·have H':=qa H;clear H
      go_wp2_with(first|(refine rls 9 37 C1.out fun J1 q2 r2 hb=>?_;have M1:=qa (Kd.R_lower r2 (below_size (bl)));replace HB:=bs hb;clear hb r2;obtain⟨s2,t2,rfl⟩:=Kd.R_slice M1.out)|(refine gd 39 Tryz.func106 (slices_Contains_string_string.calls k _ _ y1 e1 false _ (cx (Kd.R_reads' M1.out).2.2) ((Kd.R_reads' M1.out).2.1) D1.out) fun nd=>?_))
      go_meet
      case rel=>exact⟨_,(true),(sd),H',⟨by first|omega|exact Nat.le_refl _⟩,⟨bl⟩⟩
    case rest=>
     clear s1;obtain⟨kq,x1,rfl,HA,v2,HB⟩:=hcut;obtain⟨w2,rfl,H⟩:=kz kq HA;clear HA;simp only[impl_answer.j0]at H;replace H:=qc H;obtain⟨rfl,H⟩|⟨rfl,H⟩:=H
     ·obtain rfl:=sj H;go_wp2;go_ret;exact⟨er,bl⟩
     ·have x2:=qa H;clear H
      go_upto_region 12 with(fail)
      go_cut [70] (fun y2 wc=>∃(kq:Nat) (A2:Bool),y2= .bool A2∧Aside0 (impl_answer.j1 kq c0 e1 p1 A2=some r)∧Aside0 (kq≤w2)∧Aside0 (Below w.heap.size w wc))
      case first=>
       have H:=x2.out;clear x2;replace H:=qb H;obtain⟨B2,C2,H⟩:=H;replace H:=qc H;obtain⟨rfl,H⟩|⟨rfl,H⟩:=H
       ·replace H:=qq H;obtain⟨D2,E2,H⟩|⟨G2,D2,E2,H⟩:=H
        ·(first|rw[D2]|(simp only[i64_w,i32_w];rw[D2])|skip);have H':=qa H;clear H
         go_wp2_with(first|(refine gd 61 Tryz.func107 (impl_numberOk.calls p1 true _ C2.out) fun nd=>?_))
         go_meet
         case rel=>exact⟨_,(decide (p1>24)),(sd),H',⟨by have:=v2.out;first|omega|exact Nat.le_refl _⟩,⟨bl⟩⟩
        ·(first|rw[D2]|(simp only[i64_w,i32_w];rw[D2])|skip);have H':=qa H;clear H
         go_wp2_with(first|(refine gd 61 Tryz.func107 (impl_numberOk.calls p1 true _ C2.out) fun nd=>?_))
         go_meet
         case rel=>exact⟨_,(false),(sd),H',⟨by have:=v2.out;first|omega|exact Nat.le_refl _⟩,⟨bl⟩⟩
       ·have H':=qa H;clear H
        go_wp2_with(first|(refine gd 61 Tryz.func107 (impl_numberOk.calls p1 false _ C2.out) fun nd=>?_))
        go_meet
        case rel=>exact⟨_,(true),(sd),H',⟨by have:=v2.out;first|omega|exact Nat.le_refl _⟩,⟨bl⟩⟩
      case rest=>
       clear x2;obtain⟨kq,A2,rfl,HA,J2,HB⟩:=hcut;obtain⟨K2,rfl,H⟩:=kz kq HA;clear HA;simp only[impl_answer.j1]at H;replace H:=qc H;obtain⟨rfl,H⟩|⟨rfl,H⟩:=H
       ·obtain rfl:=sj H;go_wp2;go_ret;exact⟨er,bl⟩
       ·replace H:=qq H;obtain⟨L2,M2,H⟩|⟨N2,L2,M2,H⟩:=H
        ·obtain⟨P2,Q2⟩:∃j_:Int,(wrap64 (p1-1))=j_:=⟨_,rfl⟩;(first|rw[Q2]at H|(try simp only[Q2]at H));have R2:(IntKind.i64.wrap (p1-1))=P2:=(i64_w _).trans Q2;replace H:=qd H;obtain⟨U2,H⟩:=H;replace H:=qd H;obtain⟨V2,H⟩:=H;replace H:=qb H;obtain⟨W2,X2,H⟩:=H;obtain rfl:=sj H;obtain⟨Y2,⟨⟩,a3,b3,c3⟩:=ai n0.out (P2);(try replace a3:=(HB.out.cell (World.block_lt_of_cell? w _ a3)).trans a3)
         go_wp2_with(first|((with_reducible refine gate_callee (f:=77) rfl ?_);refine goesL_ (some 79) rfl rfl Tryz.func77 kr_ rfl #[.int .i64 (rd c0 (P2))] rfl (by(try simp only[List.map_toArray,List.map_cons,List.map_nil]);first|done|(simp only[Q2];rfl)|rfl|(simp only[List.length_drop,List.length_take];rfl)) ?_;(with_reducible refine(strconv_Itoa.calls (rd c0 (P2)) W2 _ X2.out ?G0).mono ?_);(case G0=>exact GL_below hG_ (bl));rintro e d3 ⟨rfl,hb⟩;refine⟨_,rfl,?_⟩;replace HB:=bs hb))
         go_ret;exact⟨by first|rfl|(simp[errW_none,errW_some];exact⟨rfl,rfl⟩)|(simp[errW_none,errW_some] <;> rfl)|(simp only[←Q2];first|rfl|(simp[errW_none,errW_some] <;> rfl))|(simp[*,errW_none,errW_some] <;> rfl),bl⟩
        ·replace H:=qq H;obtain⟨e3,g3,H⟩|⟨j3,e3,g3,H⟩:=H
         ·replace H:=qb H;obtain⟨l3,n3,H⟩:=H;obtain rfl:=sj H
          go_wp2_with(first|(refine gb 83 Tryz.func108 (impl_FactorText.calls K2 p1 l3 _ n3.out (GL_below hG_ (bl))) fun p3 hb=>?_;replace HB:=bs hb))
          go_ret;exact⟨er,bl⟩
         ·replace H:=qq H;obtain⟨q3,r3,H⟩|⟨s3,q3,r3,H⟩:=H
          ·replace H:=qb H;obtain⟨t3,v3,H⟩:=H;replace H:=qb H;obtain⟨w3,x3,H⟩:=H;obtain rfl:=sj H
           go_wp2_with(first|(refine ge_ 87 Tryz.func109 (impl_divisors.calls K2 p1 t3 _ v3.out) fun y3 A3 B3 hb=>?_;have C3:=qa (Kd.R_lower B3 (below_size (bl)));replace HB:=bs hb;obtain⟨D3,E3,rfl⟩:=Kd.R_slice C3.out)|(refine gb 88 Tryz.func102 (impl_rowText.calls K2 _ _ t3 w3 _ (cx (Kd.R_reads' C3.out).2.2) ((Kd.R_reads' C3.out).2.1) x3.out (GL_below hG_ (bl))) fun G3 hb=>?_;replace C3:=qa (Kd.R_below (kR C3) hb);replace HB:=bs hb))
           go_ret;exact⟨er,bl⟩
          ·replace H:=qq H;obtain⟨J3,K3,H⟩|⟨L3,J3,K3,H⟩:=H
           ·replace H:=qb H;obtain⟨M3,N3,H⟩:=H;replace H:=qb H;obtain⟨P3,Q3,H⟩:=H;obtain rfl:=sj H
            go_wp2_with(first|(refine ge_ 92 Tryz.func110 (impl_WayFrom.calls K2 p1 M3 _ N3.out) fun R3 U3 B3 hb=>?_;have V3:=qa (Kd.R_lower B3 (below_size (bl)));replace HB:=bs hb;obtain⟨W3,X3,rfl⟩:=Kd.R_slice V3.out)|(refine gb 93 Tryz.func102 (impl_rowText.calls K2 _ _ M3 P3 _ (cx (Kd.R_reads' V3.out).2.2) ((Kd.R_reads' V3.out).2.1) Q3.out (GL_below hG_ (bl))) fun Y3 hb=>?_;replace V3:=qa (Kd.R_below (kR V3) hb);replace HB:=bs hb))
            go_ret;exact⟨er,bl⟩
           ·replace H:=qq H;obtain⟨a4,b4,H⟩|⟨c4,a4,b4,H⟩:=H
            ·replace H:=qb H;obtain⟨d4,e4,H⟩:=H;replace H:=qb H;obtain⟨g4,j4,H⟩:=H;obtain rfl:=sj H
             go_wp2_with(first|(refine gb 97 Tryz.func111 (impl_AllSum.calls K2 p1 d4 _ e4.out) fun l4 hb=>?_;replace HB:=bs hb)|(refine gb 98 Tryz.func77 (strconv_Itoa.calls d4 g4 _ j4.out (GL_below hG_ (bl))) fun n4 hb=>?_;replace HB:=bs hb))
             go_ret;exact⟨er,bl⟩
            ·replace H:=qq H;obtain⟨p4,q4,H⟩|⟨r4,p4,q4,H⟩:=H
             ·replace H:=qs H;obtain⟨s4,t4,H⟩:=H;replace H:=qb H;obtain⟨v4,w4,H⟩:=H;obtain⟨x4,y4⟩:∃j_:Int,(wrap64 (v4+1))=j_:=⟨_,rfl⟩;(first|rw[y4]at H|(try simp only[y4]at H));(try rw[y4]at w4);have A4:(IntKind.i64.wrap (v4+1))=x4:=(i64_w _).trans y4;replace H:=qd H;obtain⟨B4,H⟩:=H;replace H:=qd H;obtain⟨C4,H⟩:=H;obtain rfl:=sj H
              go_wp2_with(first|(refine rls 9 101 t4.out fun D4 E4 G4 hb=>?_;have J4:=qa (Kd.R_lower G4 (below_size (bl)));replace HB:=bs hb;clear hb G4)|(refine gb 103 Tryz.func112 (impl_KindOf.calls K2 p1 v4 _ w4.out) fun K4 hb=>?_;replace J4:=qa (Kd.R_below (kR J4) hb);replace HB:=bs hb;obtain⟨L4,M4,rfl⟩:=Kd.R_slice J4.out;obtain⟨N4,⟨⟩,P4,Q4,R4⟩:=as_ (Kd.R_reads' J4.out).2.2 (x4)))
              go_ret;exact⟨by first|rfl|(simp[errW_none,errW_some];exact⟨rfl,rfl⟩)|(simp[errW_none,errW_some] <;> rfl)|(simp only[←y4];first|rfl|(simp[errW_none,errW_some] <;> rfl))|(simp[*,errW_none,errW_some] <;> rfl),bl⟩
             ·replace H:=qq H;obtain⟨U4,V4,H⟩|⟨W4,U4,V4,H⟩:=H
              ·replace H:=qb H;obtain⟨X4,Y4,H⟩:=H;replace H:=qb H;obtain⟨a5,b5,H⟩:=H;obtain rfl:=sj H
               go_wp2_with(first|(refine gb 110 Tryz.func113 (impl_phi.calls K2 p1 X4 _ Y4.out) fun c5 hb=>?_;replace HB:=bs hb)|(refine gb 111 Tryz.func77 (strconv_Itoa.calls X4 a5 _ b5.out (GL_below hG_ (bl))) fun d5 hb=>?_;replace HB:=bs hb))
               go_ret;exact⟨er,bl⟩
              ·replace H:=qb H;obtain⟨e5,g5,H⟩:=H;replace H:=qb H;obtain⟨j5,l5,H⟩:=H;obtain rfl:=sj H
               go_wp2_with(first|(refine gb 113 Tryz.func114 (impl_ByDivisors.calls K2 p1 e5 _ g5.out) fun n5 hb=>?_;replace HB:=bs hb)|(refine gb 114 Tryz.func77 (strconv_Itoa.calls e5 j5 _ l5.out (GL_below hG_ (bl))) fun p5 hb=>?_;replace HB:=bs hb))
               go_ret;exact⟨er,bl⟩
end Go.Proofs.YtdmlkjjlgkdnlaaGreatDoor.PFnExactDeskSay
