import Derived.Test.YtdmlkjjlgkdnlaaGreatDoorPFnExactDeskLinex10
namespace Go.Proofs.YtdmlkjjlgkdnlaaGreatDoor.PFnExactDeskLine
open Go.RowKit Go.Proofs.YtdmlkjjlgkdnlaaGreatDoorW.PrintWords Go.Proofs.YtdmlkjjlgkdnlaaGreatDoorW.PrintLast Go.Proofs.YtdmlkjjlgkdnlaaGreatDoorW.PrintMore
attribute [local go_sem] max2_int min2_int max_two min_two max_three min_three max_four min_four
set_option linter.unusedVariables false
set_option linter.unusedSimpArgs false
attribute [local go_sem high] eqA55
def spec_DividedOf.f (k:Nat) (a0:List Int) (b0:List Int):Option (List Int×Bool):=(spec_TimesOf.f k b0 a0).bind fun c0=>(if c0.2=true then((spec_UnitOk.f k b0).bind fun d0=>(if d0=true then((spec_l3Divided.f k a0 b0).bind fun e0=>(some (e0,((e0.length:Int)==24))))else(some ((([]:List Int)),false))))else(some ((([]:List Int)),false)))
set_option maxHeartbeats 8000000 in
set_option maxRecDepth 100000 in
theorem spec_DividedOf.calls (k:Nat) (a0:Option Addr) (b0:Nat) (c0:List Int) (d0:Option Addr) (e0:Nat) (g0:List Int) (j0:List Int) (l0:Bool) (w:World) (n0:Kd.C (Kd.int .i64) w a0 c0.length c0) (p0:c0.length≤b0) (q0:Kd.C (Kd.int .i64) w d0 g0.length g0) (r0:g0.length≤e0) (h:spec_DividedOf.f k c0 g0=some (j0,l0)):
  Calls Tryz.prog 154 #[.slice a0 c0.length b0,.slice d0 g0.length e0] w fun e w'=>∃v0_:Value,e= .returned (.tuple #[v0_,.bool l0])∧Kd.R (Kd.int .i64) 3 w' w.heap.size (fun _=>True) v0_ j0∧Below w.heap.size w w':=by
 have s0:=qa n0;have t0:=qa p0;clear n0 p0;have v0:=qa q0;have w0:=qa r0;clear q0 r0;have HB:=qa (Below.refl w.heap.size w);have H:=h;unfold spec_DividedOf.f at H;clear h;replace H:=qb H;obtain⟨⟨x0,y0⟩,A0,H⟩:=H;(try dsimp only at H);replace H:=qc H;obtain⟨rfl,H⟩|⟨rfl,H⟩:=H
 ·replace H:=qb H;obtain⟨B0,C0,H⟩:=H;replace H:=qc H;obtain⟨rfl,H⟩|⟨rfl,H⟩:=H
  ·replace H:=qb H;obtain⟨D0,E0,H⟩:=H;simp only[Option.some.injEq,Prod.mk.injEq]at H;obtain⟨rfl,rfl⟩:=H
   go_enter Tryz.func154,Tryz.ntmps154
   go_wp2_with(first|(refine ge_ 12 Tryz.func121 (spec_TimesOf.calls k _ _ g0 _ _ c0 x0 true _ (cx v0.out) w0.out (cx s0.out) t0.out A0.out) fun G0 J0 K0 hb=>?_;have L0:=qa (Kd.R_lower K0 (below_size (bl)));replace HB:=bs hb)|(go_at_call 179;(with_reducible refine(spec_UnitOk.calls k _ _ g0 true _ ?M0 ?N0 C0.out).mono ?_);(case M0=>exact cx (Kd.C_below v0.out HB.out));(case N0=>exact w0.out);rintro e w' ⟨rfl,⟨nd,rfl⟩⟩)|(refine ge_ 25 Tryz.func180 (spec_l3Divided.calls k _ _ c0 _ _ g0 D0 _ (cx (Kd.C_below s0.out (bl))) t0.out (cx (Kd.C_below v0.out (bl))) w0.out E0.out) fun P0 Q0 K0 hb=>?_;have R0:=qa (Kd.R_lower (Kd.R_new' K0 (Kd.R_lt (kR L0))) (below_size (bl)));replace L0:=qa (Kd.R_elder' (kR L0) (Kd.R_base K0) hb);replace HB:=bs hb;obtain⟨U0,V0,rfl⟩:=Kd.R_slice R0.out))
   go_ret2;exact⟨_,er,by(with_reducible repeat(first|apply Kd.R_alloc|apply Kd.R_drewN|apply Kd.R_drew));exact Kd.R_mono R0.out (fun _ hk=>trivial),bl⟩
  ·obtain⟨W0,hy_⟩:∃y_:List Int,y_=(([]:List Int)):=⟨_,rfl⟩;replace H:(some (W0,false))=some (j0,l0):=yh;have X0:=qa hy_;clear hy_;simp only[Option.some.injEq,Prod.mk.injEq]at H;obtain⟨rfl,rfl⟩:=H
   go_enter Tryz.func154,Tryz.ntmps154
   go_wp2_with(first|(refine ge_ 12 Tryz.func121 (spec_TimesOf.calls k _ _ g0 _ _ c0 x0 true _ (cx v0.out) w0.out (cx s0.out) t0.out A0.out) fun G0 Y0 K0 hb=>?_;have L0:=qa (Kd.R_lower K0 (below_size (bl)));replace HB:=bs hb)|(go_at_call 179;(with_reducible refine(spec_UnitOk.calls k _ _ g0 false _ ?M0 ?N0 C0.out).mono ?_);(case M0=>exact cx (Kd.C_below v0.out HB.out));(case N0=>exact w0.out);rintro e w' ⟨rfl,⟨nd,rfl⟩⟩)|((with_reducible refine gate_dst (N:=22) rfl ?_);refine Kd.R_lit (Kd.int .i64) _ 3 ?hg (N:=22) ?hd (xs:=([]:List Int)) (inner:=[]) (ok:=fun _=>True) (okp:=fun _=>True) ?hr ?hp (fun _ hk=>hk) trivial (Below.refl _ _) (Nat.le_refl _) (by simp) ?_;(case hd=>rfl);(case hg=>rfl);(case hr=>exact gr);(case hp=>exact(Reps.none _ _));intro a1 b1 c1 hb hg_ hnew_;clear hg_ hnew_;(first|rw[←X0.out]at c1|(simp only[Int.reduceToNat]at c1;rw[←X0.out]at c1));have d1:=qa (Kd.R_lower (Kd.R_new' c1 (Kd.R_lt (kR L0))) (below_size (bl)));replace L0:=qa (Kd.R_elder' (kR L0) (Kd.R_base c1) hb);replace HB:=bs hb;clear hb c1))
   go_ret2;exact⟨_,er,by(with_reducible repeat(first|apply Kd.R_alloc|apply Kd.R_drewN|apply Kd.R_drew));exact Kd.R_mono d1.out (fun _ hk=>trivial),bl⟩
 ·obtain⟨e1,hy_⟩:∃y_:List Int,y_=(([]:List Int)):=⟨_,rfl⟩;replace H:(some (e1,false))=some (j0,l0):=yh;have g1:=qa hy_;clear hy_;simp only[Option.some.injEq,Prod.mk.injEq]at H;obtain⟨rfl,rfl⟩:=H
  go_enter Tryz.func154,Tryz.ntmps154
  go_wp2_with(first|(refine ge_ 12 Tryz.func121 (spec_TimesOf.calls k _ _ g0 _ _ c0 x0 false _ (cx v0.out) w0.out (cx s0.out) t0.out A0.out) fun G0 j1 K0 hb=>?_;have L0:=qa (Kd.R_lower K0 (below_size (bl)));replace HB:=bs hb)|((with_reducible refine gate_dst (N:=22) rfl ?_);refine Kd.R_lit (Kd.int .i64) _ 3 ?hg (N:=22) ?hd (xs:=([]:List Int)) (inner:=[]) (ok:=fun _=>True) (okp:=fun _=>True) ?hr ?hp (fun _ hk=>hk) trivial (Below.refl _ _) (Nat.le_refl _) (by simp) ?_;(case hd=>rfl);(case hg=>rfl);(case hr=>exact gr);(case hp=>exact(Reps.none _ _));intro l1 n1 p1 hb hg_ hnew_;clear hg_ hnew_;(first|rw[←g1.out]at p1|(simp only[Int.reduceToNat]at p1;rw[←g1.out]at p1));have q1:=qa (Kd.R_lower (Kd.R_new' p1 (Kd.R_lt (kR L0))) (below_size (bl)));replace L0:=qa (Kd.R_elder' (kR L0) (Kd.R_base p1) hb);replace HB:=bs hb;clear hb p1))
  go_ret2;exact⟨_,er,by(with_reducible repeat(first|apply Kd.R_alloc|apply Kd.R_drewN|apply Kd.R_drew));exact Kd.R_mono q1.out (fun _ hk=>trivial),bl⟩

def spec_InverseOf.f (k:Nat) (a0:List Int):Option (List Int×Bool):=(spec_NamedRow.f k 0).bind fun b0=>((spec_DividedOf.f k b0 a0).bind fun c0=>(some (c0.1,c0.2)))
set_option maxHeartbeats 8000000 in
set_option maxRecDepth 100000 in
theorem spec_InverseOf.calls (k:Nat) (a0:Option Addr) (b0:Nat) (c0:List Int) (d0:List Int) (e0:Bool) (w:World) (g0:Kd.C (Kd.int .i64) w a0 c0.length c0) (j0:c0.length≤b0) (h:spec_InverseOf.f k c0=some (d0,e0)):
  Calls Tryz.prog 124 #[.slice a0 c0.length b0] w fun e w'=>∃v0_:Value,e= .returned (.tuple #[v0_,.bool e0])∧Kd.R (Kd.int .i64) 3 w' w.heap.size (fun _=>True) v0_ d0∧Below w.heap.size w w':=by
 have l0:=qa g0;have n0:=qa j0;clear g0 j0;have HB:=qa (Below.refl w.heap.size w);have H:=h;unfold spec_InverseOf.f at H;clear h;replace H:=qb H;obtain⟨p0,q0,H⟩:=H;replace H:=qb H;obtain⟨⟨r0,s0⟩,t0,H⟩:=H;(try dsimp only at H);simp only[Option.some.injEq,Prod.mk.injEq]at H;obtain⟨rfl,rfl⟩:=H
 go_enter Tryz.func124,Tryz.ntmps124
 go_wp2_with(first|(refine ge_ 4 Tryz.func122 (spec_NamedRow.calls k 0 p0 _ q0.out) fun v0 w0 x0 hb=>?_;have y0:=qa (Kd.R_lower x0 (below_size (bl)));replace HB:=bs hb;obtain⟨A0,B0,rfl⟩:=Kd.R_slice y0.out)|(refine ge_ 6 Tryz.func154 (spec_DividedOf.calls k _ _ p0 _ _ c0 r0 s0 _ (cx (Kd.R_reads' y0.out).2.2) ((Kd.R_reads' y0.out).2.1) (cx (Kd.C_below l0.out HB.out)) n0.out t0.out) fun C0 D0 x0 hb=>?_;have E0:=qa (Kd.R_lower (Kd.R_new' x0 (Kd.R_lt (kR y0))) (below_size (bl)));replace y0:=qa (Kd.R_elder' (kR y0) (Kd.R_base x0) hb);replace HB:=bs hb))
 go_ret2;exact⟨_,er,by(with_reducible repeat(first|apply Kd.R_alloc|apply Kd.R_drewN|apply Kd.R_drew));exact Kd.R_mono E0.out (fun _ hk=>trivial),bl⟩

mutual
def spec_l12Made.j0:Nat→List Int→Bool→Int→Int→Int→Option (List Int×Bool)
 |0,_,_,_,_,_=>none
 |k+1,a0,b0,c0,d0,e0=>if b0=true then((spec_NamedRow.f k d0).bind fun g0=>((spec_TimesOf.f k a0 g0).bind fun l0=>(some (l0.1,l0.2))))else(if c0=1 then(spec_l12Made.j1 k a0 (e0==0) c0 d0 e0)else(spec_l12Made.j1 k a0 false c0 d0 e0))
def spec_l12Made.j1:Nat→List Int→Bool→Int→Int→Int→Option (List Int×Bool)
 |0,_,_,_,_,_=>none
 |k+1,a0,n0,c0,d0,e0=>if n0=true then((spec_NamedRow.f k d0).bind fun p0=>((spec_UnitaryTimes.f k a0 p0).bind fun q0=>(some (q0.1,q0.2))))else(if(c0==2&&(d0==0&&(e0==0)))=true then((spec_InverseOf.f k a0).bind fun r0=>(some (r0.1,r0.2)))else(if c0=3 then((spec_l1In.f d0 1 24).bind fun s0=>(if s0=true then((spec_l1In.f e0 0 9999).bind fun t0=>(if t0=true then((some (([]:List Int):List Int)).bind fun v0=>(if v0.length+a0.length<17592186044416 then((some (v0++a0:List Int)).bind fun w0=>(if 0≤(wrap64 (d0-1))then(if(wrap64 (d0-1))<(w0.length:Int)then(some ((w0.set ((wrap64 (d0-1)):Int).toNat e0),true))else(none))else(none)))else(none)))else(some ((([]:List Int)),false))))else(some ((([]:List Int)),false))))else(some ((([]:List Int)),false))))
end

def spec_l12Made.f (k:Nat) (a0:List Int) (b0:Int) (c0:Int) (d0:Int):Option (List Int×Bool):=if b0=0 then(spec_l12Made.j0 k a0 (d0==0) b0 c0 d0)else(spec_l12Made.j0 k a0 false b0 c0 d0)
set_option maxHeartbeats 8000000 in
set_option maxRecDepth 100000 in
theorem spec_l12Made.calls (k:Nat) (a0:Option Addr) (b0:Nat) (c0:List Int) (d0:Int) (e0:Int) (g0:Int) (l0:List Int) (n0:Bool) (w:World) (p0:Kd.C (Kd.int .i64) w a0 c0.length c0) (q0:c0.length≤b0) (h:spec_l12Made.f k c0 d0 e0 g0=some (l0,n0)):
  Calls Tryz.prog 80 #[.slice a0 c0.length b0,.agg #[.int .i64 d0,.int .i64 e0,.int .i64 g0]] w fun e w'=>∃v0_:Value,e= .returned (.tuple #[v0_,.bool n0])∧Kd.R (Kd.int .i64) 3 w' w.heap.size (fun _=>True) v0_ l0∧Below w.heap.size w w':=by
 have r0:=Tryz.underlying55;have s0:=qa p0;have t0:=qa q0;clear p0 q0;have HB:=qa (Below.refl w.heap.size w);have H:=h;unfold spec_l12Made.f at H;clear h;have v0:=qa H;clear H
 go_enter Tryz.func80,Tryz.ntmps80
 go_upto_region 1 with(go_big_may;first|(refine bx 3 #[.int .i64 d0,.int .i64 e0,.int .i64 g0] 55 ?_;intro w0 hg x0 hbox hb;have y0:=qa (hbox);have A0:=gw hg;have B0:=gw hg;replace HB:=bs hb;clear hb hbox hg))
 (try simp only[Act.put,List.setIfInBounds_toArray,List.set_cons_zero,List.set_cons_succ])
 go_cut [7] (fun C0 wc=>∃(kq:Nat) (D0:Bool),C0= .bool D0∧Aside0 (spec_l12Made.j0 kq c0 D0 d0 e0 g0=some (l0,n0))∧Aside0 (kq≤k)∧Aside0 (wc.heap[w0]? =some (.cells #[.int .i64 d0,.int .i64 e0,.int .i64 g0] 55 (0,0)))∧Aside0 (Below w.heap.size w wc))
 case first=>
  have H:=v0.out;clear v0;replace H:=qq H;obtain⟨E0,G0,H⟩|⟨J0,E0,G0,H⟩:=H
  ·(first|rw[E0]|(simp only[i64_w,i32_w];rw[E0])|skip);have H':=qa H;clear H;obtain⟨K0,L0,M0,N0,P0,Q0⟩:=qk3 y0;go_wp2;go_meet
   case rel=>exact⟨_,((g0==0)),(sd),H',⟨by first|omega|exact Nat.le_refl _⟩,⟨bk⟩,⟨bl⟩⟩
  ·(first|rw[E0]|(simp only[i64_w,i32_w];rw[E0])|skip);have H':=qa H;clear H;obtain⟨R0,U0,V0,W0,X0,Y0⟩:=qk3 y0;go_wp2;go_meet
   case rel=>exact⟨_,(false),(sd),H',⟨by first|omega|exact Nat.le_refl _⟩,⟨bk⟩,⟨bl⟩⟩
 case rest=>
  clear v0;obtain⟨kq,D0,rfl,HA,a1,y0,HB⟩:=hcut;obtain⟨b1,rfl,H⟩:=kz kq HA;clear HA;simp only[spec_l12Made.j0]at H;replace H:=qc H;obtain⟨rfl,H⟩|⟨rfl,H⟩:=H
  ·replace H:=qb H;obtain⟨c1,d1,H⟩:=H;replace H:=qb H;obtain⟨⟨e1,g1⟩,l1,H⟩:=H;(try dsimp only at H);simp only[Option.some.injEq,Prod.mk.injEq]at H;obtain⟨rfl,rfl⟩:=H;obtain⟨n1,p1,q1,r1,s1,t1⟩:=qk3 y0
   go_wp2_with(first|(refine ge_ 19 Tryz.func122 (spec_NamedRow.calls b1 e0 c1 _ d1.out) fun v1 w1 x1 hb=>?_;have y1:=qa (Kd.R_lower x1 (below_size (bl)));replace y0:=qbb y0 hb;replace HB:=bs hb;obtain⟨A1,B1,rfl⟩:=Kd.R_slice y1.out)|(refine ge_ 20 Tryz.func121 (spec_TimesOf.calls b1 _ _ c0 _ _ c1 e1 g1 _ (cx (Kd.C_below s0.out HB.out)) t0.out (cx (Kd.R_reads' y1.out).2.2) ((Kd.R_reads' y1.out).2.1) l1.out) fun C1 D1 x1 hb=>?_;have E1:=qa (Kd.R_lower (Kd.R_new' x1 (Kd.R_lt (kR y1))) (below_size (bl)));replace y1:=qa (Kd.R_elder' (kR y1) (Kd.R_base x1) hb);replace y0:=qbb y0 hb;replace HB:=bs hb))
   go_ret2;exact⟨_,er,by(with_reducible repeat(first|apply Kd.R_alloc|apply Kd.R_drewN|apply Kd.R_drew));exact Kd.R_mono E1.out (fun _ hk=>trivial),bl⟩
  ·have G1:=qa H;clear H
   go_upto_region 3 with(fail)
   go_cut [23] (fun J1 wc=>∃(kq:Nat) (K1:Bool),J1= .bool K1∧Aside0 (spec_l12Made.j1 kq c0 K1 d0 e0 g0=some (l0,n0))∧Aside0 (kq≤b1)∧Aside0 (wc.heap[w0]? =some (.cells #[.int .i64 d0,.int .i64 e0,.int .i64 g0] 55 (0,0)))∧Aside0 (Below w.heap.size w wc))
   case first=>
    have H:=G1.out;clear G1;replace H:=qq H;obtain⟨L1,M1,H⟩|⟨N1,L1,M1,H⟩:=H
    ·(first|rw[L1]|(simp only[i64_w,i32_w];rw[L1])|skip);have H':=qa H;clear H;obtain⟨P1,Q1,R1,U1,V1,W1⟩:=qk3 y0;go_wp2;go_meet
     case rel=>exact⟨_,((g0==0)),(sd),H',⟨z58_⟩,⟨bk⟩,⟨bl⟩⟩
    ·(first|rw[L1]|(simp only[i64_w,i32_w];rw[L1])|skip);have H':=qa H;clear H;obtain⟨X1,Y1,a2,b2,c2,d2⟩:=qk3 y0;go_wp2;go_meet
     case rel=>exact⟨_,(false),(sd),H',⟨z58_⟩,⟨bk⟩,⟨bl⟩⟩
   case rest=>
    clear G1;obtain⟨kq,K1,rfl,HA,e2,y0,HB⟩:=hcut;obtain⟨g2,rfl,H⟩:=kz kq HA;clear HA;simp only[spec_l12Made.j1]at H;replace H:=qc H;obtain⟨rfl,H⟩|⟨rfl,H⟩:=H
    ·replace H:=qb H;obtain⟨j2,l2,H⟩:=H;replace H:=qb H;obtain⟨⟨n2,p2⟩,q2,H⟩:=H;(try dsimp only at H);simp only[Option.some.injEq,Prod.mk.injEq]at H;obtain⟨rfl,rfl⟩:=H;obtain⟨r2,s2,t2,v2,w2,x2⟩:=qk3 y0
     go_wp2_with(first|(refine ge_ 35 Tryz.func122 (spec_NamedRow.calls g2 e0 j2 _ l2.out) fun y2 A2 x1 hb=>?_;have B2:=qa (Kd.R_lower x1 (below_size (bl)));replace y0:=qbb y0 hb;replace HB:=bs hb;obtain⟨C2,D2,rfl⟩:=Kd.R_slice B2.out)|(refine ge_ 36 Tryz.func123 (spec_UnitaryTimes.calls g2 _ _ c0 _ _ j2 n2 p2 _ (cx (Kd.C_below s0.out HB.out)) t0.out (cx (Kd.R_reads' B2.out).2.2) ((Kd.R_reads' B2.out).2.1) q2.out) fun E2 G2 x1 hb=>?_;have J2:=qa (Kd.R_lower (Kd.R_new' x1 (Kd.R_lt (kR B2))) (below_size (bl)));replace B2:=qa (Kd.R_elder' (kR B2) (Kd.R_base x1) hb);replace y0:=qbb y0 hb;replace HB:=bs hb))
     go_ret2;exact⟨_,er,by(with_reducible repeat(first|apply Kd.R_alloc|apply Kd.R_drewN|apply Kd.R_drew));exact Kd.R_mono J2.out (fun _ hk=>trivial),bl⟩
    ·by_cases K2:(d0==2&&(e0==0&&(g0==0)))=true
     ·rw[if_pos K2]at H;have L2:(d0==2&&(e0==0&&(g0==0)))=true:=K2;(try(have M2:decide (d0=2&&(e0==0&&(g0==0)))=true:=by simpa using K2));(try(have N2:(d0==2&&(e0==0&&(g0==0)))=true:=by simpa using K2));clear K2;replace H:=qb H;obtain⟨⟨P2,Q2⟩,R2,H⟩:=H;(try dsimp only at H);simp only[Option.some.injEq,Prod.mk.injEq]at H;obtain⟨rfl,rfl⟩:=H;obtain⟨U2,V2,W2,X2,Y2,a3⟩:=qk3 y0
      go_wp2_with(first|(refine ge_ 44 Tryz.func124 (spec_InverseOf.calls g2 _ _ c0 P2 Q2 _ (cx (Kd.C_below s0.out HB.out)) t0.out R2.out) fun b3 c3 x1 hb=>?_;have d3:=qa (Kd.R_lower x1 (below_size (bl)));replace y0:=qbb y0 hb;replace HB:=bs hb))
      go_ret2;exact⟨_,er,kR d3,bl⟩
     ·rw[if_neg K2]at H;(have L2:(d0==2&&(e0==0&&(g0==0)))=false:=by simpa using K2);(try(have M2:decide (d0=2&&(e0==0&&(g0==0)))=false:=by simpa using K2));(try(have N2:(d0==2&&(e0==0&&(g0==0)))=false:=by simpa using K2));(try(have e3:¬(d0=2&&(e0==0&&(g0==0))):=by simpa using K2));clear K2;replace H:=qq H;obtain⟨g3,j3,H⟩|⟨l3,g3,j3,H⟩:=H
      ·replace H:=qb H;obtain⟨n3,p3,H⟩:=H;replace H:=qc H;obtain⟨rfl,H⟩|⟨rfl,H⟩:=H
       ·replace H:=qb H;obtain⟨q3,r3,H⟩:=H;replace H:=qc H;obtain⟨rfl,H⟩|⟨rfl,H⟩:=H
        ·replace H:=qs H;obtain⟨s3,t3,H⟩:=H;replace H:=qn H;obtain⟨v3,H⟩:=H;have w3:=qa v3;clear v3;replace H:=qs H;obtain⟨x3,y3,H⟩:=H;obtain⟨A3,B3⟩:∃j_:Int,(wrap64 (e0-1))=j_:=⟨_,rfl⟩;(first|rw[B3]at H|(try simp only[B3]at H));(try rw[B3]at p3);(try rw[B3]at r3);have C3:(IntKind.i64.wrap (e0-1))=A3:=(i64_w _).trans B3;replace H:=qd H;obtain⟨D3,H⟩:=H;replace H:=qd H;obtain⟨E3,H⟩:=H;obtain⟨G3,hy_⟩:∃y_:List Int,y_=(x3.set ((A3):Int).toNat g0):=⟨_,rfl⟩;replace H:(some (G3,true))=some (l0,n0):=yh;have J3:=qa hy_;clear hy_;simp only[Option.some.injEq,Prod.mk.injEq]at H;obtain⟨rfl,rfl⟩:=H;obtain⟨K3,L3,M3,N3,P3,Q3⟩:=qk3 y0
         go_wp2_with(first|(go_at_call 84;(with_reducible refine gm (spec_l1In.calls e0 1 24 true _ p3.out) fun nd=>?_);(try(rw[drewN_self wc];generalize hq_:World.drewN wc _=wc;have n0_:Aside0 (wc.heap[w0]? =some (.cells #[.int .i64 d0,.int .i64 e0,.int .i64 g0] 55 (0,0))):=⟨by rw[←hq_];exact(bk)⟩;have n1_:Aside0 (Below w.heap.size w wc):=⟨by rw[←hq_];exact(bl)⟩;clear y0 HB hq_;have y0:=n0_;have HB:=n1_;clear n0_ n1_));(try have R3:wc.cell? ⟨w0,0,none⟩=some (.int .i64 d0):=(blk_cell y0.out 0).trans rfl);(try have U3:wc.cell? ⟨w0,1,none⟩=some (.int .i64 e0):=(blk_cell y0.out 1).trans rfl);(try have V3:wc.cell? ⟨w0,2,none⟩=some (.int .i64 g0):=(blk_cell y0.out 2).trans rfl);(try have W3:=blk_frozen y0.out 0);(try have X3:=blk_frozen y0.out 1);(try have Y3:=blk_frozen y0.out 2))|(go_at_call 84;(with_reducible refine gm (spec_l1In.calls g0 0 9999 true _ r3.out) fun nd=>?_);(try(rw[drewN_self wc];generalize hq_:World.drewN wc _=wc;have n0_:Aside0 (wc.heap[w0]? =some (.cells #[.int .i64 d0,.int .i64 e0,.int .i64 g0] 55 (0,0))):=⟨by rw[←hq_];exact(bk)⟩;have n1_:Aside0 (Below w.heap.size w wc):=⟨by rw[←hq_];exact(bl)⟩;clear y0 HB hq_;have y0:=n0_;have HB:=n1_;clear n0_ n1_));(try have R3:wc.cell? ⟨w0,0,none⟩=some (.int .i64 d0):=(blk_cell y0.out 0).trans rfl);(try have U3:wc.cell? ⟨w0,1,none⟩=some (.int .i64 e0):=(blk_cell y0.out 1).trans rfl);(try have V3:wc.cell? ⟨w0,2,none⟩=some (.int .i64 g0):=(blk_cell y0.out 2).trans rfl);(try have W3:=blk_frozen y0.out 0);(try have X3:=blk_frozen y0.out 1);(try have Y3:=blk_frozen y0.out 2))|((with_reducible refine gate_dst (N:=61) rfl ?_);refine Kd.R_lit (Kd.int .i64) _ 3 ?hg (N:=61) ?hd (xs:=([]:List Int)) (inner:=[]) (ok:=fun _=>True) (okp:=fun _=>True) ?hr ?hp (fun _ hk=>hk) trivial (Below.refl _ _) (Nat.le_refl _) (by simp) ?_;(case hd=>rfl);(case hg=>rfl);(case hr=>exact gr);(case hp=>exact(Reps.none _ _));intro a4 b4 c4 hb hg_ hnew_;clear hg_ hnew_;(first|rw[←t3.out]at c4|(simp only[Int.reduceToNat]at c4;rw[←t3.out]at c4));have d4:=qa (Kd.R_lower c4 (below_size (bl)));replace y0:=qbb y0 hb;replace HB:=bs hb;clear hb c4)|((with_reducible refine gate_builtin (b:= .append) (xs:=#[.tmp 61,.tmp 62]) rfl ?_);at_builtin;refine Kd.R_append_rows (Kd.int .i64) (w0:=w) w.heap.size rfl (.tmp 61) (.tmp 62) 22 3 (.int .i64 0) 8 rfl Tryz.underlying22 info3 rfl (by decide) (by omega) a4 s3 c0 _ _ _ (fun _=>True) (fun _=>False) rfl rfl ?aO ?aR (fun _ _ h=>h) (fun _ h=>h.elim) ?aF ?aB ?aS ?aL ?_;(case aR=>exact cx (Kd.C_below s0.out HB.out));(case aB=>exact(bl));(case aF=>exact(fun _ _=>trivial));(case aO=>exact(kR d4));(case aS=>exact(below_size (bl)));(case aL=>have:=w3.out;omega);intro e4 g4 ho hb hg hat;rw[←y3.out]at ho;replace y0:=qa (blk_grown (g:=w0) (o:= .cells #[.int .i64 d0,.int .i64 e0,.int .i64 g0] 55 (0,0)) (bk) hg (Kd.R_ne d4.out y0.out (by decide)));replace HB:=qa (hb);have j4:=qa (ho);clear d4;clear ho hb hg hat;obtain⟨l4,n4,p4,q4,r4,s4⟩:=qk3 y0;have t4:0≤((A3):Int):=qo;have v4:((A3):Int)<((x3.length:Int):Int):=qo;obtain⟨w4,x4,y4,A4,gl39,cl39,HG39⟩:=Kd.R_form j4.out (by omega);(first|cases y4|(injection y4 with ea_ en_ ec_;(first|subst ea_|(injection ea_ with ea_;subst ea_));subst ec_;clear en_));have GB39:=qa A4;have GG39:=qa HG39;clear A4 gl39 HG39;obtain⟨B4,C4⟩:=Kd.R_celln 0 j4.out ((A3):Int) t4 v4;replace t4:=eq_true t4;replace v4:=eq_true v4;obtain⟨hy45_,hz45_⟩:=Kd.R_celln 0 j4.out ((A3):Int) (qo) (qo);have HP45:=Kd.R_putg j4.out ((A3):Int) g0)|((with_reducible refine gate_store (t:=3) (p:=70) rfl ?_);refine store_event (t:=3) (p:=70) (v:=?vo_w46) (w1:=(g4.setCell ⟨w4,((A3):Int).toNat,none⟩ (.int .i64 g0))) ?hg ?ho ?hn ?hr ?_;(case ho=>rfl);(case hg=>rfl);(case hn=>rfl);(case hr=>exact gr);intro D4 hw;have hg:g4.grownBy D4 (some w4):=(by rw[hw];exact HP45.2);have hp_:Kd.R (Kd.int .i64) 3 D4 w.heap.size (fun _=>True) (.slice (some ⟨w4,0,none⟩) x3.length x4) G3:=(by rw[hw,J3.out];exact HP45.1);clear HP45;replace y0:=qa (blk_grown (g:=w0) (o:= .cells #[.int .i64 d0,.int .i64 e0,.int .i64 g0] 55 (0,0)) (bk) hg (Kd.R_ne j4.out y0.out (by decide)));replace j4:=qa (hp_);replace HB:=qa ((by rw[hw];exact below_set (HB.out) GB39.out:Below w.heap.size w D4));clear hg hw hp_))
         go_ret2;exact⟨_,by first|rfl|(simp[errW_none,errW_some];exact⟨rfl,rfl⟩)|(simp[errW_none,errW_some] <;> rfl)|(simp only[←B3];first|rfl|(simp[errW_none,errW_some] <;> rfl))|(simp[*,errW_none,errW_some] <;> rfl),kR j4,bl⟩
        ·obtain⟨E4,hy_⟩:∃y_:List Int,y_=(([]:List Int)):=⟨_,rfl⟩;replace H:(some (E4,false))=some (l0,n0):=yh;have G4:=qa hy_;clear hy_;simp only[Option.some.injEq,Prod.mk.injEq]at H;obtain⟨rfl,rfl⟩:=H;obtain⟨J4,K4,L4,M4,N4,P4⟩:=qk3 y0
         go_wp2_with(first|(go_at_call 84;(with_reducible refine gm (spec_l1In.calls e0 1 24 true _ p3.out) fun nd=>?_))|(go_at_call 84;(with_reducible refine gm (spec_l1In.calls g0 0 9999 false _ r3.out) fun nd=>?_))|((with_reducible refine gate_dst (N:=72) rfl ?_);refine Kd.R_lit (Kd.int .i64) _ 3 ?hg (N:=72) ?hd (xs:=([]:List Int)) (inner:=[]) (ok:=fun _=>True) (okp:=fun _=>True) ?hr ?hp (fun _ hk=>hk) trivial (Below.refl _ _) (Nat.le_refl _) (by simp) ?_;(case hd=>rfl);(case hg=>rfl);(case hr=>exact gr);(case hp=>exact(Reps.none _ _));intro Q4 R4 U4 hb hg_ hnew_;clear hg_ hnew_;(first|rw[←G4.out]at U4|(simp only[Int.reduceToNat]at U4;rw[←G4.out]at U4));have V4:=qa (Kd.R_lower U4 (below_size (bl)));replace y0:=qbb y0 hb;replace HB:=bs hb;clear hb U4))
         go_ret2;exact⟨_,er,kR V4,bl⟩
       ·obtain⟨W4,hy_⟩:∃y_:List Int,y_=(([]:List Int)):=⟨_,rfl⟩;replace H:(some (W4,false))=some (l0,n0):=yh;have X4:=qa hy_;clear hy_;simp only[Option.some.injEq,Prod.mk.injEq]at H;obtain⟨rfl,rfl⟩:=H;obtain⟨Y4,a5,b5,c5,d5,e5⟩:=qk3 y0
        go_wp2_with(first|(go_at_call 84;(with_reducible refine gm (spec_l1In.calls e0 1 24 false _ p3.out) fun nd=>?_))|((with_reducible refine gate_dst (N:=72) rfl ?_);refine Kd.R_lit (Kd.int .i64) _ 3 ?hg (N:=72) ?hd (xs:=([]:List Int)) (inner:=[]) (ok:=fun _=>True) (okp:=fun _=>True) ?hr ?hp (fun _ hk=>hk) trivial (Below.refl _ _) (Nat.le_refl _) (by simp) ?_;(case hd=>rfl);(case hg=>rfl);(case hr=>exact gr);(case hp=>exact(Reps.none _ _));intro g5 j5 l5 hb hg_ hnew_;clear hg_ hnew_;(first|rw[←X4.out]at l5|(simp only[Int.reduceToNat]at l5;rw[←X4.out]at l5));have n5:=qa (Kd.R_lower l5 (below_size (bl)));replace y0:=qbb y0 hb;replace HB:=bs hb;clear hb l5))
        go_ret2;exact⟨_,er,kR n5,bl⟩
      ·obtain⟨p5,q5⟩:∃y_:List Int,y_=(([]:List Int)):=⟨_,rfl⟩;(replace H:(some (p5,false))=some (l0,n0):=by first|(rw[q5];with_reducible exact H)|(have H2_:=(Option.bind_some _ _).symm.trans H;rw[q5];with_reducible exact H2_)|(have H2_:=(Option.bind_some _ _).symm.trans H;with_reducible exact H2_)|with_reducible exact H|(rw[q5];exact H)|exact H);have r5:=qa q5;clear q5;simp only[Option.some.injEq,Prod.mk.injEq]at H;obtain⟨rfl,rfl⟩:=H;obtain⟨s5,t5,v5,w5,x5,y5⟩:=qk3 y0
       go_wp2_with(first|((with_reducible refine gate_dst (N:=72) rfl ?_);refine Kd.R_lit (Kd.int .i64) _ 3 ?hg (N:=72) ?hd (xs:=([]:List Int)) (inner:=[]) (ok:=fun _=>True) (okp:=fun _=>True) ?hr ?hp (fun _ hk=>hk) trivial (Below.refl _ _) (Nat.le_refl _) (by simp) ?_;(case hd=>rfl);(case hg=>rfl);(case hr=>exact gr);(case hp=>exact(Reps.none _ _));intro A5 B5 C5 hb hg_ hnew_;clear hg_ hnew_;(first|rw[←r5.out]at C5|(simp only[Int.reduceToNat]at C5;rw[←r5.out]at C5));have D5:=qa (Kd.R_lower C5 (below_size (bl)));replace y0:=qbb y0 hb;replace HB:=bs hb;clear hb C5))
       go_ret2;exact⟨_,er,kR D5,bl⟩

def spec_l12Same.l0:Nat→List Int→List Int→Int→Option (Bool)
 |0,_,_,_=>none
 |k+1,a0,b0,c0=>if c0<24 then(if 0≤c0 then(if c0<(a0.length:Int)then(if c0<(b0.length:Int)then(if(rd a0 c0)=(rd b0 c0)then(spec_l12Same.l0 k a0 b0 (wrap64 (c0+1)))else(some false))else(none))else(none))else(none))else(some true)
def spec_l12Same.f (k:Nat) (a0:List Int) (b0:List Int):Option (Bool):=spec_l12Same.l0 k a0 b0 0
set_option maxHeartbeats 8000000 in
set_option maxRecDepth 100000 in
theorem spec_l12Same.calls (k:Nat) (a0:Option Addr) (b0:Nat) (c0:List Int) (d0:Option Addr) (e0:Nat) (g0:List Int) (r:Bool) (w:World) (j0:Kd.C (Kd.int .i64) w a0 c0.length c0) (n0:c0.length≤b0) (p0:Kd.C (Kd.int .i64) w d0 g0.length g0) (q0:g0.length≤e0) (h:spec_l12Same.f k c0 g0=some r):
  Calls Tryz.prog 81 #[.slice a0 c0.length b0,.slice d0 g0.length e0] w fun e w'=>e= .returned (.bool r)∧Drawn0 w w':=by
 have r0:=qa j0;have s0:=qa n0;clear j0 n0;have t0:=qa p0;have v0:=qa q0;clear p0 q0;have H:=h;unfold spec_l12Same.f at H;clear h;have H':=qa H;clear H
 go_enter Tryz.func81,Tryz.ntmps81
 go_wp2
 repeat(go_quiet(fail);try go_wp2)
 go_loopg [5] k (fun kq w0 w'=>∃(x0:Int),w0= .int .i64 x0∧Aside0 (spec_l12Same.l0 kq c0 g0 x0=some r)∧Aside0 (kq≤k)∧Drawn0 w w')
 case atStart=>exact⟨(0),(sd),H',⟨Nat.le_refl _⟩,dr⟩
 case round=>
  clear H';obtain⟨x0,rfl,HA,HK1,⟨m1,rfl⟩⟩:=hrel;obtain⟨k1,rfl,H⟩:=kz gk HA;clear HA;simp only[spec_l12Same.l0]at H;replace H:=qe H;obtain⟨y0,H⟩|⟨y0,H⟩:=H
  ·replace H:=qd H;obtain⟨A0,H⟩:=H;replace H:=qd H;obtain⟨B0,H⟩:=H;replace H:=qd H;obtain⟨C0,H⟩:=H;replace H:=qq H;obtain⟨D0,E0,H⟩|⟨G0,D0,E0,H⟩:=H
   ·have H':=qa H;clear H;obtain⟨J0,⟨⟩,K0,L0,M0⟩:=ai r0.out x0;obtain⟨N0,⟨⟩,P0,Q0,R0⟩:=ai t0.out x0;go_wp2
    repeat(go_quiet(fail);try go_wp2)
    go_roundg k1
    case measure=>have:=HK1.out;omega
    case rel=>exact⟨(wrap64 (x0+1)),(sd),H',⟨by have:=HK1.out;omega⟩,dr⟩
   ·obtain rfl:=sj H;obtain⟨J0,⟨⟩,K0,L0,M0⟩:=ai r0.out x0;obtain⟨N0,⟨⟩,P0,Q0,R0⟩:=ai t0.out x0;go_wp2
    repeat(go_quiet(fail);try go_wp2)
    go_ret;exact⟨sd,dr⟩
  ·obtain rfl:=sj H;go_wp2
   repeat(go_quiet(fail);try go_wp2)
   go_ret;exact⟨sd,dr⟩
attribute [local go_sem high] eqA55
/-- The last row of a row of rows, and what stands ahead of it: apart. -/
theorem S_pop {α:Type} {d:Kd α} {e e':Nat} {w:World} {base:Nat} {ok:Nat→Prop} {ad:Addr} {n cap m:Nat} {xs:List (List α)} (h:Kd.S (Kd.slice e' d) e w base ok (.slice (some ad) n cap) xs) (hn:xs.length=m+1) (a0:n=m+1):
  ∃v,w.cell? (ad.add m)=some v∧Kd.R d e' w base (fun k=>ok k) v (xs.getD m [])∧Kd.S (Kd.slice e' d) e w base (fun k=>ok k∧some k≠v.ownBlock) (.slice (some ad) m cap) (xs.take m):=by
 obtain⟨f,hf⟩:=h;(have hlen:xs.zipIdx.length=m+1:=by rw[List.length_zipIdx];exact hn);obtain⟨c,hcl,hM,hc⟩:=Kd.R_getA hf (([]:List α),m) (m:Int) (by omega) (by omega)
 have hz:xs.zipIdx.getD ((m:Int)).toNat (([]:List α),m)=(xs.getD m [],m):=by
  (have b0:((m:Int)).toNat =m:=by omega);rw[b0,List.getD_eq_getElem?_getD,List.getElem?_zipIdx,List.getD_eq_getElem?_getD,List.getElem?_eq_getElem (by omega)]
  simp
 rw[hz]at hM;obtain⟨v,rfl,hv⟩:=hM
 have hcell:w.cell? (ad.add m)=some v:=by
  have:=hc 0 v rfl
  have b0:((m:Int)).toNat *(Kd.tag f (Kd.slice e' d)).sz +0=m:=by
   show((m:Int)).toNat *1+0=m
   omega
  rwa [b0]at this
 refine⟨v,hcell,Kd.R_mono hv (fun k hk=>hk.1.1),f,?_⟩;have ht:=Kd.R_take hf (m:=m) (by omega)
 have c0:(xs.take m).zipIdx =xs.zipIdx.take m:=by
  apply List.ext_getElem?
  intro j;rw[List.getElem?_zipIdx,List.getElem?_take,List.getElem?_take,List.getElem?_zipIdx]
  split <;> simp
 rw[c0];obtain⟨h0,inner,ho,hr⟩:=ht;(have hvb:∀k,v.ownBlock=some k→f k=m∧some k≠(Value.slice (some ad) m cap).ownBlock :=fun k hk=>⟨(hv.1 k hk).2,fun e=>(hv.1 k hk).1.2 (by rw[e];rfl)⟩);refine⟨fun k hk=>⟨h0 k hk,fun e=>(hvb k e.symm).2 hk.symm⟩,inner,ho,hr.1,fun j p hj=>?_⟩;have hq:=hr.2 j p hj
 have hp:p.2=j∧j<m:=by
  rw[List.getElem?_take]at hj
  split at hj
  ·rename_i hlt
   rw[List.getElem?_zipIdx]at hj;obtain⟨x,hx,rfl⟩:=Option.map_eq_some_iff.1 hj;exact⟨by simp,hlt⟩
  ·cases hj
 refine(Kd.tag f (Kd.slice e' d)).M_mono (fun k hk=>hk) ?_;exact(Kd.slice e' d).M_mono (fun k hk=>⟨⟨⟨hk.1.1,fun e=>by have:=(hvb k e.symm).1;have:=hk.2;omega⟩,hk.1.2⟩,hk.2⟩) hq
theorem w64_small (x:Int) (h0:0≤x) (h1:x<4096):wrap64 x=x:=by
 unfold wrap64
 omega

mutual
def spec_DeskDo.j0:Nat→Bool→List Int→List (List Int)→Int→Int→Int→List Int→List (List Int)→Option (List Int×(List (List Int))×Bool)
 |0,_,_,_,_,_,_,_,_=>none
 |k+1,a0,b0,c0,d0,e0,g0,l0,n0=>if a0=true then(if 0<n0.length∧n0.length<4096 then(some (n0.getD (n0.length-1) [],n0.take (n0.length-1),true))else none)else((spec_l12Made.f k b0 d0 e0 g0).bind fun p0=>(if p0.2=true then((spec_l12Same.f k p0.1 b0).bind fun q0=>(spec_DeskDo.j1 k p0.1 q0 l0 n0))else(spec_DeskDo.j1 k p0.1 true l0 n0)))
def spec_DeskDo.j1:Nat→List Int→Bool→List Int→List (List Int)→Option (List Int×(List (List Int))×Bool)
 |0,_,_,_,_=>none
 |k+1,r0,s0,l0,n0=>if s0=true then(some (l0,n0,false))else(if n0.length<5864062014805 then((some (n0++[l0]:List (List Int))).bind fun t0=>(if(t0.length:Int)>8 then(if 1≤(t0.length:Int)then(some (r0,(t0.drop (1:Int).toNat),true))else(none))else(some (r0,t0,true))))else(none))
end

def spec_DeskDo.f (k:Nat) (a0:List Int) (b0:List (List Int)) (c0:Int) (d0:Int) (e0:Int):Option (List Int×(List (List Int))×Bool):=(spec_DeskOk.f k a0 b0).bind fun g0=>(if g0=true then((spec_l12Copy.f k a0 b0).bind fun l0=>(if(c0==4&&(d0==0&&(e0==0)))=true then(spec_DeskDo.j0 k (decide ((b0.length:Int)>0)) a0 b0 c0 d0 e0 l0.1 l0.2)else(spec_DeskDo.j0 k false a0 b0 c0 d0 e0 l0.1 l0.2)))else(some (([]:List Int),([]:List (List Int)),false)))
set_option maxHeartbeats 8000000 in
set_option maxRecDepth 100000 in
theorem spec_DeskDo.calls (k:Nat) (a0:Option Addr) (b0:Nat) (c0:List Int) (d0:Option Addr) (e0:Nat) (g0:List (List Int)) (l0:Int) (n0:Int) (p0:Int) (q0:List Int) (r0:List (List Int)) (s0:Bool) (w:World) (t0:Kd.C (Kd.int .i64) w a0 c0.length c0) (v0:c0.length≤b0) (w0:Kd.C (Kd.slice 3 (Kd.int .i64)) w d0 g0.length g0) (x0:g0.length≤e0) (h:spec_DeskDo.f k c0 g0 l0 n0 p0=some (q0,r0,s0)):
  Calls Tryz.prog 42 #[.agg #[.slice a0 c0.length b0,.slice d0 g0.length e0],.agg #[.int .i64 l0,.int .i64 n0,.int .i64 p0]] w fun e w'=>∃v0_ v1_:Value,e= .returned (.tuple #[.agg #[v0_,v1_],.bool s0])∧Kd.R (Kd.int .i64) 3 w' w.heap.size (fun _=>True) v0_ q0∧Kd.Q (Kd.slice 3 (Kd.int .i64)) 22 w' w.heap.size (fun k_=>some k_≠(v0_:Value).ownBlock) v1_ r0∧Below w.heap.size w w':=by
 have y0:=Tryz.underlying27;have A0:=Tryz.underlying55;have B0:=qa t0;have C0:=qa v0;clear t0 v0;have D0:=qa w0;have E0:=qa x0;clear w0 x0;have HB:=qa (Below.refl w.heap.size w);have H:=h;unfold spec_DeskDo.f at H;clear h;replace H:=qb H;obtain⟨G0,J0,H⟩:=H;replace H:=qc H;obtain⟨rfl,H⟩|⟨rfl,H⟩:=H
 ·replace H:=qb H;obtain⟨⟨K0,L0⟩,M0,H⟩:=H;(try dsimp only at H);have N0:=qa H;clear H
  go_enter Tryz.func42,Tryz.ntmps42
  go_upto_region 4 with(go_big_may;first|((with_reducible refine gate_dst (N:=2) rfl ?_);(try(refine gate_guard (by rfl) ?_;dsimp only));refine bx 2 #[.slice a0 c0.length b0,.slice d0 g0.length e0] 27 ?_;intro P0 hg Q0 hbox hb;have R0:=qa (hbox);have U0:=gw hg;have V0:=gw hg;replace HB:=bs hb;clear hb hbox hg)|((with_reducible refine gate_dst (N:=3) rfl ?_);(try(refine gate_guard (by rfl) ?_;dsimp only));refine bx 3 #[.int .i64 l0,.int .i64 n0,.int .i64 p0] 55 ?_;intro W0 hg X0 hbox hb;have Y0:=qa (hbox);have a1:=gw hg;have b1:=gw hg;replace HB:=bs hb;have c1:=qnl hg R0;have d1:=qng hg R0;replace R0:=qbb R0 hb;clear hb hbox hg)|((with_reducible refine gate_dst (N:=4) rfl ?_);(try(refine gate_guard (by rfl) ?_;dsimp only));refine bx 4 #[.slice none 0 0,.slice none 0 0] 27 ?_;intro e1 hg g1 hbox hb;have l1:=qa (hbox);have n1:=gw hg;have p1:=gw hg;replace HB:=bs hb;have q1:=qnl hg R0;have r1:=qng hg R0;replace R0:=qbb R0 hb;have s1:=qnl hg Y0;have t1:=qng hg Y0;replace Y0:=qbb Y0 hb;clear hb hbox hg;have v1:=c1.out;have w1:=d1.out;have x1:=q1.out;have y1:=r1.out;obtain⟨A1,B1,C1,D1⟩:=qk2 R0)|(refine gb 11 Tryz.func20 (spec_DeskOk.calls k _ _ c0 _ _ g0 true _ (cx (Kd.C_below B0.out HB.out)) C0.out (cx (Kd.C_below D0.out HB.out)) E0.out J0.out) fun E1 hb=>?_;replace R0:=qbb R0 hb;replace Y0:=qbb Y0 hb;replace l1:=qbb l1 hb;replace HB:=bs hb;obtain⟨G1,J1,K1,L1⟩:=qk2 R0)|(refine gol (some 15) Tryz.func40 #[.agg #[.slice a0 c0.length b0,.slice d0 g0.length e0]] ?_;(with_reducible refine(spec_l12Copy.calls k _ _ c0 _ _ g0 K0 L0 _ ?M1 ?N1 ?P1 ?Q1 M0.out).mono ?_);(case M1=>exact cx (Kd.C_below B0.out HB.out));(case N1=>exact C0.out);(case P1=>exact cx (Kd.C_below D0.out HB.out));(case Q1=>exact E0.out);rintro e R1 ⟨U1,V1,rfl,W1,X1,hb⟩;refine⟨_,rfl,?_⟩;have Y1:=qa (Kd.R_lower W1 (below_size (bl)));have a2:=qa (Kd.S_lower X1 (below_size (bl)));replace R0:=qbb R0 hb;replace Y0:=qbb Y0 hb;replace l1:=qbb l1 hb;replace HB:=bs hb)|((with_reducible refine gate_dst (N:=6) rfl ?_);(try(refine gate_guard (by rfl) ?_;dsimp only));refine bx 6 #[.slice none 0 0,.slice none 0 0] 27 ?_;intro b2 hg c2 hbox hb;replace Y1:=qa (Kd.R_below (kR Y1) hb);replace a2:=qa (Kd.S_below (kS a2) hb);have d2:=qa (hbox);have e2:=gw hg;have g2:=gw hg;replace HB:=bs hb;have j2:=qnl hg R0;have l2:=qng hg R0;replace R0:=qbb R0 hb;have n2:=qnl hg Y0;have p2:=qng hg Y0;replace Y0:=qbb Y0 hb;have q2:=qnl hg l1;have r2:=qng hg l1;replace l1:=qbb l1 hb;clear hb hbox hg;obtain⟨s2,t2,rfl⟩:=Kd.R_slice Y1.out;have v2:=l2.out;have w2:=j2.out;have x2:=p2.out;have y2:=n2.out;have A2:=r2.out;have B2:=q2.out;obtain⟨C2,D2,E2,G2⟩:=qk2 d2;obtain⟨J2,K2,rfl⟩:=Kd.S_slice a2.out))
  (try simp only[Act.put,List.setIfInBounds_toArray,List.set_cons_zero,List.set_cons_succ])
  go_cut [24] (fun L2 wc=>∃(kq:Nat) (M2:Bool),L2= .bool M2∧Aside0 (spec_DeskDo.j0 kq M2 c0 g0 l0 n0 p0 K0 L0=some (q0,r0,s0))∧Aside0 (kq≤k)∧Aside0 (Kd.R (Kd.int .i64) 3 wc w.heap.size (fun _=>True) (.slice s2 K0.length t2) K0)∧Aside0 (Kd.S (Kd.slice 3 (Kd.int .i64)) 22 wc w.heap.size (fun k_=>some k_≠((.slice s2 K0.length t2):Value).ownBlock) (.slice J2 L0.length K2) L0)∧Aside0 (wc.heap[P0]? =some (.cells #[(.slice a0 c0.length b0),(.slice d0 g0.length e0)] 27 (0,0)))∧Aside0 (wc.heap[W0]? =some (.cells #[.int .i64 l0,.int .i64 n0,.int .i64 p0] 55 (0,0)))∧Aside0 (wc.heap[e1]? =some (.cells #[(.slice none 0 0),(.slice none 0 0)] 27 (0,0)))∧Aside0 (wc.heap[b2]? =some (.cells #[(.slice s2 K0.length t2),(.slice J2 L0.length K2)] 27 (0,0)))∧Aside0 (Below w.heap.size w wc))
  case first=>
   have H:=N0.out;clear N0
   by_cases N2:(l0==4&&(n0==0&&(p0==0)))=true
   ·rw[if_pos N2]at H;have P2:(l0==4&&(n0==0&&(p0==0)))=true:=N2;(try(have Q2:decide (l0=4&&(n0==0&&(p0==0)))=true:=by simpa using N2));(try(have R2:(l0==4&&(n0==0&&(p0==0)))=true:=by simpa using N2));clear N2;(first|rw[P2]|(simp only[i64_w,i32_w];rw[P2])|skip);have H':=qa H;clear H;have U2:=d1.out;have V2:=c1.out;have W2:=s1.out;have X2:=t1.out;have Y2:=n2.out;have a3:=p2.out;obtain⟨b3,c3,d3,e3,g3,j3⟩:=qk3 Y0;have l3:=q1.out;have n3:=r1.out;have p3:=j2.out;have q3:=l2.out;obtain⟨r3,s3,t3,v3⟩:=qk2 R0;go_wp2;go_meet
    case rel=>exact⟨_,(decide ((g0.length:Int)>0)),(sd),H',⟨by first|omega|exact Nat.le_refl _⟩,⟨kFR Y1 d2 (fun _ hk=>trivial)⟩,⟨(kFS a2 d2 (fun _ hk=>hk.1))⟩,⟨kb R0⟩,⟨kb Y0⟩,⟨kb l1⟩,⟨kP d2⟩,⟨bl⟩⟩
   ·rw[if_neg N2]at H;(have P2:(l0==4&&(n0==0&&(p0==0)))=false:=by simpa using N2);(try(have Q2:decide (l0=4&&(n0==0&&(p0==0)))=false:=by simpa using N2));(try(have R2:(l0==4&&(n0==0&&(p0==0)))=false:=by simpa using N2));(try(have w3:¬(l0=4&&(n0==0&&(p0==0))):=by simpa using N2));clear N2;(first|rw[P2]|(simp only[i64_w,i32_w];rw[P2])|skip);have H':=qa H;clear H;have x3:=d1.out;have y3:=c1.out;have A3:=s1.out;have B3:=t1.out;have C3:=n2.out;have D3:=p2.out;obtain⟨E3,G3,J3,K3,L3,M3⟩:=qk3 Y0;go_wp2;go_meet
    case rel=>exact⟨_,(false),(sd),H',⟨by first|omega|exact Nat.le_refl _⟩,⟨kFR Y1 d2 (fun _ hk=>trivial)⟩,⟨(kFS a2 d2 (fun _ hk=>hk.1))⟩,⟨kb R0⟩,⟨kb Y0⟩,⟨kb l1⟩,⟨kP d2⟩,⟨bl⟩⟩
  case rest=>
   clear N0;obtain⟨kq,M2,rfl,HA,N3,P3,Q3,R0,Y0,l1,d2,HB⟩:=hcut;obtain⟨R3,rfl,H⟩:=kz kq HA;clear HA;simp only[spec_DeskDo.j0]at H
   by_cases U3:M2=true
   ·subst U3;(have H1:(if 0<L0.length∧L0.length<4096 then(some (L0.getD (L0.length-1) [],L0.take (L0.length-1),true))else none)=some (q0,r0,s0):=by rw[if_pos rfl]at H;exact H);clear H
    by_cases c_:0<L0.length∧L0.length<4096
    ·rw[if_pos c_]at H1;simp only[Option.some.injEq,Prod.mk.injEq]at H1;obtain⟨e1_,e2_,rfl⟩:=H1;obtain⟨j_,hj_⟩:∃j_:Int,(L0.length:Int)-1=j_:=⟨_,rfl⟩;(have hm_:L0.length=j_.toNat+1:=by omega);(have em_:L0.length-1=j_.toNat:=by omega);rw[em_]at e1_ e2_;have hPc_:=(Kd.R_reads' (Kd.S_R Q3.out)).2.1
     obtain⟨ad_,ea_⟩:∃ad_,J2=some ad_:=by
      obtain⟨g_,c2_,e_,_⟩:=Kd.S_form Q3.out (by omega);(injection e_ with e_ _ _);exact⟨_,e_⟩
     subst ea_;obtain⟨v_,hcell_,hv_,hrest_⟩:=S_pop Q3.out hm_ hm_;rw[e1_]at hv_;rw[e2_]at hrest_;obtain⟨Av_,cv_,ev_⟩:=Kd.R_slice hv_;subst ev_;have hQ_:=Kd.Q_of_R (Kd.S_R hrest_);(have hwj_:IntKind.i64.wrap ((L0.length:Int)-1)=j_:=by rw[i64_w,hj_];exact w64_small _ (by omega) (by omega));have hp_:(0≤j_)=True:=eq_true (by omega);have hq_:(j_<(L0.length:Int))=True:=eq_true (by omega);obtain⟨i0_,hi0_,_,hsz_,_⟩:=info_parts info22;have hcut_:=cut_to (P:=Tryz.prog) 23 22 .i64 Tryz.underlying23 hi0_ (some ad_) L0.length K2 j_ (by omega) (by omega) hPc_;clear hi0_ hsz_ hrest_ e1_ e2_ hm_ em_ c_ hj_ hPc_;have V3:=q1.out;have W3:=j2.out;have X3:=s1.out;have Y3:=n2.out;have a4:=r1.out;have b4:=t1.out;have c4:=q2.out;have d4:=l2.out;have e4:=p2.out;have g4:=r2.out;obtain⟨hcy_0,hcy_1,hfy_0,hfy_1⟩:=qk2 d2;have hcx_0:wc.cell? ⟨e1,0,none⟩=some (.slice none 0 0):=(blk_cell l1.out 0).trans rfl;have hcx_1:wc.cell? ⟨e1,1,none⟩=some (.slice none 0 0):=(blk_cell l1.out 1).trans rfl;have hfx_0:=blk_frozen l1.out 0;have hfx_1:=blk_frozen l1.out 1;go_wp2;refine bodyPost_ret (results_ct rfl _ _ e1 27 #[.slice Av_ q0.length cv_,.slice (some ad_) j_.toNat K2] (0,0) _ rfl (by(with_reducible repeat(first|refine blk_drewN ?_ _|refine blk_drew ?_|refine blk_alloc ?_ _));refine blk_put (cs:=#[.slice Av_ q0.length cv_,.slice none 0 0]) ?_ 1 _ rfl;(with_reducible repeat(first|refine blk_drewN ?_ _|refine blk_drew ?_|refine blk_alloc ?_ _));refine blk_put (cs:=#[.slice none 0 0,.slice none 0 0]) ?_ 0 _ rfl;(with_reducible repeat(first|refine blk_drewN ?_ _|refine blk_drew ?_|refine blk_alloc ?_ _));refine blk_far ?_ q2.out _;(with_reducible repeat(first|refine blk_drewN ?_ _|refine blk_drew ?_|refine blk_alloc ?_ _));refine blk_far ?_ q2.out _;(with_reducible repeat(first|refine blk_drewN ?_ _|refine blk_drew ?_|refine blk_alloc ?_ _));exact l1.out) Tryz.underlying27 rfl (by kernel_rfl)) rfl ?_;exact⟨_,_,er,kGR hv_ d2 l1 (fun _ hk=>trivial),kGQ hQ_ d2 l1 (fun _ hk=>hk.1.1.2),bl⟩
    ·rw[if_neg c_]at H1;exact absurd H1 (by simp)
   ·replace U3:=Bool.eq_false_iff.mpr U3;subst U3;have HQ_:=qa (Kd.Q_of_R (Kd.S_R Q3.out));clear Q3;have Q3:=HQ_;clear HQ_;replace H:=qf H;replace H:=qb H;obtain⟨⟨j4,l4⟩,n4,H⟩:=H;(try dsimp only at H);have p4:=qa H;clear H;have q4:=c1.out;have r4:=d1.out;have s4:=q1.out;have t4:=r1.out;have v4:=j2.out;have w4:=l2.out;obtain⟨x4,y4,A4,B4⟩:=qk2 R0;have C4:=s1.out;have D4:=t1.out;have E4:=n2.out;have G4:=p2.out;obtain⟨J4,K4,L4,M4,N4,P4⟩:=qk3 Y0
    go_upto_region 10 with(go_big_may;first|(refine ge_ 45 Tryz.func80 (spec_l12Made.calls R3 _ _ c0 l0 n0 p0 j4 l4 _ (cx (Kd.C_below B0.out HB.out)) C0.out n4.out) fun Q4 R4 W1 hb=>?_;replace Q3:=qa (Kd.Q_elder' (kQ Q3) (Kd.R_base W1) hb);have U4:=qa (Kd.R_lower (Kd.R_new' W1 (Kd.R_lt (kR P3))) (below_size (bl)));replace P3:=qa (Kd.R_elder' (kR P3) (Kd.R_base W1) hb);replace R0:=qbb R0 hb;replace Y0:=qbb Y0 hb;replace l1:=qbb l1 hb;replace d2:=qbb d2 hb;replace HB:=bs hb))
    (try simp only[Act.put,List.setIfInBounds_toArray,List.set_cons_zero,List.set_cons_succ])
    go_cut [55] (fun V4 wc=>∃(kq:Nat) (W4:Bool),V4= .bool W4∧Aside0 (spec_DeskDo.j1 kq j4 W4 K0 L0=some (q0,r0,s0))∧Aside0 (kq≤R3)∧Aside0 (Kd.R (Kd.int .i64) 3 wc w.heap.size (fun k_=>some k_≠((.slice s2 K0.length t2):Value).ownBlock) Q4 j4)∧Aside0 (Kd.R (Kd.int .i64) 3 wc w.heap.size (fun k_=>some k_≠(Q4:Value).ownBlock) (.slice s2 K0.length t2) K0)∧Aside0 (Kd.Q (Kd.slice 3 (Kd.int .i64)) 22 wc w.heap.size (fun k_=>some k_≠(Q4:Value).ownBlock ∧some k_≠((.slice s2 K0.length t2):Value).ownBlock) (.slice J2 L0.length K2) L0)∧Aside0 (wc.heap[P0]? =some (.cells #[(.slice a0 c0.length b0),(.slice d0 g0.length e0)] 27 (0,0)))∧Aside0 (wc.heap[W0]? =some (.cells #[.int .i64 l0,.int .i64 n0,.int .i64 p0] 55 (0,0)))∧Aside0 (wc.heap[e1]? =some (.cells #[(.slice none 0 0),(.slice none 0 0)] 27 (0,0)))∧Aside0 (wc.heap[b2]? =some (.cells #[(.slice s2 K0.length t2),(.slice J2 L0.length K2)] 27 (0,0)))∧Aside0 (Below w.heap.size w wc))
    case first=>
     have H:=p4.out;clear p4;replace H:=qc H;obtain⟨rfl,H⟩|⟨rfl,H⟩:=H
     ·replace H:=qb H;obtain⟨X4,Y4,H⟩:=H;have H':=qa H;clear H;have a5:=c1.out;have b5:=d1.out;have c5:=q1.out;have d5:=r1.out;have e5:=j2.out;have g5:=l2.out;obtain⟨j5,l5,n5,p5⟩:=qk2 R0;obtain⟨q5,r5,rfl⟩:=Kd.R_slice U4.out
      go_wp2_with(first|(go_at_call 81;(with_reducible refine(spec_l12Same.calls R3 _ _ j4 _ _ c0 X4 _ ?M1 ?N1 ?P1 ?Q1 Y4.out).mono ?_);(case M1=>exact cx (Kd.R_reads' U4.out).2.2);(case N1=>exact(Kd.R_reads' U4.out).2.1);(case P1=>exact cx (Kd.C_below B0.out HB.out));(case Q1=>exact C0.out);rintro e w' ⟨rfl,⟨nd,rfl⟩⟩))
      go_meet
      case rel=>exact⟨_,(X4),(sd),H',⟨by have:=N3.out;first|omega|exact Nat.le_refl _⟩,⟨by(with_reducible repeat(first|apply Kd.R_alloc|apply Kd.R_drewN|apply Kd.R_drew));exact Kd.R_mono U4.out (fun _ hk=>hk.2)⟩,⟨by(with_reducible repeat(first|apply Kd.R_alloc|apply Kd.R_drewN|apply Kd.R_drew));exact Kd.R_mono P3.out (fun _ hk=>hk.2)⟩,⟨by(with_reducible repeat(first|apply Kd.Q_alloc|apply Kd.Q_drewN|apply Kd.Q_drew));exact Kd.Q_mono Q3.out (fun _ hk=>⟨hk.2,hk.1⟩)⟩,⟨bk⟩,⟨bk⟩,⟨bk⟩,⟨bk⟩,⟨bl⟩⟩
     ·have H':=qa H;clear H;go_wp2;go_meet
      case rel=>exact⟨_,(true),(sd),H',⟨by have:=N3.out;first|omega|exact Nat.le_refl _⟩,⟨by(with_reducible repeat(first|apply Kd.R_alloc|apply Kd.R_drewN|apply Kd.R_drew));exact Kd.R_mono U4.out (fun _ hk=>hk.2)⟩,⟨by(with_reducible repeat(first|apply Kd.R_alloc|apply Kd.R_drewN|apply Kd.R_drew));exact Kd.R_mono P3.out (fun _ hk=>hk.2)⟩,⟨by(with_reducible repeat(first|apply Kd.Q_alloc|apply Kd.Q_drewN|apply Kd.Q_drew));exact Kd.Q_mono Q3.out (fun _ hk=>⟨hk.2,hk.1⟩)⟩,⟨bk⟩,⟨bk⟩,⟨bk⟩,⟨bk⟩,⟨bl⟩⟩
    case rest=>
     clear p4;obtain⟨kq,W4,rfl,HA,s5,t5,P3,Q3,R0,Y0,l1,d2,HB⟩:=hcut;obtain⟨v5,rfl,H⟩:=kz kq HA;clear HA;simp only[spec_DeskDo.j1]at H;replace H:=qc H;obtain⟨rfl,H⟩|⟨rfl,H⟩:=H
     ·simp only[Option.some.injEq,Prod.mk.injEq]at H;obtain⟨rfl,rfl,rfl⟩:=H;have w5:=l2.out;have x5:=j2.out;have y5:=p2.out;have A5:=n2.out;have B5:=r2.out;have C5:=q2.out;obtain⟨D5,E5,G5,J5⟩:=qk2 d2;have K5:=r1.out;have L5:=q1.out;have M5:=t1.out;have N5:=s1.out;obtain⟨P5,Q5,R5,U5⟩:=qk2 l1;go_wp2;refine bodyPost_ret (results_ct rfl _ _ e1 27 #[.slice s2 K0.length t2,.slice J2 L0.length K2] (0,0) _ rfl (kP l1) Tryz.underlying27 rfl (by kernel_rfl)) rfl ?_;exact⟨_,_,er,kFR P3 l1 (fun _ hk=>trivial),kFQ Q3 l1 (fun _ hk=>hk.1.2),bl⟩
     ·replace H:=qn H;obtain⟨V5,H⟩:=H;have W5:=qa V5;clear V5;replace H:=qs H;obtain⟨X5,Y5,H⟩:=H
      by_cases a6:(X5.length:Int)>8
      ·rw[if_pos a6]at H;have b6:decide (8<(X5.length:Int))=true:=decide_eq_true a6;have c6:decide (8<X5.length)=true:=decide_eq_true (by omega);clear a6;replace H:=qn H;obtain⟨d6,H⟩:=H;have e6:=eq_true d6;have g6:decide (1≤(X5.length:Int))=true:=decide_eq_true d6;clear d6;obtain⟨j6,hy_⟩:∃y_:List (List Int),y_=(X5.drop (1:Int).toNat):=⟨_,rfl⟩;replace H:(some (j4,j6,true))=some (q0,r0,s0):=yh;have l6:=qa hy_;clear hy_;simp only[Option.some.injEq,Prod.mk.injEq]at H;obtain⟨rfl,rfl,rfl⟩:=H;have n6:=l2.out;have p6:=j2.out;have q6:=p2.out;have r6:=n2.out;have s6:=r2.out;have t6:=q2.out;obtain⟨v6,w6,x6,y6⟩:=qk2 d2
       go_wp2_with(first|((with_reducible refine gate_builtin (b:= .append) (xs:=#[.tmp 58,.tmp 61]) rfl ?_);(try(refine gate_guard (by rfl) ?_;dsimp only));at_builtin;refine Kd.Q_append (Kd.slice 3 (Kd.int .i64)) (w0:=w) w.heap.size rfl (.tmp 58) (.tmp 61) 23 22 (.slice none 0 0) 24 rfl Tryz.underlying23 info22 rfl (by decide) (by omega) (.slice J2 L0.length K2) L0 K0 [.slice s2 K0.length t2] (fun k_=>some k_≠(Q4:Value).ownBlock) (fun k_=>((fun k_=>some k_≠(Q4:Value).ownBlock)) k_∧some k_≠(.slice J2 L0.length K2:Value).ownBlock) rfl rfl ?aP (fun _ hk=>hk) ?aF ?aO ?aB ?aS ?aL ?_;(case aP=>exact Kd.M_row (Kd.R_mono (Kd.R_apart' (P3.out) (Kd.Q_typed Q3.out) (by decide)) (fun k_ hk=>⟨hk.1,hk.2⟩)));(case aB=>exact(bl));(case aF=>exact(fun k_ hk=>Kd.fresh' (Kd.R_lt (kR t5)) k_ hk));(case aO=>exact(by(with_reducible repeat(first|apply Kd.Q_alloc|apply Kd.Q_drewN|apply Kd.Q_drew));exact Kd.Q_mono Q3.out (fun _ hk=>hk.1)));(case aS=>exact(below_size (bl)));(case aL=>have:=W5.out;omega);intro A6 B6 ho hb hg hat;rw[←Y5.out]at ho;replace t5:=qa (Kd.R_over' (kR t5) (Kd.Q_typed (kQ Q3)) (by decide) hg);replace R0:=qa (blk_grown (g:=P0) (o:= .cells #[.slice a0 c0.length b0,.slice d0 g0.length e0] 27 (0,0)) (bk) hg (Kd.Q_ne Q3.out R0.out (by decide)));replace Y0:=qa (blk_grown (g:=W0) (o:= .cells #[.int .i64 l0,.int .i64 n0,.int .i64 p0] 55 (0,0)) (bk) hg (Kd.Q_ne Q3.out Y0.out (by decide)));replace l1:=qa (blk_grown (g:=e1) (o:= .cells #[.slice none 0 0,.slice none 0 0] 27 (0,0)) (bk) hg (Kd.Q_ne Q3.out l1.out (by decide)));replace d2:=qa (blk_grown (g:=b2) (o:= .cells #[.slice s2 K0.length t2,.slice J2 L0.length K2] 27 (0,0)) (bk) hg (Kd.Q_ne Q3.out d2.out (by decide)));replace HB:=qa (hb);have C6:=qa (ho);clear Q3 P3;clear ho hb hg hat;obtain⟨D6,E6,G6,_⟩:=Kd.Q_slice C6.out;subst G6;obtain⟨J6,K6,L6,M6⟩:=qk2 d2)|((with_reducible refine gate_store (t:=23) (p:=63) rfl ?_);refine store_event (t:=23) (p:=63) (v:=?vo_w71) (w1:=(B6.setCell ⟨b2,1,none⟩ (.slice D6 X5.length E6))) ?hg ?ho ?hn ?hr ?_;(case ho=>rfl);(case hg=>rfl);(case hn=>rfl);(case hr=>exact gr);intro N6 hw;have n0_:Aside0 (Kd.R (Kd.int .i64) 3 N6 w.heap.size (fun _=>True) Q4 j4):=⟨(by rw[hw];exact(kFR t5 d2 (fun _ hk=>trivial)))⟩;have n1_:Aside0 (Kd.Q (Kd.slice 3 (Kd.int .i64)) 22 N6 w.heap.size (fun k_=>some k_≠(Q4:Value).ownBlock) (.slice D6 X5.length E6) X5):=⟨(by rw[hw];exact(kFQ C6 d2 (fun _ hk=>hk.1)))⟩;have n2_:Aside0 (N6.heap[P0]? =some (.cells #[.slice a0 c0.length b0,.slice d0 g0.length e0] 27 (0,0))):=⟨(by rw[hw];exact(kb R0))⟩;have n3_:Aside0 (N6.heap[W0]? =some (.cells #[.int .i64 l0,.int .i64 n0,.int .i64 p0] 55 (0,0))):=⟨(by rw[hw];exact(kb Y0))⟩;have n4_:Aside0 (N6.heap[e1]? =some (.cells #[.slice none 0 0,.slice none 0 0] 27 (0,0))):=⟨(by rw[hw];exact(kb l1))⟩;have n5_:Aside0 (N6.heap[b2]? =some (.cells #[.slice s2 K0.length t2,.slice D6 X5.length E6] 27 (0,0))):=⟨(by rw[hw];exact(kP d2))⟩;have n6_:Aside0 (Below w.heap.size w N6):=⟨(by rw[hw];exact(bl))⟩;clear hw;clear t5;clear C6;clear R0;clear Y0;clear l1;clear d2;clear HB;have t5:=n0_;have C6:=n1_;have R0:=n2_;have Y0:=n3_;have l1:=n4_;have d2:=n5_;have HB:=n6_;clear n0_ n1_ n2_ n3_ n4_ n5_ n6_;obtain⟨P6,Q6,R6,U6⟩:=qk2 d2;have V6:(1:Int)≤((X5.length:Int):Int):=qo;obtain⟨i073,W6,_,X6,_⟩:=info_parts info22;have Y6:=cut_from (P:=Tryz.prog) 23 22 .i64 Tryz.underlying23 W6 1 X6 D6 X5.length E6 1 (by omega) V6;have a7:=Kd.Q_drop (k:=(1:Int).toNat) C6.out (by omega);obtain⟨b7,hA73⟩:∃c7,c7=(if E6=(1:Int).toNat then D6 else(D6:Option Addr).map (·.add ((1:Int).toNat *1))):=⟨_,rfl⟩;obtain⟨d7,e7⟩:∃g7,g7=E6-(1:Int).toNat :=⟨_,rfl⟩;have j7:j6.length=X5.length-(1:Int).toNat :=(by rw[l6.out,List.length_drop]);rw[←l6.out]at a7;rw[←j7,←hA73,←e7]at Y6;replace a7:Kd.Q (Kd.slice 3 (Kd.int .i64)) 22 N6 w.heap.size (fun k_=>some k_≠(Q4:Value).ownBlock) (.slice b7 j6.length d7) j6:=(by rw[hA73,e7,j7];exact a7);have HE73:Aside0 ((Value.slice b7 j6.length d7).ownBlock =(.slice D6 X5.length E6:Value).ownBlock):=⟨by rw[hA73];split <;> (cases (D6:Option Addr) <;> rfl)⟩;clear j7 W6 X6 C6 hA73 e7;have l7:=qa a7;clear a7;replace V6:=eq_true V6;obtain⟨n7,p7,rfl⟩:=Kd.R_slice t5.out;have q7:=r1.out;have r7:=q1.out;have s7:=t1.out;have t7:=s1.out;obtain⟨v7,w7,x7,y7⟩:=qk2 l1))
       refine bodyPost_ret (results_ct rfl _ _ e1 27 #[.slice n7 j4.length p7,.slice b7 j6.length d7] (0,0) _ rfl (by(with_reducible repeat(first|refine blk_drewN ?_ _|refine blk_drew ?_|refine blk_alloc ?_ _));refine blk_put (cs:=#[.slice n7 j4.length p7,.slice none 0 0]) ?_ 1 _ rfl;(with_reducible repeat(first|refine blk_drewN ?_ _|refine blk_drew ?_|refine blk_alloc ?_ _));refine blk_put (cs:=#[.slice none 0 0,.slice none 0 0]) ?_ 0 _ rfl;(with_reducible repeat(first|refine blk_drewN ?_ _|refine blk_drew ?_|refine blk_alloc ?_ _));refine blk_far ?_ q2.out _;(with_reducible repeat(first|refine blk_drewN ?_ _|refine blk_drew ?_|refine blk_alloc ?_ _));refine blk_far ?_ q2.out _;(with_reducible repeat(first|refine blk_drewN ?_ _|refine blk_drew ?_|refine blk_alloc ?_ _));exact l1.out) Tryz.underlying27 rfl (by kernel_rfl)) rfl ?_;exact⟨_,_,er,kGR t5.out d2 l1 (fun _ hk=>trivial),kGQ l7.out d2 l1 (fun _ hk=>hk.1.1),bl⟩
      ·rw[if_neg a6]at H;have b6:decide (8<(X5.length:Int))=false:=decide_eq_false a6;have c6:decide (8<X5.length)=false:=decide_eq_false (by omega);clear a6;simp only[Option.some.injEq,Prod.mk.injEq]at H;obtain⟨rfl,rfl,rfl⟩:=H;have A7:=l2.out;have B7:=j2.out;have C7:=p2.out;have D7:=n2.out;have E7:=r2.out;have G7:=q2.out;obtain⟨J7,K7,L7,M7⟩:=qk2 d2
       go_wp2_with(first|((with_reducible refine gate_builtin (b:= .append) (xs:=#[.tmp 58,.tmp 61]) rfl ?_);(try(refine gate_guard (by rfl) ?_;dsimp only));at_builtin;refine Kd.Q_append (Kd.slice 3 (Kd.int .i64)) (w0:=w) w.heap.size rfl (.tmp 58) (.tmp 61) 23 22 (.slice none 0 0) 24 rfl Tryz.underlying23 info22 rfl (by decide) (by omega) (.slice J2 L0.length K2) L0 K0 [.slice s2 K0.length t2] (fun k_=>some k_≠(Q4:Value).ownBlock) (fun k_=>((fun k_=>some k_≠(Q4:Value).ownBlock)) k_∧some k_≠(.slice J2 L0.length K2:Value).ownBlock) rfl rfl ?aP (fun _ hk=>hk) ?aF ?aO ?aB ?aS ?aL ?_;(case aP=>exact Kd.M_row (Kd.R_mono (Kd.R_apart' (P3.out) (Kd.Q_typed Q3.out) (by decide)) (fun k_ hk=>⟨hk.1,hk.2⟩)));(case aB=>exact(bl));(case aF=>exact(fun k_ hk=>Kd.fresh' (Kd.R_lt (kR t5)) k_ hk));(case aO=>exact(by(with_reducible repeat(first|apply Kd.Q_alloc|apply Kd.Q_drewN|apply Kd.Q_drew));exact Kd.Q_mono Q3.out (fun _ hk=>hk.1)));(case aS=>exact(below_size (bl)));(case aL=>have:=W5.out;omega);intro A6 N7 ho hb hg hat;rw[←Y5.out]at ho;replace t5:=qa (Kd.R_over' (kR t5) (Kd.Q_typed (kQ Q3)) (by decide) hg);replace R0:=qa (blk_grown (g:=P0) (o:= .cells #[.slice a0 c0.length b0,.slice d0 g0.length e0] 27 (0,0)) (bk) hg (Kd.Q_ne Q3.out R0.out (by decide)));replace Y0:=qa (blk_grown (g:=W0) (o:= .cells #[.int .i64 l0,.int .i64 n0,.int .i64 p0] 55 (0,0)) (bk) hg (Kd.Q_ne Q3.out Y0.out (by decide)));replace l1:=qa (blk_grown (g:=e1) (o:= .cells #[.slice none 0 0,.slice none 0 0] 27 (0,0)) (bk) hg (Kd.Q_ne Q3.out l1.out (by decide)));replace d2:=qa (blk_grown (g:=b2) (o:= .cells #[.slice s2 K0.length t2,.slice J2 L0.length K2] 27 (0,0)) (bk) hg (Kd.Q_ne Q3.out d2.out (by decide)));replace HB:=qa (hb);have C6:=qa (ho);clear Q3 P3;clear ho hb hg hat;obtain⟨P7,Q7,R7,_⟩:=Kd.Q_slice C6.out;subst R7;obtain⟨U7,V7,W7,X7⟩:=qk2 d2;obtain⟨Y7,a8,rfl⟩:=Kd.R_slice t5.out;have b8:=r1.out;have c8:=q1.out;have d8:=t1.out;have e8:=s1.out;obtain⟨g8,j8,l8,n8⟩:=qk2 l1))
       refine bodyPost_ret (results_ct rfl _ _ e1 27 #[.slice Y7 j4.length a8,.slice P7 X5.length Q7] (0,0) _ rfl (by(with_reducible repeat(first|refine blk_drewN ?_ _|refine blk_drew ?_|refine blk_alloc ?_ _));refine blk_put (cs:=#[.slice Y7 j4.length a8,.slice none 0 0]) ?_ 1 _ rfl;(with_reducible repeat(first|refine blk_drewN ?_ _|refine blk_drew ?_|refine blk_alloc ?_ _));refine blk_put (cs:=#[.slice none 0 0,.slice none 0 0]) ?_ 0 _ rfl;(with_reducible repeat(first|refine blk_drewN ?_ _|refine blk_drew ?_|refine blk_alloc ?_ _));refine blk_far ?_ q2.out _;(with_reducible repeat(first|refine blk_drewN ?_ _|refine blk_drew ?_|refine blk_alloc ?_ _));refine blk_far ?_ q2.out _;(with_reducible repeat(first|refine blk_drewN ?_ _|refine blk_drew ?_|refine blk_alloc ?_ _));exact l1.out) Tryz.underlying27 rfl (by kernel_rfl)) rfl ?_;exact⟨_,_,er,kGR t5.out d2 l1 (fun _ hk=>trivial),kGQ C6.out d2 l1 (fun _ hk=>hk.1.1),bl⟩
 ·simp only[Option.some.injEq,Prod.mk.injEq]at H;obtain⟨rfl,rfl,rfl⟩:=H
  go_enter Tryz.func42,Tryz.ntmps42
  go_wp2_with(first|((with_reducible refine gate_dst (N:=2) rfl ?_);(try(refine gate_guard (by rfl) ?_;dsimp only));refine bx 2 #[.slice a0 c0.length b0,.slice d0 g0.length e0] 27 ?_;intro P0 hg p8 hbox hb;have R0:=qa (hbox);have U0:=gw hg;have V0:=gw hg;replace HB:=bs hb;clear hb hbox hg)|((with_reducible refine gate_dst (N:=3) rfl ?_);(try(refine gate_guard (by rfl) ?_;dsimp only));refine bx 3 #[.int .i64 l0,.int .i64 n0,.int .i64 p0] 55 ?_;intro W0 hg q8 hbox hb;have Y0:=qa (hbox);have a1:=gw hg;have b1:=gw hg;replace HB:=bs hb;have c1:=qnl hg R0;have d1:=qng hg R0;replace R0:=qbb R0 hb;clear hb hbox hg)|((with_reducible refine gate_dst (N:=4) rfl ?_);(try(refine gate_guard (by rfl) ?_;dsimp only));refine bx 4 #[.slice none 0 0,.slice none 0 0] 27 ?_;intro e1 hg r8 hbox hb;have l1:=qa (hbox);have n1:=gw hg;have p1:=gw hg;replace HB:=bs hb;have q1:=qnl hg R0;have r1:=qng hg R0;replace R0:=qbb R0 hb;have s1:=qnl hg Y0;have t1:=qng hg Y0;replace Y0:=qbb Y0 hb;clear hb hbox hg;have s8:=c1.out;have t8:=d1.out;have v8:=q1.out;have w8:=r1.out;obtain⟨x8,y8,A8,B8⟩:=qk2 R0)|(refine gb 11 Tryz.func20 (spec_DeskOk.calls k _ _ c0 _ _ g0 false _ (cx (Kd.C_below B0.out HB.out)) C0.out (cx (Kd.C_below D0.out HB.out)) E0.out J0.out) fun C8 hb=>?_;replace R0:=qbb R0 hb;replace Y0:=qbb Y0 hb;replace l1:=qbb l1 hb;replace HB:=bs hb;have D8:=t1.out;have E8:=s1.out;obtain⟨G8,J8,K8,L8⟩:=qk2 l1))
  refine bodyPost_ret (results_ct rfl _ _ e1 27 #[.slice none 0 0,.slice none 0 0] (0,0) _ rfl (kP l1) Tryz.underlying27 rfl (by kernel_rfl)) rfl ?_;exact⟨_,_,er,z1_,Kd.Q_of_R ((Kd.S_R z19_)),bl⟩

def spec_l12Row.l0:Nat→List Int→ByteArray→Int→Option (ByteArray)
 |0,_,_,_=>none
 |k+1,a0,b0,c0=>if c0<(a0.length:Int)then(if c0>0 then(if b0.size+1≤9223372036854775807 then(if 0≤c0 then((spec_l1Number.f k (rd a0 c0)).bind fun d0=>(if(b0++(⟨#[44]⟩:ByteArray)).size +d0.size≤9223372036854775807 then(spec_l12Row.l0 k a0 ((b0++(⟨#[44]⟩:ByteArray))++d0) (wrap64 (c0+1)))else(none)))else(none))else(none))else(if 0≤c0 then((spec_l1Number.f k (rd a0 c0)).bind fun e0=>(if b0.size+e0.size≤9223372036854775807 then(spec_l12Row.l0 k a0 (b0++e0) (wrap64 (c0+1)))else(none)))else(none)))else(if(a0.length:Int)=0 then(some (⟨#[110,111,110,101]⟩:ByteArray))else(some b0))
def spec_l12Row.f (k:Nat) (a0:List Int):Option (ByteArray):=spec_l12Row.l0 k a0 (⟨#[]⟩:ByteArray) 0
set_option maxHeartbeats 8000000 in
set_option maxRecDepth 100000 in
theorem spec_l12Row.calls (k:Nat) (a0:Option Addr) (b0:Nat) (c0:List Int) (r:ByteArray) (w:World) (d0:Kd.C (Kd.int .i64) w a0 c0.length c0) (e0:c0.length≤b0) (h:spec_l12Row.f k c0=some r):
  Calls Tryz.prog 43 #[.slice a0 c0.length b0] w fun e w'=>e= .returned (.string r)∧Below w.heap.size w w':=by
 have g0:=qa d0;have j0:=qa e0;clear d0 e0;have HB:=qa (Below.refl w.heap.size w);have H:=h;unfold spec_l12Row.f at H;clear h;have H':=qa H;clear H
 go_enter Tryz.func43,Tryz.ntmps43
 go_wp2
 go_loopg [3,4] k (fun kq n0 p0 w'=>∃(q0:ByteArray) (r0:Int),n0= .string q0∧p0= .int .i64 r0∧Aside0 (spec_l12Row.l0 kq c0 q0 r0=some r)∧Aside0 (kq≤k)∧Aside0 (Below w.heap.size w w'))
 case atStart=>exact⟨((⟨#[]⟩:ByteArray)),(0),(sd),(sd),H',⟨Nat.le_refl _⟩,⟨bl⟩⟩
 case round=>
  clear H';obtain⟨q0,r0,rfl,rfl,HA,HK1,HB⟩:=hrel;obtain⟨k1,rfl,H⟩:=kz gk HA;clear HA;simp only[spec_l12Row.l0]at H;replace H:=qe H;obtain⟨s0,H⟩|⟨s0,H⟩:=H
  ·replace H:=qg H;obtain⟨t0,H⟩|⟨t0,H⟩:=H
   ·replace H:=qN H;obtain⟨v0,w0,x0,y0,H⟩:=H;replace H:=qd H;obtain⟨A0,H⟩:=H;replace H:=qb H;obtain⟨B0,C0,H⟩:=H;replace H:=qN H;obtain⟨D0,E0,G0,J0,H⟩:=H
    try(have c7bq:=J0;simp only[ByteArray.size_append,show(⟨#[44]⟩:ByteArray).size =1 from rfl]at c7bq)
    have H':=qa H;clear H;obtain⟨K0,⟨⟩,L0,M0,N0⟩:=ai g0.out r0;(try replace L0:=(HB.out.cell (World.block_lt_of_cell? w _ L0)).trans L0)
    go_wp2_with(first|(refine gb 20 Tryz.func82 (spec_l1Number.calls k1 (rd c0 r0) B0 _ C0.out) fun P0 hb=>?_;replace HB:=bs hb))
    go_roundg k1
    case measure=>have:=HK1.out;omega
    case rel=>exact⟨((q0++(⟨#[44]⟩:ByteArray))++B0),(wrap64 (r0+1)),(sd),(sd),H',⟨by have:=HK1.out;omega⟩,⟨bl⟩⟩
   ·replace H:=qd H;obtain⟨Q0,H⟩:=H;replace H:=qb H;obtain⟨R0,U0,H⟩:=H;replace H:=qN H;obtain⟨V0,W0,X0,Y0,H⟩:=H;have H':=qa H;clear H;obtain⟨a1,⟨⟩,b1,c1,d1⟩:=ai g0.out r0;(try replace b1:=(HB.out.cell (World.block_lt_of_cell? w _ b1)).trans b1)
    go_wp2_with(first|(refine gb 20 Tryz.func82 (spec_l1Number.calls k1 (rd c0 r0) R0 _ U0.out) fun e1 hb=>?_;replace HB:=bs hb))
    go_roundg k1
    case measure=>have:=HK1.out;omega
    case rel=>exact⟨(q0++R0),(wrap64 (r0+1)),(sd),(sd),H',⟨by have:=HK1.out;omega⟩,⟨bl⟩⟩
  ·replace H:=qq H;obtain⟨g1,j1,H⟩|⟨l1,g1,j1,H⟩:=H
   ·obtain rfl:=sj H;go_wp2;go_ret;exact⟨er,bl⟩
   ·(have n1:¬(c0=[]):=fun h_=>l1 (by rw[h_];rfl));obtain rfl:=sj H;go_wp2;go_ret;exact⟨er,bl⟩

def spec_l12Yes.f (a0:Bool):Option (ByteArray):=if a0=true then(some (⟨#[121,101,115]⟩:ByteArray))else(some (⟨#[110,111]⟩:ByteArray))
set_option maxHeartbeats 8000000 in
set_option maxRecDepth 100000 in
theorem spec_l12Yes.calls (a0:Bool) (r:ByteArray) (w:World) (h:spec_l12Yes.f a0=some r):
  Calls Tryz.prog 44 #[.bool a0] w fun e w'=>e= .returned (.string r)∧Drawn0 w w':=by
 have H:=h;unfold spec_l12Yes.f at H;clear h;replace H:=qc H;obtain⟨rfl,H⟩|⟨rfl,H⟩:=H
 ·obtain rfl:=sj H
  go_enter Tryz.func44,Tryz.ntmps44
  go_wp2;go_ret;exact⟨sd,dr⟩
 ·obtain rfl:=sj H
  go_enter Tryz.func44,Tryz.ntmps44
  go_wp2;go_ret;exact⟨sd,dr⟩
mutual
def spec_MultiplicativeOk.j0:Nat→List Int→Bool→Option (Bool)
 |0,_,_=>none
 |k+1,a0,b0=>if b0=true then(some false)else(spec_MultiplicativeOk.l0 k a0 2)
def spec_MultiplicativeOk.l0:Nat→List Int→Int→Option (Bool)
 |0,_,_=>none
 |k+1,a0,c0=>if c0≤24 then(spec_MultiplicativeOk.l1 k a0 c0 2)else(some true)
def spec_MultiplicativeOk.l1:Nat→List Int→Int→Int→Option (Bool)
 |0,_,_,_=>none
 |k+1,a0,c0,d0=>if(wrap64 (c0*d0))≤24 then((spec_ApartOk.f k c0 d0).bind fun e0=>(if e0=true then(if 0≤(wrap64 ((wrap64 (c0*d0))-1))then(if(wrap64 ((wrap64 (c0*d0))-1))<(a0.length:Int)then(if 0≤(wrap64 (c0-1))then(if(wrap64 (c0-1))<(a0.length:Int)then(if 0≤(wrap64 (d0-1))then(if(wrap64 (d0-1))<(a0.length:Int)then(if(rd a0 (wrap64 ((wrap64 (c0*d0))-1)))=(wrap64 ((rd a0 (wrap64 (c0-1)))*(rd a0 (wrap64 (d0-1)))))then(spec_MultiplicativeOk.l1 k a0 c0 (wrap64 (d0+1)))else(some false))else(none))else(none))else(none))else(none))else(none))else(none))else(spec_MultiplicativeOk.l1 k a0 c0 (wrap64 (d0+1)))))else(spec_MultiplicativeOk.l0 k a0 (wrap64 (c0+1)))
end

def spec_MultiplicativeOk.f (k:Nat) (a0:List Int):Option (Bool):=(spec_RowOk.f k a0).bind fun b0=>(if b0=true then(if 0<(a0.length:Int)then(spec_MultiplicativeOk.j0 k a0 ((rd a0 0) != 1))else(none))else(spec_MultiplicativeOk.j0 k a0 true))
set_option maxHeartbeats 8000000 in
set_option maxRecDepth 100000 in
theorem spec_MultiplicativeOk.calls (k:Nat) (a0:Option Addr) (b0:Nat) (c0:List Int) (r:Bool) (w:World) (d0:Kd.C (Kd.int .i64) w a0 c0.length c0) (e0:c0.length≤b0) (h:spec_MultiplicativeOk.f k c0=some r):
  Calls Tryz.prog 45 #[.slice a0 c0.length b0] w fun e w'=>e= .returned (.bool r)∧Drawn0 w w':=by
 have g0:=qa d0;have n0:=qa e0;clear d0 e0;have H:=h;unfold spec_MultiplicativeOk.f at H;clear h;have p0:=qa H;clear H
 go_enter Tryz.func45,Tryz.ntmps45
 go_upto_region 1 with(fail)
 repeat(go_quiet(fail);go_upto_region 1 with(fail))
 go_cut [13] (fun q0 wc=>∃(kq:Nat) (r0:Bool),q0= .bool r0∧Aside0 (spec_MultiplicativeOk.j0 kq c0 r0=some r)∧Aside0 (kq≤k)∧Drawn0 w wc)
 case first=>
  have H:=p0.out;clear p0;replace H:=qb H;obtain⟨s0,t0,H⟩:=H;replace H:=qc H;obtain⟨rfl,H⟩|⟨rfl,H⟩:=H
  ·replace H:=qL 0 H;obtain⟨v0,w0,H⟩:=H;(first|rw[v0]|(simp only[i64_w,i32_w];rw[v0])|skip);have H':=qa H;clear H
   go_wp2_with(first|(go_at_call 69;(with_reducible refine(spec_RowOk.calls k _ _ c0 true _ ?x0 ?y0 t0.out).mono ?_);(case x0=>exact cx g0.out);(case y0=>exact n0.out);rintro e w' ⟨rfl,⟨nd,rfl⟩⟩;(try exact dn);obtain⟨A0,⟨⟩,B0,qi369,C0,D0⟩:=ain 0 g0.out 0;(try rw[Addr.add_zero']at B0)))
   repeat(go_quiet(first|(go_at_call 69;(with_reducible refine(spec_RowOk.calls k _ _ c0 true _ ?x0 ?y0 t0.out).mono ?_);(case x0=>exact cx g0.out);(case y0=>exact n0.out);rintro e w' ⟨rfl,⟨nd,rfl⟩⟩;(try exact dn);obtain⟨A0,⟨⟩,B0,qi369,C0,D0⟩:=ain 0 g0.out 0;(try rw[Addr.add_zero']at B0)));try go_wp2_with(first|(go_at_call 69;(with_reducible refine(spec_RowOk.calls k _ _ c0 true _ ?x0 ?y0 t0.out).mono ?_);(case x0=>exact cx g0.out);(case y0=>exact n0.out);rintro e w' ⟨rfl,⟨nd,rfl⟩⟩;(try exact dn);obtain⟨A0,⟨⟩,B0,qi369,C0,D0⟩:=ain 0 g0.out 0;(try rw[Addr.add_zero']at B0))))
   go_meet
   case rel=>exact⟨_,(((rd c0 0) != 1)),(sd),H',⟨by first|omega|exact Nat.le_refl _⟩,dr⟩
  ·have H':=qa H;clear H
   go_wp2_with(first|(go_at_call 69;(with_reducible refine(spec_RowOk.calls k _ _ c0 false _ ?x0 ?y0 t0.out).mono ?_);(case x0=>exact cx g0.out);(case y0=>exact n0.out);rintro e w' ⟨rfl,⟨nd,rfl⟩⟩;(try exact dn)))
   repeat(go_quiet(first|(go_at_call 69;(with_reducible refine(spec_RowOk.calls k _ _ c0 false _ ?x0 ?y0 t0.out).mono ?_);(case x0=>exact cx g0.out);(case y0=>exact n0.out);rintro e w' ⟨rfl,⟨nd,rfl⟩⟩;(try exact dn)));try go_wp2_with(first|(go_at_call 69;(with_reducible refine(spec_RowOk.calls k _ _ c0 false _ ?x0 ?y0 t0.out).mono ?_);(case x0=>exact cx g0.out);(case y0=>exact n0.out);rintro e w' ⟨rfl,⟨nd,rfl⟩⟩;(try exact dn))))
   go_meet
   case rel=>exact⟨_,(true),(sd),H',⟨by first|omega|exact Nat.le_refl _⟩,dr⟩
 case rest=>
  clear p0;obtain⟨kq,r0,rfl,HA,E0,⟨mc1,rfl⟩⟩:=hcut;obtain⟨G0,rfl,H⟩:=kz kq HA;clear HA;simp only[spec_MultiplicativeOk.j0]at H;replace H:=qc H;obtain⟨rfl,H⟩|⟨rfl,H⟩:=H
  ·obtain rfl:=sj H;go_wp2
   repeat(go_quiet(fail);try go_wp2)
   go_ret;exact⟨sd,dr⟩
  ·have H':=qa H;clear H;go_wp2
   repeat(go_quiet(fail);try go_wp2)
   go_loopg [3] G0 (fun kq J0 w'=>∃(K0:Int),J0= .int .i64 K0∧Aside0 (spec_MultiplicativeOk.l0 kq c0 K0=some r)∧Aside0 (kq≤G0)∧Drawn0 w w')
   case atStart=>exact⟨(2),(sd),H',⟨Nat.le_refl _⟩,dr⟩
   case round=>
    clear H';obtain⟨K0,rfl,HA,HK2,⟨m2,rfl⟩⟩:=hrel;obtain⟨k2,rfl,H⟩:=kz gk HA;clear HA;simp only[spec_MultiplicativeOk.l0]at H;replace H:=qe H;obtain⟨L0,H⟩|⟨L0,H⟩:=H
    ·have H':=qa H;clear H;go_wp2
     repeat(go_quiet(fail);try go_wp2)
     go_loopg [4] k2 (fun kq M0 w'=>∃(N0:Int),M0= .int .i64 N0∧Aside0 (spec_MultiplicativeOk.l1 kq c0 K0 N0=some r)∧Aside0 (kq≤k2)∧Drawn0 w w')
     case atStart=>exact⟨(2),(sd),H',⟨Nat.le_refl _⟩,dr⟩
     case round=>
      clear H';obtain⟨N0,rfl,HA,HK3,⟨m3,rfl⟩⟩:=hrel;obtain⟨k3,rfl,H⟩:=kz gk HA;clear HA;simp only[spec_MultiplicativeOk.l1]at H;replace H:=qe H;obtain⟨P0,H⟩|⟨P0,H⟩:=H
      ·replace H:=qb H;obtain⟨Q0,R0,H⟩:=H;replace H:=qc H;obtain⟨rfl,H⟩|⟨rfl,H⟩:=H
       ·obtain⟨U0,V0⟩:∃j_:Int,(wrap64 ((wrap64 (K0*N0))-1))=j_:=⟨_,rfl⟩;(first|rw[V0]at H|(try simp only[V0]at H));(try rw[V0]at R0);have W0:(IntKind.i64.wrap ((wrap64 (K0*N0))-1))=U0:=(i64_w _).trans V0;have X0:(IntKind.i64.wrap ((IntKind.i64.wrap (K0*N0))-1))=U0:=(congrArg (fun z_=>IntKind.i64.wrap (z_-1)) (i64_w _)).trans W0;replace H:=qd H;obtain⟨Y0,H⟩:=H;replace H:=qd H;obtain⟨a1,H⟩:=H;obtain⟨b1,c1⟩:∃j_:Int,(wrap64 (K0-1))=j_:=⟨_,rfl⟩;(first|rw[c1]at H|(try simp only[c1]at H));(try rw[c1]at R0);have d1:(IntKind.i64.wrap (K0-1))=b1:=(i64_w _).trans c1;replace H:=qd H;obtain⟨e1,H⟩:=H;replace H:=qd H;obtain⟨g1,H⟩:=H;obtain⟨j1,n1⟩:∃j_:Int,(wrap64 (N0-1))=j_:=⟨_,rfl⟩;(first|rw[n1]at H|(try simp only[n1]at H));(try rw[n1]at R0);have p1:(IntKind.i64.wrap (N0-1))=j1:=(i64_w _).trans n1;replace H:=qd H;obtain⟨q1,H⟩:=H;replace H:=qd H;obtain⟨r1,H⟩:=H;replace H:=qq H;obtain⟨s1,t1,H⟩|⟨v1,s1,t1,H⟩:=H
        ·(try(have c20b0v:=s1;have c20b1v:=t1;simp only[←i64_w]at c20b0v c20b1v));have H':=qa H;clear H
         go_wp2_with(first|(go_at_call 83;(with_reducible refine gm (spec_ApartOk.calls k3 K0 N0 true _ R0.out) fun nd=>?_);(try exact dn);obtain⟨w1,⟨⟩,x1,y1,A1⟩:=ai g0.out (U0);obtain⟨B1,C1,D1⟩:=aj g0.out (b1);obtain⟨E1,G1,J1⟩:=aj g0.out (j1)))
         repeat(go_quiet(first|(go_at_call 83;(with_reducible refine gm (spec_ApartOk.calls k3 K0 N0 true _ R0.out) fun nd=>?_);(try exact dn);obtain⟨w1,⟨⟩,x1,y1,A1⟩:=ai g0.out (U0);obtain⟨B1,C1,D1⟩:=aj g0.out (b1);obtain⟨E1,G1,J1⟩:=aj g0.out (j1)));try go_wp2_with(first|(go_at_call 83;(with_reducible refine gm (spec_ApartOk.calls k3 K0 N0 true _ R0.out) fun nd=>?_);(try exact dn);obtain⟨w1,⟨⟩,x1,y1,A1⟩:=ai g0.out (U0);obtain⟨B1,C1,D1⟩:=aj g0.out (b1);obtain⟨E1,G1,J1⟩:=aj g0.out (j1))))
         go_roundg k3
         case measure=>have:=E0.out;have:=HK2.out;have:=HK3.out;omega
         case rel=>exact⟨(wrap64 (N0+1)),(sd),H',⟨z51_⟩,dr⟩
        ·(try(have c20b0v:=s1;have c20b1v:=t1;simp only[←i64_w]at c20b0v c20b1v));obtain rfl:=sj H
         go_wp2_with(first|(go_at_call 83;(with_reducible refine gm (spec_ApartOk.calls k3 K0 N0 true _ R0.out) fun nd=>?_);(try exact dn);obtain⟨w1,⟨⟩,x1,y1,A1⟩:=ai g0.out (U0);obtain⟨B1,C1,D1⟩:=aj g0.out (b1);obtain⟨E1,G1,J1⟩:=aj g0.out (j1)))
         repeat(go_quiet(first|(go_at_call 83;(with_reducible refine gm (spec_ApartOk.calls k3 K0 N0 true _ R0.out) fun nd=>?_);(try exact dn);obtain⟨w1,⟨⟩,x1,y1,A1⟩:=ai g0.out (U0);obtain⟨B1,C1,D1⟩:=aj g0.out (b1);obtain⟨E1,G1,J1⟩:=aj g0.out (j1)));try go_wp2_with(first|(go_at_call 83;(with_reducible refine gm (spec_ApartOk.calls k3 K0 N0 true _ R0.out) fun nd=>?_);(try exact dn);obtain⟨w1,⟨⟩,x1,y1,A1⟩:=ai g0.out (U0);obtain⟨B1,C1,D1⟩:=aj g0.out (b1);obtain⟨E1,G1,J1⟩:=aj g0.out (j1))))
         go_ret;exact⟨by first|rfl|(simp;done)|(simp only[←V0,←c1,←n1] <;> (first|rfl|simp))|(simp[*];done),dr⟩
       ·have H':=qa H;clear H
        go_wp2_with(first|(go_at_call 83;(with_reducible refine gm (spec_ApartOk.calls k3 K0 N0 false _ R0.out) fun nd=>?_);(try exact dn)))
        repeat(go_quiet(first|(go_at_call 83;(with_reducible refine gm (spec_ApartOk.calls k3 K0 N0 false _ R0.out) fun nd=>?_);(try exact dn)));try go_wp2_with(first|(go_at_call 83;(with_reducible refine gm (spec_ApartOk.calls k3 K0 N0 false _ R0.out) fun nd=>?_);(try exact dn))))
        go_roundg k3
        case measure=>have:=E0.out;have:=HK2.out;have:=HK3.out;omega
        case rel=>exact⟨(wrap64 (N0+1)),(sd),H',⟨z51_⟩,dr⟩
      ·have H':=qa H;clear H;go_wp2
       repeat(go_quiet(fail);try go_wp2)
       go_roundg k3
       case measure=>have:=E0.out;have:=HK2.out;have:=HK3.out;omega
       case rel=>exact⟨(wrap64 (K0+1)),(sd),H',⟨z51_⟩,dr⟩
    ·obtain rfl:=sj H;go_wp2
     repeat(go_quiet(fail);try go_wp2)
     go_ret;exact⟨sd,dr⟩

mutual
def spec_FullyOk.j0:Nat→List Int→Bool→Option (Bool)
 |0,_,_=>none
 |k+1,a0,b0=>if b0=true then(some false)else(spec_FullyOk.l0 k a0 2)
def spec_FullyOk.l0:Nat→List Int→Int→Option (Bool)
 |0,_,_=>none
 |k+1,a0,c0=>if c0≤24 then(spec_FullyOk.l1 k a0 c0 2)else(some true)
def spec_FullyOk.l1:Nat→List Int→Int→Int→Option (Bool)
 |0,_,_,_=>none
 |k+1,a0,c0,d0=>if(wrap64 (c0*d0))≤24 then(if 0≤(wrap64 ((wrap64 (c0*d0))-1))then(if(wrap64 ((wrap64 (c0*d0))-1))<(a0.length:Int)then(if 0≤(wrap64 (c0-1))then(if(wrap64 (c0-1))<(a0.length:Int)then(if 0≤(wrap64 (d0-1))then(if(wrap64 (d0-1))<(a0.length:Int)then(if(rd a0 (wrap64 ((wrap64 (c0*d0))-1)))=(wrap64 ((rd a0 (wrap64 (c0-1)))*(rd a0 (wrap64 (d0-1)))))then(spec_FullyOk.l1 k a0 c0 (wrap64 (d0+1)))else(some false))else(none))else(none))else(none))else(none))else(none))else(none))else(spec_FullyOk.l0 k a0 (wrap64 (c0+1)))
end

def spec_FullyOk.f (k:Nat) (a0:List Int):Option (Bool):=(spec_RowOk.f k a0).bind fun b0=>(if b0=true then(if 0<(a0.length:Int)then(spec_FullyOk.j0 k a0 ((rd a0 0) != 1))else(none))else(spec_FullyOk.j0 k a0 true))
set_option maxHeartbeats 8000000 in
set_option maxRecDepth 100000 in
theorem spec_FullyOk.calls (k:Nat) (a0:Option Addr) (b0:Nat) (c0:List Int) (r:Bool) (w:World) (d0:Kd.C (Kd.int .i64) w a0 c0.length c0) (e0:c0.length≤b0) (h:spec_FullyOk.f k c0=some r):
  Calls Tryz.prog 46 #[.slice a0 c0.length b0] w fun e w'=>e= .returned (.bool r)∧Drawn0 w w':=by
 have g0:=qa d0;have n0:=qa e0;clear d0 e0;have H:=h;unfold spec_FullyOk.f at H;clear h;have p0:=qa H;clear H
 go_enter Tryz.func46,Tryz.ntmps46
 go_upto_region 1 with(fail)
 repeat(go_quiet(fail);go_upto_region 1 with(fail))
 go_cut [13] (fun q0 wc=>∃(kq:Nat) (r0:Bool),q0= .bool r0∧Aside0 (spec_FullyOk.j0 kq c0 r0=some r)∧Aside0 (kq≤k)∧Drawn0 w wc)
 case first=>
  have H:=p0.out;clear p0;replace H:=qb H;obtain⟨s0,t0,H⟩:=H;replace H:=qc H;obtain⟨rfl,H⟩|⟨rfl,H⟩:=H
  ·replace H:=qL 0 H;obtain⟨v0,w0,H⟩:=H;(first|rw[v0]|(simp only[i64_w,i32_w];rw[v0])|skip);have H':=qa H;clear H
   go_wp2_with(first|(go_at_call 69;(with_reducible refine(spec_RowOk.calls k _ _ c0 true _ ?x0 ?y0 t0.out).mono ?_);(case x0=>exact cx g0.out);(case y0=>exact n0.out);rintro e w' ⟨rfl,⟨nd,rfl⟩⟩;(try exact dn);obtain⟨A0,⟨⟩,B0,qi375,C0,D0⟩:=ain 0 g0.out 0;(try rw[Addr.add_zero']at B0)))
   repeat(go_quiet(first|(go_at_call 69;(with_reducible refine(spec_RowOk.calls k _ _ c0 true _ ?x0 ?y0 t0.out).mono ?_);(case x0=>exact cx g0.out);(case y0=>exact n0.out);rintro e w' ⟨rfl,⟨nd,rfl⟩⟩;(try exact dn);obtain⟨A0,⟨⟩,B0,qi375,C0,D0⟩:=ain 0 g0.out 0;(try rw[Addr.add_zero']at B0)));try go_wp2_with(first|(go_at_call 69;(with_reducible refine(spec_RowOk.calls k _ _ c0 true _ ?x0 ?y0 t0.out).mono ?_);(case x0=>exact cx g0.out);(case y0=>exact n0.out);rintro e w' ⟨rfl,⟨nd,rfl⟩⟩;(try exact dn);obtain⟨A0,⟨⟩,B0,qi375,C0,D0⟩:=ain 0 g0.out 0;(try rw[Addr.add_zero']at B0))))
   go_meet
   case rel=>exact⟨_,(((rd c0 0) != 1)),(sd),H',⟨by first|omega|exact Nat.le_refl _⟩,dr⟩
  ·have H':=qa H;clear H
   go_wp2_with(first|(go_at_call 69;(with_reducible refine(spec_RowOk.calls k _ _ c0 false _ ?x0 ?y0 t0.out).mono ?_);(case x0=>exact cx g0.out);(case y0=>exact n0.out);rintro e w' ⟨rfl,⟨nd,rfl⟩⟩;(try exact dn)))
   repeat(go_quiet(first|(go_at_call 69;(with_reducible refine(spec_RowOk.calls k _ _ c0 false _ ?x0 ?y0 t0.out).mono ?_);(case x0=>exact cx g0.out);(case y0=>exact n0.out);rintro e w' ⟨rfl,⟨nd,rfl⟩⟩;(try exact dn)));try go_wp2_with(first|(go_at_call 69;(with_reducible refine(spec_RowOk.calls k _ _ c0 false _ ?x0 ?y0 t0.out).mono ?_);(case x0=>exact cx g0.out);(case y0=>exact n0.out);rintro e w' ⟨rfl,⟨nd,rfl⟩⟩;(try exact dn))))
   go_meet
   case rel=>exact⟨_,(true),(sd),H',⟨by first|omega|exact Nat.le_refl _⟩,dr⟩
 case rest=>
  clear p0;obtain⟨kq,r0,rfl,HA,E0,⟨mc1,rfl⟩⟩:=hcut;obtain⟨G0,rfl,H⟩:=kz kq HA;clear HA;simp only[spec_FullyOk.j0]at H;replace H:=qc H;obtain⟨rfl,H⟩|⟨rfl,H⟩:=H
  ·obtain rfl:=sj H;go_wp2
   repeat(go_quiet(fail);try go_wp2)
   go_ret;exact⟨sd,dr⟩
  ·have H':=qa H;clear H;go_wp2
   repeat(go_quiet(fail);try go_wp2)
   go_loopg [3] G0 (fun kq J0 w'=>∃(K0:Int),J0= .int .i64 K0∧Aside0 (spec_FullyOk.l0 kq c0 K0=some r)∧Aside0 (kq≤G0)∧Drawn0 w w')
   case atStart=>exact⟨(2),(sd),H',⟨Nat.le_refl _⟩,dr⟩
   case round=>
    clear H';obtain⟨K0,rfl,HA,HK2,⟨m2,rfl⟩⟩:=hrel;obtain⟨k2,rfl,H⟩:=kz gk HA;clear HA;simp only[spec_FullyOk.l0]at H;replace H:=qe H;obtain⟨L0,H⟩|⟨L0,H⟩:=H
    ·have H':=qa H;clear H;go_wp2
     repeat(go_quiet(fail);try go_wp2)
     go_loopg [4] k2 (fun kq M0 w'=>∃(N0:Int),M0= .int .i64 N0∧Aside0 (spec_FullyOk.l1 kq c0 K0 N0=some r)∧Aside0 (kq≤k2)∧Drawn0 w w')
     case atStart=>exact⟨(2),(sd),H',⟨Nat.le_refl _⟩,dr⟩
     case round=>
      clear H';obtain⟨N0,rfl,HA,HK3,⟨m3,rfl⟩⟩:=hrel;obtain⟨k3,rfl,H⟩:=kz gk HA;clear HA;simp only[spec_FullyOk.l1]at H;replace H:=qe H;obtain⟨P0,H⟩|⟨P0,H⟩:=H
      ·obtain⟨Q0,R0⟩:∃j_:Int,(wrap64 ((wrap64 (K0*N0))-1))=j_:=⟨_,rfl⟩;(first|rw[R0]at H|(try simp only[R0]at H));have U0:(IntKind.i64.wrap ((wrap64 (K0*N0))-1))=Q0:=(i64_w _).trans R0;replace H:=qd H;obtain⟨V0,H⟩:=H;replace H:=qd H;obtain⟨W0,H⟩:=H;obtain⟨X0,Y0⟩:∃j_:Int,(wrap64 (K0-1))=j_:=⟨_,rfl⟩;(first|rw[Y0]at H|(try simp only[Y0]at H));have a1:(IntKind.i64.wrap (K0-1))=X0:=(i64_w _).trans Y0;replace H:=qd H;obtain⟨b1,H⟩:=H;replace H:=qd H;obtain⟨c1,H⟩:=H;obtain⟨d1,e1⟩:∃j_:Int,(wrap64 (N0-1))=j_:=⟨_,rfl⟩;(first|rw[e1]at H|(try simp only[e1]at H));have g1:(IntKind.i64.wrap (N0-1))=d1:=(i64_w _).trans e1;replace H:=qd H;obtain⟨j1,H⟩:=H;replace H:=qd H;obtain⟨n1,H⟩:=H;replace H:=qq H;obtain⟨p1,q1,H⟩|⟨r1,p1,q1,H⟩:=H
       ·have H':=qa H;clear H;obtain⟨s1,⟨⟩,t1,v1,w1⟩:=ai g0.out (Q0);obtain⟨x1,y1,A1⟩:=aj g0.out (X0);obtain⟨B1,C1,D1⟩:=aj g0.out (d1);go_wp2
        repeat(go_quiet(fail);try go_wp2)
        go_roundg k3
        case measure=>have:=E0.out;have:=HK2.out;have:=HK3.out;omega
        case rel=>exact⟨(wrap64 (N0+1)),(sd),H',⟨z51_⟩,dr⟩
       ·obtain rfl:=sj H;obtain⟨s1,⟨⟩,t1,v1,w1⟩:=ai g0.out (Q0);obtain⟨x1,y1,A1⟩:=aj g0.out (X0);obtain⟨B1,C1,D1⟩:=aj g0.out (d1);go_wp2
        repeat(go_quiet(fail);try go_wp2)
        go_ret;exact⟨by first|rfl|(simp;done)|(simp only[←R0,←Y0,←e1] <;> (first|rfl|simp))|(simp[*];done),dr⟩
      ·have H':=qa H;clear H;go_wp2
       repeat(go_quiet(fail);try go_wp2)
       go_roundg k3
       case measure=>have:=E0.out;have:=HK2.out;have:=HK3.out;omega
       case rel=>exact⟨(wrap64 (K0+1)),(sd),H',⟨z51_⟩,dr⟩
    ·obtain rfl:=sj H;go_wp2
     repeat(go_quiet(fail);try go_wp2)
     go_ret;exact⟨sd,dr⟩
mutual
def spec_FactorText.l0:Nat→ByteArray→List (List Int)→Int→Option (ByteArray)
 |0,_,_,_=>none
 |k+1,a0,b0,c0=>if c0<(b0.length:Int)then(if c0>0 then(if a0.size+1≤9223372036854775807 then(spec_FactorText.j1 k (a0++(⟨#[46]⟩:ByteArray)) b0 c0)else(none))else(spec_FactorText.j1 k a0 b0 c0))else(if a0.toList=([]:List UInt8)then(some (⟨#[49]⟩:ByteArray))else(some a0))
def spec_FactorText.j1:Nat→ByteArray→List (List Int)→Int→Option (ByteArray)
 |0,_,_,_=>none
 |k+1,a0,b0,c0=>if 0≤c0 then(if c0<(b0.length:Int)then(if 0<((rd_L1 b0 c0).length :Int)then((spec_l1Number.f k (rd (rd_L1 b0 c0) 0)).bind fun d0=>(if a0.size+d0.size≤9223372036854775807 then(if 1<((rd_L1 b0 c0).length :Int)then(if(rd (rd_L1 b0 c0) 1)>1 then(if(a0++d0).size +1≤9223372036854775807 then((spec_l1Number.f k (rd (rd_L1 b0 c0) 1)).bind fun e0=>(if((a0++d0)++(⟨#[94]⟩:ByteArray)).size +e0.size≤9223372036854775807 then(spec_FactorText.l0 k (((a0++d0)++(⟨#[94]⟩:ByteArray))++e0) b0 (wrap64 (c0+1)))else(none)))else(none))else(spec_FactorText.l0 k (a0++d0) b0 (wrap64 (c0+1))))else(none))else(none)))else(none))else(none))else(none)
end

def spec_FactorText.f (k:Nat) (a0:Int):Option (ByteArray):=(spec_l1In.f a0 1 10000).bind fun b0=>(if b0=true then((spec_FactorsOf.f k a0).bind fun c0=>(spec_FactorText.l0 k (⟨#[]⟩:ByteArray) c0 0))else(some (⟨#[]⟩:ByteArray)))
set_option maxHeartbeats 8000000 in
set_option maxRecDepth 100000 in
theorem spec_FactorText.calls (k:Nat) (a0:Int) (r:ByteArray) (w:World) (h:spec_FactorText.f k a0=some r):
  Calls Tryz.prog 85 #[.int .i64 a0] w fun e w'=>e= .returned (.string r)∧Below w.heap.size w w':=by
 have HB:=qa (Below.refl w.heap.size w);have H:=h;unfold spec_FactorText.f at H;clear h;replace H:=qb H;obtain⟨b0,c0,H⟩:=H;replace H:=qc H;obtain⟨rfl,H⟩|⟨rfl,H⟩:=H
 ·replace H:=qb H;obtain⟨d0,e0,H⟩:=H;have H':=qa H;clear H
  go_enter Tryz.func85,Tryz.ntmps85
  go_wp2_with(first|(refine gd 7 Tryz.func84 (spec_l1In.calls a0 1 10000 true _ c0.out) fun nd=>?_)|(refine ge_ 10 Tryz.func126 (spec_FactorsOf.calls k a0 d0 _ e0.out) fun g0 j0 n0 hb=>?_;have p0:=qa (Kd.S_lower n0 (below_size (bl)));replace HB:=bs hb))
  go_loopg [3,5] k (fun kq q0 r0 w'=>∃(s0:ByteArray) (t0:Int),q0= .string s0∧r0= .int .i64 t0∧Aside0 (spec_FactorText.l0 kq s0 d0 t0=some r)∧Aside0 (kq≤k)∧Aside0 (Kd.S (Kd.slice 3 (Kd.int .i64)) 22 w' w.heap.size (fun _=>True) g0 d0)∧Aside0 (Below w.heap.size w w'))
  case atStart=>exact⟨((⟨#[]⟩:ByteArray)),(0),(sd),(sd),H',⟨Nat.le_refl _⟩,⟨kS p0⟩,⟨bl⟩⟩
  case round=>
   clear H';obtain⟨s0,t0,rfl,rfl,HA,HK1,v0,HB⟩:=hrel;obtain⟨k1,rfl,H⟩:=kz gk HA;clear HA;simp only[spec_FactorText.l0]at H;replace H:=qe H;obtain⟨w0,H⟩|⟨w0,H⟩:=H
   ·have x0:=qa H;clear H;obtain⟨y0,A0,rfl⟩:=Kd.S_slice v0.out
    go_upto_if 18 with(fail)
    go_cut [3] (fun q0 wc=>∃(kq:Nat) (B0:ByteArray),q0= .string B0∧Aside0 (spec_FactorText.j1 kq B0 d0 t0=some r)∧Aside0 (kq≤k1)∧Aside0 (Kd.S (Kd.slice 3 (Kd.int .i64)) 22 wc w.heap.size (fun _=>True) (.slice y0 d0.length A0) d0)∧Aside0 (Below w.heap.size w wc))
    case first=>
     have H:=x0.out;clear x0;replace H:=qg H;obtain⟨C0,H⟩|⟨C0,H⟩:=H
     ·(first|rw[C0]|(simp only[i64_w,i32_w];rw[C0])|skip);replace H:=qN H;obtain⟨D0,E0,G0,J0,H⟩:=H;have H':=qa H;clear H;go_wp2;go_meet
      case rel=>exact⟨_,(s0++(⟨#[46]⟩:ByteArray)),(sd),H',⟨z12_⟩,⟨kS v0⟩,⟨bl⟩⟩
     ·(first|rw[C0]|(simp only[i64_w,i32_w];rw[C0])|skip);have H':=qa H;clear H;go_wp2;go_meet
      case rel=>exact⟨_,(s0),(sd),H',⟨z12_⟩,⟨kS v0⟩,⟨bl⟩⟩
    case rest=>
     clear x0;obtain⟨kq,B0,rfl,HA,K0,v0,HB⟩:=hcut;obtain⟨L0,rfl,H⟩:=kz kq HA;clear HA;simp only[spec_FactorText.j1]at H;replace H:=qd H;obtain⟨M0,H⟩:=H;replace H:=qd H;obtain⟨N0,H⟩:=H;replace H:=qL 0 H;obtain⟨P0,Q0,H⟩:=H;replace H:=qb H;obtain⟨R0,U0,H⟩:=H;replace H:=qN H;obtain⟨V0,W0,X0,Y0,H⟩:=H;replace H:=qL 1 H;obtain⟨a1,b1,H⟩:=H;replace H:=qg H;obtain⟨c1,H⟩|⟨c1,H⟩:=H
     ·replace H:=qN H;obtain⟨d1,e1,g1,l1,H⟩:=H
      try(have c18bq:=l1;simp only[ByteArray.size_append]at c18bq)
      replace H:=qb H;obtain⟨n1,p1,H⟩:=H;replace H:=qN H;obtain⟨q1,r1,s1,t1,H⟩:=H
      try(have c20bq:=t1;simp only[ByteArray.size_append,show(⟨#[94]⟩:ByteArray).size =1 from rfl]at c20bq)
      have H':=qa H;clear H;obtain⟨v1,w1,x1,⟨⟩,y1,HL383_0,A1,B1,C1,D1⟩:=sg_L1 v0.out t0;obtain⟨E1,⟨⟩,G1,qi384,J1,K1⟩:=ain 0 z13_ 0;(try rw[Addr.add_zero']at G1)
      go_wp2_with(first|(refine gb 28 Tryz.func82 (spec_l1Number.calls L0 (rd (rd_L1 d0 t0) 0) R0 _ U0.out) fun L1 hb=>?_;replace v0:=qa (Kd.S_below (kS v0) hb);replace HL383_0:=qa (Kd.R_below z52_ hb);replace A1:=qa (Kd.C_below z13_ hb);replace HB:=bs hb;obtain⟨M1,N1,P1,HL386_0,Q1,R1,U1,V1⟩:=sh_L1 v0.out t0;have W1:0≤(1:Int):=(by omega);have X1:1<((rd_L1 d0 t0).length :Int):=qo;obtain⟨Y1,a2,b2⟩:=Kd.at_int z29_ 1 W1 X1;cases a2;(try simp only[show(1:Int).toNat =1 from rfl,Nat.reduceMul,Nat.reduceEqDiff,Go.Addr.add,↓reduceIte]at b2);have qi387:(1<(rd_L1 d0 t0).length)=True:=eq_true (by omega);(try rw[show((1:Int)).toNat =1 from rfl]at b2);replace W1:=eq_true W1;replace X1:=eq_true X1;obtain⟨c2,d2,e2,HL388_0,g2,j2,l2,n2⟩:=sh_L1 v0.out t0;have ea_:=Option.some.inj (P1.symm.trans e2);injection ea_ with ea_ en_ ec_;subst ea_;subst ec_;clear en_;have p2:0≤(1:Int):=(by omega);have q2:1<((rd_L1 d0 t0).length :Int):=qo;obtain⟨r2,s2,t2⟩:=Kd.at_int z65_ 1 p2 q2;cases s2;(try simp only[show(1:Int).toNat =1 from rfl,Nat.reduceMul,Nat.reduceEqDiff,Go.Addr.add,↓reduceIte]at t2);have qi389:(1<(rd_L1 d0 t0).length)=True:=eq_true (by omega);(try rw[show((1:Int)).toNat =1 from rfl]at t2);replace p2:=eq_true p2;replace q2:=eq_true q2)|(refine gb 45 Tryz.func82 (spec_l1Number.calls L0 (rd (rd_L1 d0 t0) 1) n1 _ p1.out) fun v2 hb=>?_;replace v0:=qa (Kd.S_below (kS v0) hb);replace HL383_0:=qa (Kd.R_below z52_ hb);replace HL386_0:=qa (Kd.R_below (by(with_reducible repeat(first|apply Kd.R_alloc|apply Kd.R_drewN|apply Kd.R_drew));exact HL386_0.out) hb);replace HL388_0:=qa (Kd.R_below (by(with_reducible repeat(first|apply Kd.R_alloc|apply Kd.R_drewN|apply Kd.R_drew));exact HL388_0.out) hb);replace A1:=qa (Kd.C_below z13_ hb);replace Q1:=qa (Kd.C_below z29_ hb);replace g2:=qa (Kd.C_below z65_ hb);replace HB:=bs hb))
      go_roundg L0
      case measure=>have:=HK1.out;have:=K0.out;omega
      case rel=>exact⟨(((B0++R0)++(⟨#[94]⟩:ByteArray))++n1),(wrap64 (t0+1)),(sd),(sd),H',⟨by have:=HK1.out;have:=K0.out;omega⟩,⟨kS v0⟩,⟨bl⟩⟩
     ·have H':=qa H;clear H;obtain⟨v1,w1,x1,⟨⟩,y1,HL383_0,A1,B1,C1,D1⟩:=sg_L1 v0.out t0;obtain⟨E1,⟨⟩,G1,qi384,J1,K1⟩:=ain 0 z13_ 0;(try rw[Addr.add_zero']at G1)
      go_wp2_with(first|(refine gb 28 Tryz.func82 (spec_l1Number.calls L0 (rd (rd_L1 d0 t0) 0) R0 _ U0.out) fun w2 hb=>?_;replace v0:=qa (Kd.S_below (kS v0) hb);replace HL383_0:=qa (Kd.R_below z52_ hb);replace A1:=qa (Kd.C_below z13_ hb);replace HB:=bs hb;obtain⟨M1,N1,P1,HL386_0,Q1,R1,U1,V1⟩:=sh_L1 v0.out t0;have W1:0≤(1:Int):=(by omega);have X1:1<((rd_L1 d0 t0).length :Int):=qo;obtain⟨Y1,a2,b2⟩:=Kd.at_int z29_ 1 W1 X1;cases a2;(try simp only[show(1:Int).toNat =1 from rfl,Nat.reduceMul,Nat.reduceEqDiff,Go.Addr.add,↓reduceIte]at b2);have qi387:(1<(rd_L1 d0 t0).length)=True:=eq_true (by omega);(try rw[show((1:Int)).toNat =1 from rfl]at b2);replace W1:=eq_true W1;replace X1:=eq_true X1))
      go_roundg L0
      case measure=>have:=HK1.out;have:=K0.out;omega
      case rel=>exact⟨(B0++R0),(wrap64 (t0+1)),(sd),(sd),H',⟨by have:=HK1.out;have:=K0.out;omega⟩,⟨kS v0⟩,⟨bl⟩⟩
   ·replace H:=qq H;obtain⟨x2,y2,H⟩|⟨A2,x2,y2,H⟩:=H
    ·obtain rfl:=sj H;obtain⟨B2,C2,rfl⟩:=Kd.S_slice v0.out;go_wp2;go_ret;exact⟨er,bl⟩
    ·obtain rfl:=sj H;obtain⟨D2,E2,rfl⟩:=Kd.S_slice v0.out;go_wp2;go_ret;exact⟨er,bl⟩
 ·obtain rfl:=sj H
  go_enter Tryz.func85,Tryz.ntmps85
  go_wp2_with(first|(refine gd 7 Tryz.func84 (spec_l1In.calls a0 1 10000 false _ c0.out) fun nd=>?_))
  go_ret;exact⟨er,bl⟩

mutual
def spec_AllSum.l0:Nat→Int→List (List Int)→Int→Option (Int)
 |0,_,_,_=>none
 |k+1,a0,b0,c0=>if c0<(b0.length:Int)then(spec_AllSum.l1 k a0 b0 c0 1 1 0)else(some a0)
def spec_AllSum.l1:Nat→Int→List (List Int)→Int→Int→Int→Int→Option (Int)
 |0,_,_,_,_,_,_=>none
 |k+1,a0,b0,c0,d0,e0,g0=>if 0≤c0 then(if c0<(b0.length:Int)then(if 1<((rd_L1 b0 c0).length :Int)then(if g0<(rd (rd_L1 b0 c0) 1)then(if 0<((rd_L1 b0 c0).length :Int)then(spec_AllSum.l1 k a0 b0 c0 (wrap64 (d0+(wrap64 (e0*(rd (rd_L1 b0 c0) 0))))) (wrap64 (e0*(rd (rd_L1 b0 c0) 0))) (wrap64 (g0+1)))else(none))else(spec_AllSum.l0 k (wrap64 (a0*d0)) b0 (wrap64 (c0+1))))else(none))else(none))else(none)
end

def spec_AllSum.f (k:Nat) (a0:Int):Option (Int):=(spec_l1In.f a0 1 10000).bind fun b0=>(if b0=true then((spec_FactorsOf.f k a0).bind fun c0=>(spec_AllSum.l0 k 1 c0 0))else(some (-1)))
set_option maxHeartbeats 8000000 in
set_option maxRecDepth 100000 in
theorem spec_AllSum.calls (k:Nat) (a0:Int) (r:Int) (w:World) (h:spec_AllSum.f k a0=some r):
  Calls Tryz.prog 87 #[.int .i64 a0] w fun e w'=>e= .returned (.int .i64 r)∧Below w.heap.size w w':=by
 have HB:=qa (Below.refl w.heap.size w);have H:=h;unfold spec_AllSum.f at H;clear h;replace H:=qb H;obtain⟨b0,c0,H⟩:=H;replace H:=qc H;obtain⟨rfl,H⟩|⟨rfl,H⟩:=H
 ·replace H:=qb H;obtain⟨d0,e0,H⟩:=H;have H':=qa H;clear H
  go_enter Tryz.func87,Tryz.ntmps87
  go_wp2_with(first|(refine gd 10 Tryz.func84 (spec_l1In.calls a0 1 10000 true _ c0.out) fun nd=>?_)|(refine ge_ 13 Tryz.func126 (spec_FactorsOf.calls k a0 d0 _ e0.out) fun g0 j0 n0 hb=>?_;have p0:=qa (Kd.S_lower n0 (below_size (bl)));replace HB:=bs hb))
  go_loopg [3,5] k (fun kq q0 r0 w'=>∃(s0:Int) (t0:Int),q0= .int .i64 s0∧r0= .int .i64 t0∧Aside0 (spec_AllSum.l0 kq s0 d0 t0=some r)∧Aside0 (kq≤k)∧Aside0 (Kd.S (Kd.slice 3 (Kd.int .i64)) 22 w' w.heap.size (fun _=>True) g0 d0)∧Aside0 (Below w.heap.size w w'))
  case atStart=>exact⟨(1),(0),(sd),(sd),H',⟨Nat.le_refl _⟩,⟨kS p0⟩,⟨bl⟩⟩
  case round=>
   clear H';obtain⟨s0,t0,rfl,rfl,HA,HK1,v0,HB⟩:=hrel;obtain⟨k1,rfl,H⟩:=kz gk HA;clear HA;simp only[spec_AllSum.l0]at H;replace H:=qe H;obtain⟨w0,H⟩|⟨w0,H⟩:=H
   ·have H':=qa H;clear H;obtain⟨x0,y0,rfl⟩:=Kd.S_slice v0.out;go_wp2
    go_loopg [6,7,8] k1 (fun kq A0 B0 C0 w'=>∃(D0:Int) (E0:Int) (G0:Int),A0= .int .i64 D0∧B0= .int .i64 E0∧C0= .int .i64 G0∧Aside0 (spec_AllSum.l1 kq s0 d0 t0 D0 E0 G0=some r)∧Aside0 (kq≤k1)∧Aside0 (Kd.S (Kd.slice 3 (Kd.int .i64)) 22 w' w.heap.size (fun _=>True) (.slice x0 d0.length y0) d0)∧Aside0 (Below w.heap.size w w'))
    case atStart=>exact⟨(1),(1),(0),(sd),(sd),(sd),H',⟨Nat.le_refl _⟩,⟨kS v0⟩,⟨bl⟩⟩
    case round=>
     clear H';obtain⟨D0,E0,G0,rfl,rfl,rfl,HA,HK2,v0,HB⟩:=hrel;obtain⟨k2,rfl,H⟩:=kz gk HA;clear HA;simp only[spec_AllSum.l1]at H;replace H:=qd H;obtain⟨J0,H⟩:=H;replace H:=qd H;obtain⟨K0,H⟩:=H;replace H:=qL 1 H;obtain⟨L0,M0,H⟩:=H;replace H:=qe H;obtain⟨N0,H⟩|⟨N0,H⟩:=H
     ·replace H:=qL 0 H;obtain⟨P0,Q0,H⟩:=H;have H':=qa H;clear H;obtain⟨R0,U0,V0,⟨⟩,W0,HL395_0,X0,Y0,a1,b1⟩:=sg_L1 v0.out t0;have c1:0≤(1:Int):=(by omega);have d1:1<((rd_L1 d0 t0).length :Int):=qo;obtain⟨e1,g1,j1⟩:=Kd.at_int z67_ 1 c1 d1;cases g1;(try simp only[show(1:Int).toNat =1 from rfl,Nat.reduceMul,Nat.reduceEqDiff,Go.Addr.add,↓reduceIte]at j1);have qi396:(1<(rd_L1 d0 t0).length)=True:=eq_true (by omega);(try rw[show((1:Int)).toNat =1 from rfl]at j1);replace c1:=eq_true c1;replace d1:=eq_true d1;obtain⟨n1,p1,q1,HL397_0,r1,s1,t1,v1⟩:=sh_L1 v0.out t0;have ea_:=Option.some.inj (W0.symm.trans q1);(injection ea_ with ea_ en_ ec_);subst ea_;subst ec_;clear en_;obtain⟨w1,⟨⟩,x1,qi398,y1,A1⟩:=ain 0 (by repeat(first|(with_reducible exact r1.out)|(with_reducible refine Kd.C_alloc ?_ _)|(with_reducible refine Kd.C_drewN ?_ _)|(with_reducible refine Kd.C_drew ?_)|exact r1.out)) 0;(try rw[Addr.add_zero']at x1);go_wp2
      go_roundg k2
      case measure=>have:=HK1.out;have:=HK2.out;omega
      case rel=>exact⟨(wrap64 (D0+(wrap64 (E0*(rd (rd_L1 d0 t0) 0))))),(wrap64 (E0*(rd (rd_L1 d0 t0) 0))),(wrap64 (G0+1)),(sd),(sd),(sd),H',⟨by have:=HK1.out;have:=HK2.out;omega⟩,⟨kS v0⟩,⟨bl⟩⟩
     ·have H':=qa H;clear H;obtain⟨R0,U0,V0,⟨⟩,W0,HL395_0,X0,Y0,a1,b1⟩:=sg_L1 v0.out t0;have c1:0≤(1:Int):=(by omega);have d1:1<((rd_L1 d0 t0).length :Int):=qo;obtain⟨e1,g1,j1⟩:=Kd.at_int z67_ 1 c1 d1;cases g1;(try simp only[show(1:Int).toNat =1 from rfl,Nat.reduceMul,Nat.reduceEqDiff,Go.Addr.add,↓reduceIte]at j1);have qi396:(1<(rd_L1 d0 t0).length)=True:=eq_true (by omega);(try rw[show((1:Int)).toNat =1 from rfl]at j1);replace c1:=eq_true c1;replace d1:=eq_true d1;go_wp2
      go_roundg k2
      case measure=>have:=HK1.out;have:=HK2.out;omega
      case rel=>exact⟨(wrap64 (s0*D0)),(wrap64 (t0+1)),(sd),(sd),H',⟨by have:=HK1.out;have:=HK2.out;omega⟩,⟨kS v0⟩,⟨bl⟩⟩
   ·obtain rfl:=sj H;obtain⟨B1,C1,rfl⟩:=Kd.S_slice v0.out;go_wp2;go_ret;exact⟨er,bl⟩
 ·obtain rfl:=sj H
  go_enter Tryz.func87,Tryz.ntmps87
  go_wp2_with(first|(refine gd 10 Tryz.func84 (spec_l1In.calls a0 1 10000 false _ c0.out) fun nd=>?_))
  go_ret;exact⟨er,bl⟩

def spec_ProperSum.l0:Nat→Int→Int→Int→Option (Int)
 |0,_,_,_=>none
 |k+1,a0,b0,c0=>if c0<a0 then(if c0=0 then(none)else(if(Int.tmod a0 c0)=0 then(spec_ProperSum.l0 k a0 (wrap64 (b0+c0)) (wrap64 (c0+1)))else(spec_ProperSum.l0 k a0 b0 (wrap64 (c0+1)))))else(some b0)
def spec_ProperSum.f (k:Nat) (a0:Int):Option (Int):=(spec_l1In.f a0 1 10000).bind fun b0=>(if b0=true then(spec_ProperSum.l0 k a0 0 1)else(some (-1)))
set_option maxHeartbeats 8000000 in
set_option maxRecDepth 100000 in
theorem spec_ProperSum.calls (k:Nat) (a0:Int) (r:Int) (w:World) (h:spec_ProperSum.f k a0=some r):
  Calls Tryz.prog 127 #[.int .i64 a0] w fun e w'=>e= .returned (.int .i64 r)∧Drawn0 w w':=by
 have H:=h;unfold spec_ProperSum.f at H;clear h;replace H:=qb H;obtain⟨b0,c0,H⟩:=H;replace H:=qc H;obtain⟨rfl,H⟩|⟨rfl,H⟩:=H
 ·have H':=qa H;clear H
  go_enter Tryz.func127,Tryz.ntmps127
  go_wp2_with(first|(refine gd 6 Tryz.func84 (spec_l1In.calls a0 1 10000 true _ c0.out) fun nd=>?_))
  go_loopg [3,4] k (fun kq d0 e0 w'=>∃(g0:Int) (j0:Int),d0= .int .i64 g0∧e0= .int .i64 j0∧Aside0 (spec_ProperSum.l0 kq a0 g0 j0=some r)∧Aside0 (kq≤k)∧Drawn0 w w')
  case atStart=>exact⟨(0),(1),(sd),(sd),H',⟨Nat.le_refl _⟩,dr⟩
  case round=>
   clear H';obtain⟨g0,j0,rfl,rfl,HA,HK1,⟨m1,rfl⟩⟩:=hrel;obtain⟨k1,rfl,H⟩:=kz gk HA;clear HA;simp only[spec_ProperSum.l0]at H;replace H:=qe H;obtain⟨n0,H⟩|⟨n0,H⟩:=H
   ·by_cases p0:j0=0
    ·rw[if_pos p0]at H;exact absurd H (by simp)
    ·rw[if_neg p0]at H;have q0:(j0==0)=false:=beq_eq_false_iff_ne.mpr p0;have r0:(j0 != 0)=true:=bne_iff_ne.mpr p0;replace H:=qq H;obtain⟨s0,t0,H⟩|⟨v0,s0,t0,H⟩:=H
     ·have H':=qa H;clear H;go_wp2
      go_roundg k1
      case measure=>have:=HK1.out;omega
      case rel=>exact⟨(wrap64 (g0+j0)),(wrap64 (j0+1)),(sd),(sd),H',⟨by have:=HK1.out;omega⟩,dr⟩
     ·have H':=qa H;clear H;go_wp2
      go_roundg k1
      case measure=>have:=HK1.out;omega
      case rel=>exact⟨(g0),(wrap64 (j0+1)),(sd),(sd),H',⟨by have:=HK1.out;omega⟩,dr⟩
   ·obtain rfl:=sj H;go_wp2;go_ret;exact⟨sd,dr⟩
 ·obtain rfl:=sj H
  go_enter Tryz.func127,Tryz.ntmps127
  go_wp2_with(first|(refine gd 6 Tryz.func84 (spec_l1In.calls a0 1 10000 false _ c0.out) fun nd=>?_))
  go_ret;exact⟨sd,dr⟩

def spec_KindOf.f (k:Nat) (a0:Int):Option (Int):=(spec_ProperSum.f k a0).bind fun b0=>(if b0<0 then(some (-2))else(if b0<a0 then(some (-1))else(if b0=a0 then(some 0)else(some 1))))
set_option maxHeartbeats 8000000 in
set_option maxRecDepth 100000 in
theorem spec_KindOf.calls (k:Nat) (a0:Int) (r:Int) (w:World) (h:spec_KindOf.f k a0=some r):
  Calls Tryz.prog 88 #[.int .i64 a0] w fun e w'=>e= .returned (.int .i64 r)∧Drawn0 w w':=by
 have H:=h;unfold spec_KindOf.f at H;clear h;replace H:=qb H;obtain⟨b0,c0,H⟩:=H;replace H:=qe H;obtain⟨d0,H⟩|⟨d0,H⟩:=H
 ·obtain rfl:=sj H
  go_enter Tryz.func88,Tryz.ntmps88
  go_wp2_with(first|(refine gd 5 Tryz.func127 (spec_ProperSum.calls k a0 b0 _ c0.out) fun nd=>?_))
  go_ret;exact⟨sd,dr⟩
 ·replace H:=qe H;obtain⟨e0,H⟩|⟨e0,H⟩:=H
  ·obtain rfl:=sj H
   go_enter Tryz.func88,Tryz.ntmps88
   go_wp2_with(first|(refine gd 5 Tryz.func127 (spec_ProperSum.calls k a0 b0 _ c0.out) fun nd=>?_))
   go_ret;exact⟨sd,dr⟩
  ·replace H:=qq H;obtain⟨g0,j0,H⟩|⟨l0,g0,j0,H⟩:=H
   ·obtain rfl:=sj H
    go_enter Tryz.func88,Tryz.ntmps88
    go_wp2_with(first|(refine gd 5 Tryz.func127 (spec_ProperSum.calls k a0 b0 _ c0.out) fun nd=>?_))
    go_ret;exact⟨sd,dr⟩
   ·obtain rfl:=sj H
    go_enter Tryz.func88,Tryz.ntmps88
    go_wp2_with(first|(refine gd 5 Tryz.func127 (spec_ProperSum.calls k a0 b0 _ c0.out) fun nd=>?_))
    go_ret;exact⟨sd,dr⟩
end Go.Proofs.YtdmlkjjlgkdnlaaGreatDoor.PFnExactDeskLine
