import Derived.Test.YtdmlkjjlgkdnlaaGreatDoorPFnExactDeskLinex14
namespace Go.Proofs.YtdmlkjjlgkdnlaaGreatDoor.PFnExactDeskLine
open Go.RowKit Go.Proofs.YtdmlkjjlgkdnlaaGreatDoorW.PrintWords Go.Proofs.YtdmlkjjlgkdnlaaGreatDoorW.PrintLast Go.Proofs.YtdmlkjjlgkdnlaaGreatDoorW.PrintMore
attribute [local go_sem] max2_int min2_int max_two min_two max_three min_three max_four min_four
set_option linter.unusedVariables false
set_option linter.unusedSimpArgs false
mutual
def spec_WayFrom.l0:Nat→List Int→Int→Option (List Int)
 |0,_,_=>none
 |k+1,a0,b0=>(spec_l1In.f b0 1 10000).bind fun c0=>(if c0=true then(spec_WayFrom.j1 k a0 b0 (decide ((a0.length:Int)<30)))else(spec_WayFrom.j1 k a0 b0 false))
def spec_WayFrom.j1:Nat→List Int→Int→Bool→Option (List Int)
 |0,_,_,_=>none
 |k+1,a0,b0,d0=>if d0=true then(spec_WayFrom.l1 k a0 b0 0)else(some a0)
def spec_WayFrom.l1:Nat→List Int→Int→Int→Option (List Int)
 |0,_,_,_=>none
 |k+1,a0,b0,e0=>if e0<(a0.length:Int)then(if 0≤e0 then(if(rd a0 e0)=b0 then(some a0)else(spec_WayFrom.l1 k a0 b0 (wrap64 (e0+1))))else(none))else(if a0.length<17592186044416 then((spec_ProperSum.f k b0).bind fun g0=>(spec_WayFrom.l0 k (a0++[b0]) g0))else(none))
end

def spec_WayFrom.f (k:Nat) (a0:Int):Option (List Int):=spec_WayFrom.l0 k (([]:List Int)) a0
set_option maxHeartbeats 8000000 in
set_option maxRecDepth 100000 in
theorem spec_WayFrom.calls (k:Nat) (a0:Int) (r:List Int) (w:World) (h:spec_WayFrom.f k a0=some r):
  Calls Tryz.prog 89 #[.int .i64 a0] w fun e w'=>∃v0_:Value,e= .returned (v0_)∧Kd.R (Kd.int .i64) 3 w' w.heap.size (fun _=>True) v0_ r∧Below w.heap.size w w':=by
 have HB:=qa (Below.refl w.heap.size w);have H:=h;unfold spec_WayFrom.f at H;clear h;obtain⟨b0,hy_⟩:∃y_:List Int,y_=(([]:List Int)):=⟨_,rfl⟩;replace H:(spec_WayFrom.l0 k b0 a0)=some r:=yh;have c0:=qa hy_;clear hy_;have H':=qa H;clear H
 go_enter Tryz.func89,Tryz.ntmps89
 go_wp2_with(first|((with_reducible refine gate_dst (N:=6) rfl ?_);(try(refine gate_guard (by rfl) ?_;dsimp only));refine Kd.R_lit (Kd.int .i64) _ 3 ?hg (N:=6) ?hd (xs:=([]:List Int)) (inner:=[]) (ok:=fun _=>True) (okp:=fun _=>True) ?hr ?hp (fun _ hk=>hk) trivial (Below.refl _ _) (Nat.le_refl _) (by simp) ?_;(case hd=>rfl);(case hg=>rfl);(case hr=>exact gr);(case hp=>exact(Reps.none _ _));intro d0 e0 g0 hb hg_ hnew_;clear hg_ hnew_;(first|rw[←c0.out]at g0|(simp only[Int.reduceToNat]at g0;rw[←c0.out]at g0));have j0:=qa (Kd.R_lower g0 (below_size (bl)));replace HB:=bs hb;clear hb g0))
 go_loopg [3,4] k (fun kq n0 p0 w'=>∃(q0:List Int) (r0:Int),p0= .int .i64 r0∧Aside0 (spec_WayFrom.l0 kq q0 r0=some r)∧Aside0 (kq≤k)∧Aside0 (Kd.R (Kd.int .i64) 3 w' w.heap.size (fun _=>True) n0 q0)∧Aside0 (Below w.heap.size w w'))
 case atStart=>exact⟨(b0),(a0),(sd),H',⟨Nat.le_refl _⟩,⟨kR j0⟩,⟨bl⟩⟩
 case round=>
  clear H';obtain⟨q0,r0,rfl,HA,HK1,s0,HB⟩:=hrel;obtain⟨k1,rfl,H⟩:=kz gk HA;clear HA;simp only[spec_WayFrom.l0]at H;have t0:=qa H;clear H
  go_upto_region 3 with(fail)
  go_cut [14] (fun v0 wc=>∃(kq:Nat) (w0:Bool),v0= .bool w0∧Aside0 (spec_WayFrom.j1 kq q0 r0 w0=some r)∧Aside0 (kq≤k1)∧Aside0 (Kd.R (Kd.int .i64) 3 wc w.heap.size (fun _=>True) u3 q0)∧Aside0 (Below w.heap.size w wc))
  case first=>
   have H:=t0.out;clear t0;replace H:=qb H;obtain⟨x0,y0,H⟩:=H;replace H:=qc H;obtain⟨rfl,H⟩|⟨rfl,H⟩:=H
   ·have H':=qa H;clear H
    go_wp2_with(first|(refine gd 9 Tryz.func84 (spec_l1In.calls r0 1 10000 true _ y0.out) fun nd=>?_;obtain⟨A0,B0,rfl⟩:=Kd.R_slice s0.out))
    go_meet
    case rel=>exact⟨_,(decide ((q0.length:Int)<30)),(sd),H',⟨z12_⟩,⟨kR s0⟩,⟨bl⟩⟩
   ·have H':=qa H;clear H
    go_wp2_with(first|(refine gd 9 Tryz.func84 (spec_l1In.calls r0 1 10000 false _ y0.out) fun nd=>?_))
    go_meet
    case rel=>exact⟨_,(false),(sd),H',⟨z12_⟩,⟨kR s0⟩,⟨bl⟩⟩
  case rest=>
   clear t0;obtain⟨kq,w0,rfl,HA,C0,s0,HB⟩:=hcut;obtain⟨D0,rfl,H⟩:=kz kq HA;clear HA;simp only[spec_WayFrom.j1]at H;replace H:=qc H;obtain⟨rfl,H⟩|⟨rfl,H⟩:=H
   ·have H':=qa H;clear H;go_wp2
    go_loopg [5] D0 (fun kq E0 w'=>∃(G0:Int),E0= .int .i64 G0∧Aside0 (spec_WayFrom.l1 kq q0 r0 G0=some r)∧Aside0 (kq≤D0)∧Aside0 (Kd.R (Kd.int .i64) 3 w' w.heap.size (fun _=>True) u3 q0)∧Aside0 (Below w.heap.size w w'))
    case atStart=>exact⟨(0),(sd),H',⟨Nat.le_refl _⟩,⟨kR s0⟩,⟨bl⟩⟩
    case round=>
     clear H';obtain⟨G0,rfl,HA,HK3,s0,HB⟩:=hrel;obtain⟨k3,rfl,H⟩:=kz gk HA;clear HA;simp only[spec_WayFrom.l1]at H;replace H:=qe H;obtain⟨J0,H⟩|⟨J0,H⟩:=H
     ·replace H:=qd H;obtain⟨K0,H⟩:=H;replace H:=qq H;obtain⟨L0,M0,H⟩|⟨N0,L0,M0,H⟩:=H
      ·obtain rfl:=sj H;obtain⟨P0,Q0,rfl⟩:=Kd.R_slice s0.out;obtain⟨R0,⟨⟩,U0,V0,W0⟩:=ai (Kd.R_reads' s0.out).2.2 G0;go_wp2;go_ret;exact⟨_,er,kR s0,bl⟩
      ·have H':=qa H;clear H;obtain⟨X0,Y0,rfl⟩:=Kd.R_slice s0.out;obtain⟨R0,⟨⟩,U0,V0,W0⟩:=ai (Kd.R_reads' s0.out).2.2 G0;go_wp2
       go_roundg k3
       case measure=>have:=HK1.out;have:=C0.out;have:=HK3.out;omega
       case rel=>exact⟨(wrap64 (G0+1)),(sd),H',⟨by have:=HK1.out;have:=C0.out;have:=HK3.out;omega⟩,⟨kR s0⟩,⟨bl⟩⟩
     ·replace H:=qn H;obtain⟨a1,H⟩:=H;have b1:=qa a1;clear a1;obtain⟨c1,hy_⟩:∃y_:List Int,y_=(q0++[r0]):=⟨_,rfl⟩;replace H:((spec_ProperSum.f k3 r0).bind fun d1=>(spec_WayFrom.l0 k3 c1 d1))=some r:=yh;have e1:=qa hy_;clear hy_;replace H:=qb H;obtain⟨d1,g1,H⟩:=H;have H':=qa H;clear H;obtain⟨n1,p1,rfl⟩:=Kd.R_slice s0.out
      go_wp2_with(first|((with_reducible refine gate_builtin (b:= .append) (xs:=#[.tmp 28,.tmp 30]) rfl ?_);(try(refine gate_guard (by rfl) ?_;dsimp only));at_builtin;refine Kd.R_append (Kd.int .i64) (w0:=w) w.heap.size rfl (.tmp 28) (.tmp 30) 22 3 (.int .i64 0) 8 rfl Tryz.underlying22 info3 rfl (by decide) (by omega) (.slice n1 q0.length p1) q0 r0 [.int .i64 r0] (fun _=>True) (fun _=>False) rfl rfl ?aP (fun _ hk=>hk.elim) ?aF ?aO ?aB ?aS ?aL ?_;(case aP=>exact rfl);(case aB=>exact(bl));(case aF=>exact(fun _ _=>trivial));(case aO=>exact(kR s0));(case aS=>exact(below_size (bl)));(case aL=>have:=b1.out;omega);intro q1 r1 ho hb hg hat;rw[←e1.out]at ho;replace HB:=qa (hb);have s1:=qa (ho);clear s0;clear ho hb hg hat)|(refine gd 33 Tryz.func127 (spec_ProperSum.calls k3 r0 d1 _ g1.out) fun nd=>?_))
      go_roundg k3
      case measure=>have:=HK1.out;have:=C0.out;have:=HK3.out;omega
      case rel=>exact⟨(c1),(d1),(sd),H',⟨by have:=HK1.out;have:=C0.out;have:=HK3.out;omega⟩,⟨kR s1⟩,⟨bl⟩⟩
   ·obtain rfl:=sj H;go_wp2;go_ret;exact⟨_,er,kR s0,bl⟩

def spec_HowManyApart.l0:Nat→Int→List (List Int)→Int→Option (Int)
 |0,_,_,_=>none
 |k+1,a0,b0,c0=>if c0<(b0.length:Int)then(if 0≤c0 then(if 0<((rd_L1 b0 c0).length :Int)then(if(rd (rd_L1 b0 c0) 0)=0 then(none)else(spec_HowManyApart.l0 k (wrap64 ((wrap64 (Int.tdiv a0 (rd (rd_L1 b0 c0) 0)))*(wrap64 ((rd (rd_L1 b0 c0) 0)-1)))) b0 (wrap64 (c0+1))))else(none))else(none))else(some a0)
def spec_HowManyApart.f (k:Nat) (a0:Int):Option (Int):=(spec_l1In.f a0 1 10000).bind fun b0=>(if b0=true then((spec_FactorsOf.f k a0).bind fun c0=>(spec_HowManyApart.l0 k a0 c0 0))else(some (-1)))
set_option maxHeartbeats 8000000 in
set_option maxRecDepth 100000 in
theorem spec_HowManyApart.calls (k:Nat) (a0:Int) (r:Int) (w:World) (h:spec_HowManyApart.f k a0=some r):
  Calls Tryz.prog 90 #[.int .i64 a0] w fun e w'=>e= .returned (.int .i64 r)∧Below w.heap.size w w':=by
 have HB:=qa (Below.refl w.heap.size w);have H:=h;unfold spec_HowManyApart.f at H;clear h;replace H:=qb H;obtain⟨b0,c0,H⟩:=H;replace H:=qc H;obtain⟨rfl,H⟩|⟨rfl,H⟩:=H
 ·replace H:=qb H;obtain⟨d0,e0,H⟩:=H;have H':=qa H;clear H
  go_enter Tryz.func90,Tryz.ntmps90
  go_wp2_with(first|(go_at_call 84;(with_reducible refine gm (spec_l1In.calls a0 1 10000 true _ c0.out) fun nd=>?_);(try exact dn))|(go_at_call 126;(with_reducible refine(spec_FactorsOf.calls k a0 d0 _ e0.out).mono ?_);rintro e g0 ⟨j0,rfl,n0,hb⟩;have p0:=qa (Kd.S_lower n0 (below_size (bl)));replace HB:=bs hb))
  repeat(go_quiet(first|(go_at_call 84;(with_reducible refine gm (spec_l1In.calls a0 1 10000 true _ c0.out) fun nd=>?_);(try exact dn))|(go_at_call 126;(with_reducible refine(spec_FactorsOf.calls k a0 d0 _ e0.out).mono ?_);rintro e g0 ⟨j0,rfl,n0,hb⟩;have p0:=qa (Kd.S_lower n0 (below_size (bl)));replace HB:=bs hb));try go_wp2_with(first|(go_at_call 84;(with_reducible refine gm (spec_l1In.calls a0 1 10000 true _ c0.out) fun nd=>?_);(try exact dn))|(go_at_call 126;(with_reducible refine(spec_FactorsOf.calls k a0 d0 _ e0.out).mono ?_);rintro e g0 ⟨j0,rfl,n0,hb⟩;have p0:=qa (Kd.S_lower n0 (below_size (bl)));replace HB:=bs hb)))
  go_loopg [3,5] k (fun kq q0 r0 w'=>∃(s0:Int) (t0:Int),q0= .int .i64 s0∧r0= .int .i64 t0∧Aside0 (spec_HowManyApart.l0 kq s0 d0 t0=some r)∧Aside0 (kq≤k)∧Aside0 (Kd.S (Kd.slice 3 (Kd.int .i64)) 22 w' w.heap.size (fun _=>True) j0 d0)∧Aside0 (Below w.heap.size w w'))
  case atStart=>exact⟨(a0),(0),(sd),(sd),H',⟨Nat.le_refl _⟩,⟨kS p0⟩,⟨bl⟩⟩
  case round=>
   clear H';obtain⟨s0,t0,rfl,rfl,HA,HK1,v0,HB⟩:=hrel;obtain⟨k1,rfl,H⟩:=kz gk HA;clear HA;simp only[spec_HowManyApart.l0]at H;replace H:=qe H;obtain⟨w0,H⟩|⟨w0,H⟩:=H
   ·replace H:=qd H;obtain⟨x0,H⟩:=H;replace H:=qL 0 H;obtain⟨y0,A0,H⟩:=H
    by_cases B0:(rd (rd_L1 d0 t0) 0)=0
    ·rw[if_pos B0]at H;exact absurd H (by simp)
    ·rw[if_neg B0]at H;have C0:((rd (rd_L1 d0 t0) 0)==0)=false:=beq_eq_false_iff_ne.mpr B0;have D0:((rd (rd_L1 d0 t0) 0) != 0)=true:=bne_iff_ne.mpr B0;have H':=qa H;clear H;obtain⟨E0,G0,rfl⟩:=Kd.S_slice v0.out;obtain⟨J0,K0,L0,⟨⟩,M0,HL414_0,N0,P0,Q0,R0⟩:=sg_L1 v0.out t0;obtain⟨U0,⟨⟩,V0,qi415,W0,X0⟩:=ain 0 (by repeat(first|(with_reducible exact N0.out)|(with_reducible refine Kd.C_alloc ?_ _)|(with_reducible refine Kd.C_drewN ?_ _)|(with_reducible refine Kd.C_drew ?_)|exact N0.out)) 0;(try rw[Addr.add_zero']at V0);obtain⟨Y0,a1,b1,HL416_0,c1,d1,e1,g1⟩:=sh_L1 v0.out t0;have ea_:=Option.some.inj (M0.symm.trans b1);(injection ea_ with ea_ en_ ec_);subst ea_;subst ec_;clear en_;obtain⟨j1,⟨⟩,l1,qi417,n1,p1⟩:=ain 0 (by repeat(first|(with_reducible exact c1.out)|(with_reducible refine Kd.C_alloc ?_ _)|(with_reducible refine Kd.C_drewN ?_ _)|(with_reducible refine Kd.C_drew ?_)|exact c1.out)) 0;(try rw[Addr.add_zero']at l1);go_wp2
     repeat(go_quiet(fail);try go_wp2)
     go_roundg k1
     case measure=>have:=HK1.out;omega
     case rel=>exact⟨(wrap64 ((wrap64 (Int.tdiv s0 (rd (rd_L1 d0 t0) 0)))*(wrap64 ((rd (rd_L1 d0 t0) 0)-1)))),(wrap64 (t0+1)),(sd),(sd),H',⟨by have:=HK1.out;omega⟩,⟨kS v0⟩,⟨bl⟩⟩
   ·obtain rfl:=sj H;obtain⟨q1,r1,rfl⟩:=Kd.S_slice v0.out;go_wp2
    repeat(go_quiet(fail);try go_wp2)
    go_ret;exact⟨er,bl⟩
 ·obtain rfl:=sj H
  go_enter Tryz.func90,Tryz.ntmps90
  go_wp2_with(first|(go_at_call 84;(with_reducible refine gm (spec_l1In.calls a0 1 10000 false _ c0.out) fun nd=>?_);(try exact dn)))
  repeat(go_quiet(first|(go_at_call 84;(with_reducible refine gm (spec_l1In.calls a0 1 10000 false _ c0.out) fun nd=>?_);(try exact dn)));try go_wp2_with(first|(go_at_call 84;(with_reducible refine gm (spec_l1In.calls a0 1 10000 false _ c0.out) fun nd=>?_);(try exact dn))))
  go_ret;exact⟨er,bl⟩

def spec_LeavesSign.f (a0:Int):Option (Int):=(spec_l1In.f a0 1 10000).bind fun b0=>(if b0=true then(if(Int.tmod a0 2)=0 then(some 0)else(some (wrap64 (2-(Int.tmod a0 4)))))else(some 0))
set_option maxHeartbeats 8000000 in
set_option maxRecDepth 100000 in
theorem spec_LeavesSign.calls (a0:Int) (r:Int) (w:World) (h:spec_LeavesSign.f a0=some r):
  Calls Tryz.prog 128 #[.int .i64 a0] w fun e w'=>e= .returned (.int .i64 r)∧Drawn0 w w':=by
 have H:=h;unfold spec_LeavesSign.f at H;clear h;replace H:=qb H;obtain⟨b0,c0,H⟩:=H;replace H:=qc H;obtain⟨rfl,H⟩|⟨rfl,H⟩:=H
 ·replace H:=qq H;obtain⟨d0,e0,H⟩|⟨g0,d0,e0,H⟩:=H
  ·obtain rfl:=sj H
   go_enter Tryz.func128,Tryz.ntmps128
   go_wp2_with(first|(refine gd 4 Tryz.func84 (spec_l1In.calls a0 1 10000 true _ c0.out) fun nd=>?_))
   go_ret;exact⟨sd,dr⟩
  ·obtain rfl:=sj H
   go_enter Tryz.func128,Tryz.ntmps128
   go_wp2_with(first|(refine gd 4 Tryz.func84 (spec_l1In.calls a0 1 10000 true _ c0.out) fun nd=>?_))
   go_ret;exact⟨sd,dr⟩
 ·obtain rfl:=sj H
  go_enter Tryz.func128,Tryz.ntmps128
  go_wp2_with(first|(refine gd 4 Tryz.func84 (spec_l1In.calls a0 1 10000 false _ c0.out) fun nd=>?_))
  go_ret;exact⟨sd,dr⟩

def spec_ByDivisors.l0:Nat→Int→List Int→Int→Option (Int)
 |0,_,_,_=>none
 |k+1,a0,b0,c0=>if c0<(b0.length:Int)then(if 0≤c0 then((spec_LeavesSign.f (rd b0 c0)).bind fun d0=>(spec_ByDivisors.l0 k (wrap64 (a0+d0)) b0 (wrap64 (c0+1))))else(none))else(some (wrap64 (4*a0)))
def spec_ByDivisors.f (k:Nat) (a0:Int):Option (Int):=(spec_l1In.f a0 1 10000).bind fun b0=>(if b0=true then((spec_DivisorsOf.f k a0).bind fun c0=>(spec_ByDivisors.l0 k 0 c0 0))else(some (-1)))
set_option maxHeartbeats 8000000 in
set_option maxRecDepth 100000 in
theorem spec_ByDivisors.calls (k:Nat) (a0:Int) (r:Int) (w:World) (h:spec_ByDivisors.f k a0=some r):
  Calls Tryz.prog 91 #[.int .i64 a0] w fun e w'=>e= .returned (.int .i64 r)∧Below w.heap.size w w':=by
 have HB:=qa (Below.refl w.heap.size w);have H:=h;unfold spec_ByDivisors.f at H;clear h;replace H:=qb H;obtain⟨b0,c0,H⟩:=H;replace H:=qc H;obtain⟨rfl,H⟩|⟨rfl,H⟩:=H
 ·replace H:=qb H;obtain⟨d0,e0,H⟩:=H;have H':=qa H;clear H
  go_enter Tryz.func91,Tryz.ntmps91
  go_wp2_with(first|(refine gd 7 Tryz.func84 (spec_l1In.calls a0 1 10000 true _ c0.out) fun nd=>?_)|(refine ge_ 10 Tryz.func86 (spec_DivisorsOf.calls k a0 d0 _ e0.out) fun g0 j0 n0 hb=>?_;have p0:=qa (Kd.R_lower n0 (below_size (bl)));replace HB:=bs hb))
  go_loopg [3,5] k (fun kq q0 r0 w'=>∃(s0:Int) (t0:Int),q0= .int .i64 s0∧r0= .int .i64 t0∧Aside0 (spec_ByDivisors.l0 kq s0 d0 t0=some r)∧Aside0 (kq≤k)∧Aside0 (Kd.R (Kd.int .i64) 3 w' w.heap.size (fun _=>True) g0 d0)∧Aside0 (Below w.heap.size w w'))
  case atStart=>exact⟨(0),(0),(sd),(sd),H',⟨Nat.le_refl _⟩,⟨kR p0⟩,⟨bl⟩⟩
  case round=>
   clear H';obtain⟨s0,t0,rfl,rfl,HA,HK1,v0,HB⟩:=hrel;obtain⟨k1,rfl,H⟩:=kz gk HA;clear HA;simp only[spec_ByDivisors.l0]at H;replace H:=qe H;obtain⟨w0,H⟩|⟨w0,H⟩:=H
   ·replace H:=qd H;obtain⟨x0,H⟩:=H;replace H:=qb H;obtain⟨y0,A0,H⟩:=H;have H':=qa H;clear H;obtain⟨B0,C0,rfl⟩:=Kd.R_slice v0.out;obtain⟨D0,⟨⟩,E0,G0,J0⟩:=ai (Kd.R_reads' v0.out).2.2 t0
    go_wp2_with(first|(refine gd 22 Tryz.func128 (spec_LeavesSign.calls (rd d0 t0) y0 _ A0.out) fun nd=>?_))
    go_roundg k1
    case measure=>have:=HK1.out;omega
    case rel=>exact⟨(wrap64 (s0+y0)),(wrap64 (t0+1)),(sd),(sd),H',⟨by have:=HK1.out;omega⟩,⟨kR v0⟩,⟨bl⟩⟩
   ·obtain rfl:=sj H;obtain⟨K0,L0,rfl⟩:=Kd.R_slice v0.out;go_wp2;go_ret;exact⟨er,bl⟩
 ·obtain rfl:=sj H
  go_enter Tryz.func91,Tryz.ntmps91
  go_wp2_with(first|(refine gd 7 Tryz.func84 (spec_l1In.calls a0 1 10000 false _ c0.out) fun nd=>?_))
  go_ret;exact⟨er,bl⟩
mutual
def spec_l12Ask.j0:Nat→List Int→ByteArray→Int→Bool→Option (ByteArray)
 |0,_,_,_,_=>none
 |k+1,a0,b0,c0,d0=>if d0=true then(if 0≤(wrap64 (c0-1))then(if(wrap64 (c0-1))<(a0.length:Int)then((spec_l1Number.f k (rd a0 (wrap64 (c0-1)))).bind fun e0=>(some e0))else(none))else(none))else((spec_l1In.f c0 1 10000).bind fun g0=>(if g0=true then(spec_l12Ask.j1 k b0 c0 (b0.toList==([97,116]:List UInt8)))else(spec_l12Ask.j1 k b0 c0 true)))
def spec_l12Ask.j1:Nat→ByteArray→Int→Bool→Option (ByteArray)
 |0,_,_,_=>none
 |k+1,b0,c0,l0=>if l0=true then(some (⟨#[110,111,110,101]⟩:ByteArray))else(if b0.toList=([112,114,105,109,101,115]:List UInt8)then((spec_FactorText.f k c0).bind fun n0=>(some n0))else(if b0.toList=([100,105,118,105,115,111,114,115]:List UInt8)then((spec_DivisorsOf.f k c0).bind fun p0=>((spec_l12Row.f k p0).bind fun q0=>(some q0)))else(if b0.toList=([115,117,109]:List UInt8)then((spec_AllSum.f k c0).bind fun r0=>((spec_l1Number.f k r0).bind fun s0=>(some s0)))else(if b0.toList=([107,105,110,100]:List UInt8)then((some (([(⟨#[112,111,111,114]⟩:ByteArray),(⟨#[112,101,114,102,101,99,116]⟩:ByteArray),(⟨#[114,105,99,104]⟩:ByteArray)]:List ByteArray):List ByteArray)).bind fun t0=>((spec_KindOf.f k c0).bind fun v0=>(if 0≤(wrap64 (v0+1))then(if(wrap64 (v0+1))<(t0.length:Int)then(some (rdOf ByteArray.empty t0 (wrap64 (v0+1))))else(none))else(none))))else(if b0.toList=([119,97,121]:List UInt8)then((spec_WayFrom.f k c0).bind fun w0=>((spec_l12Row.f k w0).bind fun x0=>(some x0)))else(if b0.toList=([97,112,97,114,116]:List UInt8)then((spec_HowManyApart.f k c0).bind fun y0=>((spec_l1Number.f k y0).bind fun A0=>(some A0)))else((spec_ByDivisors.f k c0).bind fun B0=>((spec_l1Number.f k B0).bind fun C0=>(some C0)))))))))
end

def spec_l12Ask.f (k:Nat) (a0:List Int) (b0:ByteArray) (c0:Int):Option (ByteArray):=if b0.toList=([97,116]:List UInt8)then((spec_l1In.f c0 1 24).bind fun d0=>(spec_l12Ask.j0 k a0 b0 c0 d0))else(spec_l12Ask.j0 k a0 b0 c0 false)
set_option maxHeartbeats 8000000 in
set_option maxRecDepth 100000 in
theorem spec_l12Ask.calls (k:Nat) (a0:Option Addr) (b0:Nat) (c0:List Int) (d0:ByteArray) (e0:Int) (r:ByteArray) (w:World) (g0:Kd.C (Kd.int .i64) w a0 c0.length c0) (l0:c0.length≤b0) (h:spec_l12Ask.f k c0 d0 e0=some r):
  Calls Tryz.prog 49 #[.slice a0 c0.length b0,.string d0,.int .i64 e0] w fun e w'=>e= .returned (.string r)∧Below w.heap.size w w':=by
 have n0:=qa g0;have p0:=qa l0;clear g0 l0;have HB:=qa (Below.refl w.heap.size w);have H:=h;unfold spec_l12Ask.f at H;clear h;have q0:=qa H;clear H
 go_enter Tryz.func49,Tryz.ntmps49
 go_upto_region 1 with(fail)
 go_cut [12] (fun r0 wc=>∃(kq:Nat) (s0:Bool),r0= .bool s0∧Aside0 (spec_l12Ask.j0 kq c0 d0 e0 s0=some r)∧Aside0 (kq≤k)∧Aside0 (Below w.heap.size w wc))
 case first=>
  have H:=q0.out;clear q0;replace H:=qq H;obtain⟨t0,v0,H⟩|⟨w0,t0,v0,H⟩:=H
  ·(first|rw[t0]|(simp only[i64_w,i32_w];rw[t0])|skip);replace H:=qb H;obtain⟨x0,y0,H⟩:=H;have H':=qa H;clear H
   go_wp2_with(first|(go_at_call 84;(with_reducible refine gm (spec_l1In.calls e0 1 24 x0 _ y0.out) fun nd=>?_)))
   go_meet
   case rel=>exact⟨_,(x0),(sd),H',⟨by first|omega|exact Nat.le_refl _⟩,⟨bl⟩⟩
  ·(first|rw[t0]|(simp only[i64_w,i32_w];rw[t0])|skip);have H':=qa H;clear H;go_wp2;go_meet
   case rel=>exact⟨_,(false),(sd),H',⟨by first|omega|exact Nat.le_refl _⟩,⟨bl⟩⟩
 case rest=>
  clear q0;obtain⟨kq,s0,rfl,HA,A0,HB⟩:=hcut;obtain⟨B0,rfl,H⟩:=kz kq HA;clear HA;simp only[spec_l12Ask.j0]at H;replace H:=qc H;obtain⟨rfl,H⟩|⟨rfl,H⟩:=H
  ·obtain⟨C0,D0⟩:∃j_:Int,(wrap64 (e0-1))=j_:=⟨_,rfl⟩;(first|rw[D0]at H|(try simp only[D0]at H));have E0:(IntKind.i64.wrap (e0-1))=C0:=(i64_w _).trans D0;replace H:=qd H;obtain⟨G0,H⟩:=H;replace H:=qd H;obtain⟨J0,H⟩:=H;replace H:=qb H;obtain⟨K0,L0,H⟩:=H;obtain rfl:=sj H;obtain⟨M0,⟨⟩,N0,P0,Q0⟩:=ai n0.out (C0);(try replace N0:=(HB.out.cell (World.block_lt_of_cell? w _ N0)).trans N0)
   go_wp2_with(first|((with_reducible refine gate_callee (f:=82) rfl ?_);refine goesL_ (some 18) rfl rfl Tryz.func82 (by kernel_rfl) rfl #[.int .i64 (rd c0 (C0))] rfl (by(try simp only[List.map_toArray,List.map_cons,List.map_nil]);first|done|(simp only[D0];rfl)|rfl|(simp only[List.length_drop,List.length_take];rfl)) ?_;(with_reducible refine(spec_l1Number.calls B0 (rd c0 (C0)) K0 _ L0.out).mono ?_);rintro e R0 ⟨rfl,hb⟩;refine⟨_,rfl,?_⟩;replace HB:=bs hb))
   go_ret;exact⟨by first|rfl|(simp[errW_none,errW_some];exact⟨rfl,rfl⟩)|(simp[errW_none,errW_some] <;> rfl)|(simp only[←D0];first|rfl|(simp[errW_none,errW_some] <;> rfl))|(simp[*,errW_none,errW_some] <;> rfl),bl⟩
  ·have U0:=qa H;clear H
   go_upto_region 3 with(fail)
   go_cut [25] (fun V0 wc=>∃(kq:Nat) (W0:Bool),V0= .bool W0∧Aside0 (spec_l12Ask.j1 kq d0 e0 W0=some r)∧Aside0 (kq≤B0)∧Aside0 (Below w.heap.size w wc))
   case first=>
    have H:=U0.out;clear U0;replace H:=qb H;obtain⟨X0,Y0,H⟩:=H;replace H:=qc H;obtain⟨rfl,H⟩|⟨rfl,H⟩:=H
    ·have H':=qa H;clear H
     go_wp2_with(first|(refine gd 20 Tryz.func84 (spec_l1In.calls e0 1 10000 true _ Y0.out) fun nd=>?_))
     go_meet
     case rel=>exact⟨_,((d0.toList==([97,116]:List UInt8))),(sd),H',⟨by have:=A0.out;first|omega|exact Nat.le_refl _⟩,⟨bl⟩⟩
    ·have H':=qa H;clear H
     go_wp2_with(first|(refine gd 20 Tryz.func84 (spec_l1In.calls e0 1 10000 false _ Y0.out) fun nd=>?_))
     go_meet
     case rel=>exact⟨_,(true),(sd),H',⟨by have:=A0.out;first|omega|exact Nat.le_refl _⟩,⟨bl⟩⟩
   case rest=>
    clear U0;obtain⟨kq,W0,rfl,HA,a1,HB⟩:=hcut;obtain⟨b1,rfl,H⟩:=kz kq HA;clear HA;simp only[spec_l12Ask.j1]at H;replace H:=qc H;obtain⟨rfl,H⟩|⟨rfl,H⟩:=H
    ·obtain rfl:=sj H;go_wp2;go_ret;exact⟨er,bl⟩
    ·replace H:=qq H;obtain⟨c1,d1,H⟩|⟨e1,c1,d1,H⟩:=H
     ·replace H:=qb H;obtain⟨g1,l1,H⟩:=H;obtain rfl:=sj H
      go_wp2_with(first|(refine gb 30 Tryz.func85 (spec_FactorText.calls b1 e0 g1 _ l1.out) fun n1 hb=>?_;replace HB:=bs hb))
      go_ret;exact⟨er,bl⟩
     ·replace H:=qq H;obtain⟨p1,q1,H⟩|⟨r1,p1,q1,H⟩:=H
      ·replace H:=qb H;obtain⟨s1,t1,H⟩:=H;replace H:=qb H;obtain⟨v1,w1,H⟩:=H;obtain rfl:=sj H
       go_wp2_with(first|(refine ge_ 34 Tryz.func86 (spec_DivisorsOf.calls b1 e0 s1 _ t1.out) fun x1 y1 A1 hb=>?_;have B1:=qa (Kd.R_lower A1 (below_size (bl)));replace HB:=bs hb;obtain⟨C1,D1,rfl⟩:=Kd.R_slice B1.out)|(refine gb 35 Tryz.func43 (spec_l12Row.calls b1 _ _ s1 v1 _ (cx (Kd.R_reads' B1.out).2.2) ((Kd.R_reads' B1.out).2.1) w1.out) fun E1 hb=>?_;replace B1:=qa (Kd.R_below (kR B1) hb);replace HB:=bs hb))
       go_ret;exact⟨er,bl⟩
      ·replace H:=qq H;obtain⟨G1,J1,H⟩|⟨K1,G1,J1,H⟩:=H
       ·replace H:=qb H;obtain⟨L1,M1,H⟩:=H;replace H:=qb H;obtain⟨N1,P1,H⟩:=H;obtain rfl:=sj H
        go_wp2_with(first|(refine gb 39 Tryz.func87 (spec_AllSum.calls b1 e0 L1 _ M1.out) fun Q1 hb=>?_;replace HB:=bs hb)|(refine gb 40 Tryz.func82 (spec_l1Number.calls b1 L1 N1 _ P1.out) fun R1 hb=>?_;replace HB:=bs hb))
        go_ret;exact⟨er,bl⟩
       ·replace H:=qq H;obtain⟨U1,V1,H⟩|⟨W1,U1,V1,H⟩:=H
        ·replace H:=qs H;obtain⟨X1,Y1,H⟩:=H;replace H:=qb H;obtain⟨a2,b2,H⟩:=H;obtain⟨c2,d2⟩:∃j_:Int,(wrap64 (a2+1))=j_:=⟨_,rfl⟩;(first|rw[d2]at H|(try simp only[d2]at H));(try rw[d2]at b2);have e2:(IntKind.i64.wrap (a2+1))=c2:=(i64_w _).trans d2;replace H:=qd H;obtain⟨g2,H⟩:=H;replace H:=qd H;obtain⟨j2,H⟩:=H;obtain rfl:=sj H
         go_wp2_with(first|((with_reducible refine gate_dst (N:=43) rfl ?_);refine Kd.R_lit Kd.string _ 9 ?hg (N:=43) ?hd (xs:=([(⟨#[112,111,111,114]⟩:ByteArray),(⟨#[112,101,114,102,101,99,116]⟩:ByteArray),(⟨#[114,105,99,104]⟩:ByteArray)]:List ByteArray)) (inner:=[.string (⟨#[112,111,111,114]⟩:ByteArray),.string (⟨#[112,101,114,102,101,99,116]⟩:ByteArray),.string (⟨#[114,105,99,104]⟩:ByteArray)]) (ok:=fun _=>True) (okp:=fun _=>True) ?hr ?hp (fun _ hk=>hk) trivial (Below.refl _ _) (Nat.le_refl _) (by simp) ?_;(case hd=>rfl);(case hg=>rfl);(case hr=>exact gr);(case hp=>exact(Reps.one (show Kd.M Kd.string _ _ _ (⟨#[112,111,111,114]⟩:ByteArray) [.string (⟨#[112,111,111,114]⟩:ByteArray)]from rfl) (Reps.one (show Kd.M Kd.string _ _ _ (⟨#[112,101,114,102,101,99,116]⟩:ByteArray) [.string (⟨#[112,101,114,102,101,99,116]⟩:ByteArray)]from rfl) (Reps.one (show Kd.M Kd.string _ _ _ (⟨#[114,105,99,104]⟩:ByteArray) [.string (⟨#[114,105,99,104]⟩:ByteArray)]from rfl) (Reps.none _ _)))));intro l2 n2 p2 hb hg_ hnew_;clear hg_ hnew_;(first|rw[←Y1.out]at p2|(simp only[Int.reduceToNat]at p2;rw[←Y1.out]at p2));have q2:=qa (Kd.R_lower p2 (below_size (bl)));replace HB:=bs hb;clear hb p2)|(refine gd 45 Tryz.func88 (spec_KindOf.calls b1 e0 a2 _ b2.out) fun nd=>?_;obtain⟨r2,s2,rfl⟩:=Kd.R_slice q2.out;obtain⟨t2,⟨⟩,v2,w2,x2⟩:=as_ (Kd.R_reads' q2.out).2.2 (c2)))
         go_ret;exact⟨by first|rfl|(simp[errW_none,errW_some];exact⟨rfl,rfl⟩)|(simp[errW_none,errW_some] <;> rfl)|(simp only[←d2];first|rfl|(simp[errW_none,errW_some] <;> rfl))|(simp[*,errW_none,errW_some] <;> rfl),bl⟩
        ·replace H:=qq H;obtain⟨y2,A2,H⟩|⟨B2,y2,A2,H⟩:=H
         ·replace H:=qb H;obtain⟨C2,D2,H⟩:=H;replace H:=qb H;obtain⟨E2,G2,H⟩:=H;obtain rfl:=sj H
          go_wp2_with(first|(refine ge_ 52 Tryz.func89 (spec_WayFrom.calls b1 e0 C2 _ D2.out) fun J2 K2 A1 hb=>?_;have L2:=qa (Kd.R_lower A1 (below_size (bl)));replace HB:=bs hb;obtain⟨M2,N2,rfl⟩:=Kd.R_slice L2.out)|(refine gb 53 Tryz.func43 (spec_l12Row.calls b1 _ _ C2 E2 _ (cx (Kd.R_reads' L2.out).2.2) ((Kd.R_reads' L2.out).2.1) G2.out) fun P2 hb=>?_;replace L2:=qa (Kd.R_below (kR L2) hb);replace HB:=bs hb))
          go_ret;exact⟨er,bl⟩
         ·replace H:=qq H;obtain⟨Q2,R2,H⟩|⟨U2,Q2,R2,H⟩:=H
          ·replace H:=qb H;obtain⟨V2,W2,H⟩:=H;replace H:=qb H;obtain⟨X2,Y2,H⟩:=H;obtain rfl:=sj H
           go_wp2_with(first|(refine gb 57 Tryz.func90 (spec_HowManyApart.calls b1 e0 V2 _ W2.out) fun a3 hb=>?_;replace HB:=bs hb)|(refine gb 58 Tryz.func82 (spec_l1Number.calls b1 V2 X2 _ Y2.out) fun b3 hb=>?_;replace HB:=bs hb))
           go_ret;exact⟨er,bl⟩
          ·replace H:=qb H;obtain⟨c3,d3,H⟩:=H;replace H:=qb H;obtain⟨e3,g3,H⟩:=H;obtain rfl:=sj H
           go_wp2_with(first|(refine gb 60 Tryz.func91 (spec_ByDivisors.calls b1 e0 c3 _ d3.out) fun j3 hb=>?_;replace HB:=bs hb)|(refine gb 61 Tryz.func82 (spec_l1Number.calls b1 c3 e3 _ g3.out) fun l3 hb=>?_;replace HB:=bs hb))
           go_ret;exact⟨er,bl⟩
mutual
def spec_DeskLine.l0:Nat→List ByteArray→List ByteArray→Int→Int→List Int→List (List Int)→List Int→List (List Int)→Option (List Int×(List (List Int))×ByteArray)
 |0,_,_,_,_,_,_,_,_=>none
 |k+1,a0,b0,c0,d0,e0,g0,j0,n0=>if d0<c0 then(if 0≤d0 then(if d0<(b0.length:Int)then(if(a0.length:Int)=2 then(if 0<(a0.length:Int)then(if(rdOf ByteArray.empty a0 0).toList =(rdOf ByteArray.empty b0 d0).toList then(if 1<(a0.length:Int)then((spec_l1Digits.f k (rdOf ByteArray.empty a0 1)).bind fun p0=>(spec_DeskLine.j1 k a0 (rdOf ByteArray.empty b0 d0) b0 c0 d0 (decide (p0≥0)) e0 g0 j0 n0))else(none))else(spec_DeskLine.j1 k a0 (rdOf ByteArray.empty b0 d0) b0 c0 d0 false e0 g0 j0 n0))else(none))else(spec_DeskLine.j1 k a0 (rdOf ByteArray.empty b0 d0) b0 c0 d0 false e0 g0 j0 n0))else(none))else(none))else(some (j0,n0,(⟨#[119,104,97,116]⟩:ByteArray)))
def spec_DeskLine.j1:Nat→List ByteArray→ByteArray→List ByteArray→Int→Int→Bool→List Int→List (List Int)→List Int→List (List Int)→Option (List Int×(List (List Int))×ByteArray)
 |0,_,_,_,_,_,_,_,_,_,_=>none
 |k+1,a0,q0,b0,c0,d0,r0,e0,g0,j0,n0=>if r0=true then(if 1<(a0.length:Int)then((spec_l1Digits.f k (rdOf ByteArray.empty a0 1)).bind fun s0=>((spec_l12Ask.f k e0 q0 s0).bind fun t0=>(some (j0,n0,t0))))else(none))else(spec_DeskLine.l0 k a0 b0 c0 (wrap64 (d0+1)) e0 g0 j0 n0)
end

def spec_DeskLine.f (k:Nat) (a0:List Int) (b0:List (List Int)) (c0:ByteArray):Option (List Int×(List (List Int))×ByteArray):=(spec_DeskOk.f k a0 b0).bind fun d0=>(if d0=true then((spec_l12Copy.f k a0 b0).bind fun e0=>((spec_ReadDeed.f k c0).bind fun g0=>(if g0.2.2.2=true then((spec_DeskDo.f k a0 b0 g0.1 g0.2.1 g0.2.2.1).bind fun j0=>(if j0.2.2=true then(some (j0.1,j0.2.1,(⟨#[111,107]⟩:ByteArray)))else(some (j0.1,j0.2.1,(⟨#[110,111,116]⟩:ByteArray)))))else(if c0.toList=([102,105,114,115,116]:List UInt8)then(if 8≤(a0.length:Int)then((spec_l12Row.f k (a0.take 8)).bind fun n0=>(some (e0.1,e0.2,n0)))else(none))else(if c0.toList=([109,117,108,116,105,112,108,105,99,97,116,105,118,101]:List UInt8)then((spec_MultiplicativeOk.f k a0).bind fun p0=>((spec_l12Yes.f p0).bind fun q0=>(some (e0.1,e0.2,q0))))else(if c0.toList=([102,117,108,108]:List UInt8)then((spec_FullyOk.f k a0).bind fun r0=>((spec_l12Yes.f r0).bind fun s0=>(some (e0.1,e0.2,s0))))else((spec_l1Cut.f k c0 32).bind fun t0=>((some (([(⟨#[97,116]⟩:ByteArray),(⟨#[112,114,105,109,101,115]⟩:ByteArray),(⟨#[100,105,118,105,115,111,114,115]⟩:ByteArray),(⟨#[115,117,109]⟩:ByteArray),(⟨#[107,105,110,100]⟩:ByteArray),(⟨#[119,97,121]⟩:ByteArray),(⟨#[97,112,97,114,116]⟩:ByteArray),(⟨#[115,113,117,97,114,101,115]⟩:ByteArray)]:List ByteArray):List ByteArray)).bind fun v0=>(spec_DeskLine.l0 k t0 v0 (v0.length:Int) 0 a0 b0 e0.1 e0.2)))))))))else(some (([]:List Int),([]:List (List Int)),(⟨#[]⟩:ByteArray))))
def spec_DeskLine.T22:Bool×List (List Nat×List Nat):=(true,[([],[]),([],[]),([1],[1]),([],[]),([],[]),([4],[4]),([5],[5]),([6],[6]),([2,3,7,7],[2,3,7]),([0,8,0],[0]),([8,9,0,1,2,3,4,5,6,7,8,9],[8])])
def spec_DeskLine.B22:List Nat:=[0,0,2,0,0,16,48,112,254,511,1023]
theorem spec_DeskLine.tab22:rtab .any (opsOf Tryz.f9 22)=spec_DeskLine.T22:=by kernel_rfl
theorem spec_DeskLine.bits22:waitsOk spec_DeskLine.T22.2 spec_DeskLine.B22=true:=by kernel_rfl
set_option maxHeartbeats 8000000 in
set_option maxRecDepth 100000 in
theorem spec_DeskLine.calls (k:Nat) (a0:Option Addr) (b0:Nat) (c0:List Int) (d0:Option Addr) (e0:Nat) (g0:List (List Int)) (j0:ByteArray) (n0:List Int) (p0:List (List Int)) (q0:ByteArray) (w:World) (r0:Kd.C (Kd.int .i64) w a0 c0.length c0) (t0:c0.length≤b0) (v0:Kd.C (Kd.slice 3 (Kd.int .i64)) w d0 g0.length g0) (w0:g0.length≤e0) (h:spec_DeskLine.f k c0 g0 j0=some (n0,p0,q0)):
  Calls Tryz.prog 9 #[.agg #[.slice a0 c0.length b0,.slice d0 g0.length e0],.string j0] w fun e w'=>∃v0_ v1_:Value,e= .returned (.tuple #[.agg #[v0_,v1_],.string q0])∧Kd.R (Kd.int .i64) 3 w' w.heap.size (fun _=>True) v0_ n0∧Kd.Q (Kd.slice 3 (Kd.int .i64)) 22 w' w.heap.size (fun k_=>some k_≠(v0_:Value).ownBlock) v1_ p0∧Below w.heap.size w w':=by
 have x0:=Tryz.underlying27;have y0:=Tryz.underlying55;have A0:=qa r0;have B0:=qa t0;clear r0 t0;have C0:=qa v0;have D0:=qa w0;clear v0 w0;have HB:=qa (Below.refl w.heap.size w);have H:=h;unfold spec_DeskLine.f at H;clear h;replace H:=qb H;obtain⟨E0,G0,H⟩:=H;replace H:=qc H;obtain⟨rfl,H⟩|⟨rfl,H⟩:=H
 ·replace H:=qb H;obtain⟨⟨J0,K0⟩,L0,H⟩:=H;(try dsimp only at H);replace H:=qb H;obtain⟨⟨M0,N0,P0,Q0⟩,R0,H⟩:=H;(try dsimp only at H);replace H:=qc H;obtain⟨rfl,H⟩|⟨rfl,H⟩:=H
  ·replace H:=qb H;obtain⟨⟨U0,V0,W0⟩,X0,H⟩:=H;(try dsimp only at H);replace H:=qc H;obtain⟨rfl,H⟩|⟨rfl,H⟩:=H
   ·simp only[Option.some.injEq,Prod.mk.injEq]at H;obtain⟨rfl,rfl,rfl⟩:=H
    go_enter Tryz.func9,Tryz.ntmps9
    go_wp2_with(first|(refine bx 2 #[.slice a0 c0.length b0,.slice d0 g0.length e0] 27 ?_;intro Y0 hg a1 hbox hb;have b1:=qa (hbox);have c1:=gw hg;have d1:=gw hg;replace HB:=bs hb;clear hb hbox hg)|(refine bx 4 #[.slice none 0 0,.slice none 0 0] 27 ?_;intro e1 hg g1 hbox hb;have l1:=qa (hbox);have n1:=gw hg;have p1:=gw hg;replace HB:=bs hb;have q1:=qnl hg b1;have r1:=qng hg b1;replace b1:=qbb b1 hb;clear hb hbox hg;have t1:=q1.out;have v1:=r1.out;obtain⟨w1,x1,y1,A1⟩:=qk2 b1)|(refine gb 15 Tryz.func20 (spec_DeskOk.calls k _ _ c0 _ _ g0 true _ (cx (Kd.C_below A0.out HB.out)) B0.out (cx (Kd.C_below C0.out HB.out)) D0.out G0.out) fun B1 hb=>?_;replace b1:=qbb b1 hb;replace l1:=qbb l1 hb;replace HB:=bs hb;obtain⟨C1,D1,E1,G1⟩:=qk2 b1)|(refine gol (some 19) Tryz.func40 #[.agg #[.slice a0 c0.length b0,.slice d0 g0.length e0]] ?_;(with_reducible refine(spec_l12Copy.calls k _ _ c0 _ _ g0 J0 K0 _ ?J1 ?K1 ?L1 ?M1 L0.out).mono ?_);(case J1=>exact cx (Kd.C_below A0.out HB.out));(case K1=>exact B0.out);(case L1=>exact cx (Kd.C_below C0.out HB.out));(case M1=>exact D0.out);rintro e N1 ⟨P1,Q1,rfl,R1,U1,hb⟩;refine⟨_,rfl,?_⟩;have V1:=qa (Kd.R_lower R1 (below_size (bl)));have W1:=qa (Kd.S_lower U1 (below_size (bl)));replace b1:=qbb b1 hb;replace l1:=qbb l1 hb;replace HB:=bs hb)|(refine bx 6 #[.slice none 0 0,.slice none 0 0] 27 ?_;intro X1 hg Y1 hbox hb;replace V1:=qa (Kd.R_below (kR V1) hb);replace W1:=qa (Kd.S_below (kS W1) hb);have a2:=qa (hbox);have b2:=gw hg;have c2:=gw hg;replace HB:=bs hb;have d2:=qnl hg b1;have e2:=qng hg b1;replace b1:=qbb b1 hb;have g2:=qnl hg l1;have j2:=qng hg l1;replace l1:=qbb l1 hb;clear hb hbox hg;obtain⟨l2,n2,rfl⟩:=Kd.R_slice V1.out;have p2:=e2.out;have q2:=d2.out;have r2:=j2.out;have t2:=g2.out;obtain⟨v2,w2,x2,y2⟩:=qk2 a2;obtain⟨A2,B2,rfl⟩:=Kd.S_slice W1.out)|(refine gb 22 Tryz.func41 (spec_ReadDeed.calls k j0 M0 N0 P0 true _ R0.out) fun C2 hb=>?_;replace V1:=qa (Kd.R_below (kFR V1 a2 (fun _ h_=>h_.1)) hb);replace W1:=qa (Kd.S_below (kFS W1 a2 (fun _ h_=>h_.1)) hb);replace b1:=qbb b1 hb;replace l1:=qbb l1 hb;replace a2:=qa (blk_below (g:=X1) (o:= .cells #[.slice l2 J0.length n2,.slice A2 K0.length B2] 27 (0,0)) (kP a2) hb);replace HB:=bs hb)|(refine bx 7 #[.int .i64 0,.int .i64 0,.int .i64 0] 55 ?_;intro D2 hg E2 hbox hb;replace V1:=qa (Kd.R_below (kR V1) hb);replace W1:=qa (Kd.S_below (kS W1) hb);have G2:=qa (hbox);have J2:=gw hg;have K2:=gw hg;replace HB:=bs hb;have L2:=qnl hg b1;have M2:=qng hg b1;replace b1:=qbb b1 hb;have N2:=qnl hg l1;have P2:=qng hg l1;replace l1:=qbb l1 hb;have Q2:=qnl hg a2;have R2:=qng hg a2;replace a2:=qbb a2 hb;clear hb hbox hg;have U2:=M2.out;have V2:=L2.out;have W2:=P2.out;have X2:=N2.out;have Y2:=R2.out;have a3:=Q2.out;obtain⟨b3,c3,d3,e3,g3,j3⟩:=qk3 G2;obtain⟨l3,n3,p3,q3⟩:=qk2 b1)|(refine gol (some 29) Tryz.func42 #[.agg #[.slice a0 c0.length b0,.slice d0 g0.length e0],.agg #[.int .i64 M0,.int .i64 N0,.int .i64 P0]] ?_;(with_reducible refine(spec_DeskDo.calls k _ _ c0 _ _ g0 M0 N0 P0 U0 V0 true _ ?J1 ?K1 ?L1 ?M1 X0.out).mono ?_);(case J1=>exact Kd.C_below A0.out (bl));(case K1=>exact B0.out);(case L1=>exact Kd.C_below C0.out (bl));(case M1=>exact D0.out);rintro e r3 ⟨t3,v3,rfl,R1,U1,hb⟩;refine⟨_,rfl,?_⟩;have w3:=qa (Kd.R_lower (Kd.R_new' R1 (Kd.R_lt (kFR V1 G2 (fun _ h_=>h_.1)))) (below_size (bl)));have x3:=qa (Kd.Q_lower (Kd.Q_new' (Kd.Q_new' U1 (Kd.R_lt (kFR V1 G2 (fun _ h_=>h_.1)))) (Kd.S_lt (kFS W1 G2 (fun _ h_=>h_.1)))) (below_size (bl)));replace V1:=qa (Kd.R_elder' (kFR V1 G2 (fun _ h_=>h_.1)) (Kd.R_base R1) hb);replace W1:=qa (Kd.S_mono (Kd.S_told (Kd.S_told (Kd.S_old (kFS W1 G2 (fun _ h_=>h_.1)) hb) (Kd.R_base R1)) (Kd.Q_base U1)) (fun _ h_=>h_.1));replace b1:=qbb b1 hb;replace l1:=qbb l1 hb;replace a2:=qbb a2 hb;replace G2:=qa (blk_below (g:=D2) (o:= .cells #[.int .i64 M0,.int .i64 N0,.int .i64 P0] 55 (0,0)) (kP G2) hb);replace HB:=bs hb)|(refine bx 9 #[.slice none 0 0,.slice none 0 0] 27 ?_;intro y3 hg A3 hbox hb;replace V1:=qa (Kd.R_below (kR V1) hb);replace W1:=qa (Kd.S_below (kS W1) hb);replace w3:=qa (Kd.R_below (kR w3) hb);replace x3:=qa (Kd.Q_below (kQ x3) hb);have B3:=qa (hbox);have C3:=gw hg;have D3:=gw hg;replace HB:=bs hb;have E3:=qnl hg b1;have G3:=qng hg b1;replace b1:=qbb b1 hb;have J3:=qnl hg l1;have K3:=qng hg l1;replace l1:=qbb l1 hb;have L3:=qnl hg a2;have M3:=qng hg a2;replace a2:=qbb a2 hb;have N3:=qnl hg G2;have P3:=qng hg G2;replace G2:=qbb G2 hb;clear hb hbox hg;obtain⟨Q3,R3,rfl⟩:=Kd.R_slice w3.out;have U3:=G3.out;have V3:=E3.out;have W3:=K3.out;have X3:=J3.out;have Y3:=M3.out;have a4:=L3.out;have b4:=P3.out;have c4:=N3.out;obtain⟨d4,e4,g4,j4⟩:=qk2 B3;obtain⟨l4,n4,p4,_⟩:=Kd.Q_slice x3.out;subst p4;obtain⟨q4,r4,t4,v4⟩:=qk2 l1))
    refine bodyPost_ret (results_ct rfl _ _ e1 27 #[.slice Q3 U0.length R3,.slice l4 V0.length n4] (0,0) _ rfl (by(with_reducible repeat(first|refine blk_drewN ?_ _|refine blk_drew ?_|refine blk_alloc ?_ _));refine blk_put (cs:=#[.slice Q3 U0.length R3,.slice none 0 0]) ?_ 1 _ rfl;(with_reducible repeat(first|refine blk_drewN ?_ _|refine blk_drew ?_|refine blk_alloc ?_ _));refine blk_put (cs:=#[.slice none 0 0,.slice none 0 0]) ?_ 0 _ rfl;(with_reducible repeat(first|refine blk_drewN ?_ _|refine blk_drew ?_|refine blk_alloc ?_ _));refine blk_far ?_ J3.out _;(with_reducible repeat(first|refine blk_drewN ?_ _|refine blk_drew ?_|refine blk_alloc ?_ _));refine blk_far ?_ J3.out _;(with_reducible repeat(first|refine blk_drewN ?_ _|refine blk_drew ?_|refine blk_alloc ?_ _));exact l1.out) Tryz.underlying27 rfl (by kernel_rfl)) rfl ?_;exact⟨_,_,er,kGR w3.out B3 l1 (fun _ hk=>trivial),kGQ x3.out B3 l1 (fun _ hk=>hk.1.1.1.1),bl⟩
   ·simp only[Option.some.injEq,Prod.mk.injEq]at H;obtain⟨rfl,rfl,rfl⟩:=H
    go_enter Tryz.func9,Tryz.ntmps9
    go_wp2_with(first|(refine bx 2 #[.slice a0 c0.length b0,.slice d0 g0.length e0] 27 ?_;intro Y0 hg w4 hbox hb;have b1:=qa (hbox);have c1:=gw hg;have d1:=gw hg;replace HB:=bs hb;clear hb hbox hg)|(refine bx 4 #[.slice none 0 0,.slice none 0 0] 27 ?_;intro e1 hg x4 hbox hb;have l1:=qa (hbox);have n1:=gw hg;have p1:=gw hg;replace HB:=bs hb;have q1:=qnl hg b1;have r1:=qng hg b1;replace b1:=qbb b1 hb;clear hb hbox hg;have y4:=q1.out;have A4:=r1.out;obtain⟨B4,C4,D4,E4⟩:=qk2 b1)|(refine gb 15 Tryz.func20 (spec_DeskOk.calls k _ _ c0 _ _ g0 true _ (cx (Kd.C_below A0.out HB.out)) B0.out (cx (Kd.C_below C0.out HB.out)) D0.out G0.out) fun G4 hb=>?_;replace b1:=qbb b1 hb;replace l1:=qbb l1 hb;replace HB:=bs hb;obtain⟨J4,K4,L4,M4⟩:=qk2 b1)|(refine gol (some 19) Tryz.func40 #[.agg #[.slice a0 c0.length b0,.slice d0 g0.length e0]] ?_;(with_reducible refine(spec_l12Copy.calls k _ _ c0 _ _ g0 J0 K0 _ ?J1 ?K1 ?L1 ?M1 L0.out).mono ?_);(case J1=>exact cx (Kd.C_below A0.out HB.out));(case K1=>exact B0.out);(case L1=>exact cx (Kd.C_below C0.out HB.out));(case M1=>exact D0.out);rintro e N4 ⟨P1,Q1,rfl,R1,U1,hb⟩;refine⟨_,rfl,?_⟩;have V1:=qa (Kd.R_lower R1 (below_size (bl)));have W1:=qa (Kd.S_lower U1 (below_size (bl)));replace b1:=qbb b1 hb;replace l1:=qbb l1 hb;replace HB:=bs hb)|(refine bx 6 #[.slice none 0 0,.slice none 0 0] 27 ?_;intro X1 hg P4 hbox hb;replace V1:=qa (Kd.R_below (kR V1) hb);replace W1:=qa (Kd.S_below (kS W1) hb);have a2:=qa (hbox);have b2:=gw hg;have c2:=gw hg;replace HB:=bs hb;have d2:=qnl hg b1;have e2:=qng hg b1;replace b1:=qbb b1 hb;have g2:=qnl hg l1;have j2:=qng hg l1;replace l1:=qbb l1 hb;clear hb hbox hg;obtain⟨Q4,R4,rfl⟩:=Kd.R_slice V1.out;have U4:=e2.out;have V4:=d2.out;have W4:=j2.out;have X4:=g2.out;obtain⟨Y4,a5,b5,c5⟩:=qk2 a2;obtain⟨d5,e5,rfl⟩:=Kd.S_slice W1.out)|(refine gb 22 Tryz.func41 (spec_ReadDeed.calls k j0 M0 N0 P0 true _ R0.out) fun g5 hb=>?_;replace V1:=qa (Kd.R_below (kFR V1 a2 (fun _ h_=>h_.1)) hb);replace W1:=qa (Kd.S_below (kFS W1 a2 (fun _ h_=>h_.1)) hb);replace b1:=qbb b1 hb;replace l1:=qbb l1 hb;replace a2:=qa (blk_below (g:=X1) (o:= .cells #[.slice Q4 J0.length R4,.slice d5 K0.length e5] 27 (0,0)) (kP a2) hb);replace HB:=bs hb)|(refine bx 7 #[.int .i64 0,.int .i64 0,.int .i64 0] 55 ?_;intro D2 hg j5 hbox hb;replace V1:=qa (Kd.R_below (kR V1) hb);replace W1:=qa (Kd.S_below (kS W1) hb);have G2:=qa (hbox);have J2:=gw hg;have K2:=gw hg;replace HB:=bs hb;have L2:=qnl hg b1;have M2:=qng hg b1;replace b1:=qbb b1 hb;have N2:=qnl hg l1;have P2:=qng hg l1;replace l1:=qbb l1 hb;have Q2:=qnl hg a2;have R2:=qng hg a2;replace a2:=qbb a2 hb;clear hb hbox hg;have l5:=M2.out;have n5:=L2.out;have p5:=P2.out;have q5:=N2.out;have r5:=R2.out;have s5:=Q2.out;obtain⟨t5,v5,w5,x5,y5,A5⟩:=qk3 G2;obtain⟨B5,C5,D5,E5⟩:=qk2 b1)|(refine gol (some 29) Tryz.func42 #[.agg #[.slice a0 c0.length b0,.slice d0 g0.length e0],.agg #[.int .i64 M0,.int .i64 N0,.int .i64 P0]] ?_;(with_reducible refine(spec_DeskDo.calls k _ _ c0 _ _ g0 M0 N0 P0 U0 V0 false _ ?J1 ?K1 ?L1 ?M1 X0.out).mono ?_);(case J1=>exact Kd.C_below A0.out (bl));(case K1=>exact B0.out);(case L1=>exact Kd.C_below C0.out (bl));(case M1=>exact D0.out);rintro e G5 ⟨t3,v3,rfl,R1,U1,hb⟩;refine⟨_,rfl,?_⟩;have w3:=qa (Kd.R_lower (Kd.R_new' R1 (Kd.R_lt (kFR V1 G2 (fun _ h_=>h_.1)))) (below_size (bl)));have x3:=qa (Kd.Q_lower (Kd.Q_new' (Kd.Q_new' U1 (Kd.R_lt (kFR V1 G2 (fun _ h_=>h_.1)))) (Kd.S_lt (kFS W1 G2 (fun _ h_=>h_.1)))) (below_size (bl)));replace V1:=qa (Kd.R_elder' (kFR V1 G2 (fun _ h_=>h_.1)) (Kd.R_base R1) hb);replace W1:=qa (Kd.S_mono (Kd.S_told (Kd.S_told (Kd.S_old (kFS W1 G2 (fun _ h_=>h_.1)) hb) (Kd.R_base R1)) (Kd.Q_base U1)) (fun _ h_=>h_.1));replace b1:=qbb b1 hb;replace l1:=qbb l1 hb;replace a2:=qbb a2 hb;replace G2:=qa (blk_below (g:=D2) (o:= .cells #[.int .i64 M0,.int .i64 N0,.int .i64 P0] 55 (0,0)) (kP G2) hb);replace HB:=bs hb)|(refine bx 9 #[.slice none 0 0,.slice none 0 0] 27 ?_;intro y3 hg J5 hbox hb;replace V1:=qa (Kd.R_below (kR V1) hb);replace W1:=qa (Kd.S_below (kS W1) hb);replace w3:=qa (Kd.R_below (kR w3) hb);replace x3:=qa (Kd.Q_below (kQ x3) hb);have B3:=qa (hbox);have C3:=gw hg;have D3:=gw hg;replace HB:=bs hb;have E3:=qnl hg b1;have G3:=qng hg b1;replace b1:=qbb b1 hb;have J3:=qnl hg l1;have K3:=qng hg l1;replace l1:=qbb l1 hb;have L3:=qnl hg a2;have M3:=qng hg a2;replace a2:=qbb a2 hb;have N3:=qnl hg G2;have P3:=qng hg G2;replace G2:=qbb G2 hb;clear hb hbox hg;obtain⟨K5,L5,rfl⟩:=Kd.R_slice w3.out;have M5:=G3.out;have N5:=E3.out;have P5:=K3.out;have Q5:=J3.out;have R5:=M3.out;have U5:=L3.out;have V5:=P3.out;have W5:=N3.out;obtain⟨X5,Y5,a6,b6⟩:=qk2 B3;obtain⟨c6,d6,e6,_⟩:=Kd.Q_slice x3.out;subst e6;obtain⟨g6,j6,l6,n6⟩:=qk2 l1))
    refine bodyPost_ret (results_ct rfl _ _ e1 27 #[.slice K5 U0.length L5,.slice c6 V0.length d6] (0,0) _ rfl (by(with_reducible repeat(first|refine blk_drewN ?_ _|refine blk_drew ?_|refine blk_alloc ?_ _));refine blk_put (cs:=#[.slice K5 U0.length L5,.slice none 0 0]) ?_ 1 _ rfl;(with_reducible repeat(first|refine blk_drewN ?_ _|refine blk_drew ?_|refine blk_alloc ?_ _));refine blk_put (cs:=#[.slice none 0 0,.slice none 0 0]) ?_ 0 _ rfl;(with_reducible repeat(first|refine blk_drewN ?_ _|refine blk_drew ?_|refine blk_alloc ?_ _));refine blk_far ?_ J3.out _;(with_reducible repeat(first|refine blk_drewN ?_ _|refine blk_drew ?_|refine blk_alloc ?_ _));refine blk_far ?_ J3.out _;(with_reducible repeat(first|refine blk_drewN ?_ _|refine blk_drew ?_|refine blk_alloc ?_ _));exact l1.out) Tryz.underlying27 rfl (by kernel_rfl)) rfl ?_;exact⟨_,_,er,kGR w3.out B3 l1 (fun _ hk=>trivial),kGQ x3.out B3 l1 (fun _ hk=>hk.1.1.1.1),bl⟩
  ·replace H:=qq H;obtain⟨p6,q6,H⟩|⟨r6,p6,q6,H⟩:=H
   ·replace H:=qn H;obtain⟨s6,H⟩:=H;have t6:=eq_true s6;have v6:decide (8≤(c0.length:Int))=true:=decide_eq_true s6;clear s6;replace H:=qb H;obtain⟨w6,x6,H⟩:=H;simp only[Option.some.injEq,Prod.mk.injEq]at H;obtain⟨rfl,rfl,rfl⟩:=H
    go_enter Tryz.func9,Tryz.ntmps9
    try go_wp2_with(first|(refine bx 2 #[.slice a0 c0.length b0,.slice d0 g0.length e0] 27 ?_;intro Y0 hg y6 hbox hb;have b1:=qa (hbox);have c1:=gw hg;have d1:=gw hg;replace HB:=bs hb;clear hb hbox hg)|(refine bx 4 #[.slice none 0 0,.slice none 0 0] 27 ?_;intro e1 hg A6 hbox hb;have l1:=qa (hbox);have n1:=gw hg;have p1:=gw hg;replace HB:=bs hb;have q1:=qnl hg b1;have r1:=qng hg b1;replace b1:=qbb b1 hb;clear hb hbox hg;have B6:=q1.out;have C6:=r1.out;obtain⟨D6,E6,G6,J6⟩:=qk2 b1)|(refine gb 15 Tryz.func20 (spec_DeskOk.calls k _ _ c0 _ _ g0 true _ (cx (Kd.C_below A0.out HB.out)) B0.out (cx (Kd.C_below C0.out HB.out)) D0.out G0.out) fun K6 hb=>?_;replace b1:=qbb b1 hb;replace l1:=qbb l1 hb;replace HB:=bs hb;obtain⟨L6,M6,N6,P6⟩:=qk2 b1)|(refine gol (some 19) Tryz.func40 #[.agg #[.slice a0 c0.length b0,.slice d0 g0.length e0]] ?_;(with_reducible refine(spec_l12Copy.calls k _ _ c0 _ _ g0 J0 K0 _ ?J1 ?K1 ?L1 ?M1 L0.out).mono ?_);(case J1=>exact cx (Kd.C_below A0.out HB.out));(case K1=>exact B0.out);(case L1=>exact cx (Kd.C_below C0.out HB.out));(case M1=>exact D0.out);rintro e Q6 ⟨P1,Q1,rfl,R1,U1,hb⟩;refine⟨_,rfl,?_⟩;have V1:=qa (Kd.R_lower R1 (below_size (bl)));have W1:=qa (Kd.S_lower U1 (below_size (bl)));replace b1:=qbb b1 hb;replace l1:=qbb l1 hb;replace HB:=bs hb)|(refine bx 6 #[.slice none 0 0,.slice none 0 0] 27 ?_;intro X1 hg R6 hbox hb;replace V1:=qa (Kd.R_below (kR V1) hb);replace W1:=qa (Kd.S_below (kS W1) hb);have a2:=qa (hbox);have b2:=gw hg;have c2:=gw hg;replace HB:=bs hb;have d2:=qnl hg b1;have e2:=qng hg b1;replace b1:=qbb b1 hb;have g2:=qnl hg l1;have j2:=qng hg l1;replace l1:=qbb l1 hb;clear hb hbox hg;obtain⟨U6,V6,rfl⟩:=Kd.R_slice V1.out;have W6:=e2.out;have X6:=d2.out;have Y6:=j2.out;have a7:=g2.out;obtain⟨b7,c7,d7,e7⟩:=qk2 a2;obtain⟨g7,j7,rfl⟩:=Kd.S_slice W1.out)|(refine gb 22 Tryz.func41 (spec_ReadDeed.calls k j0 M0 N0 P0 false _ R0.out) fun l7 hb=>?_;replace V1:=qa (Kd.R_below (kFR V1 a2 (fun _ h_=>h_.1)) hb);replace W1:=qa (Kd.S_below (kFS W1 a2 (fun _ h_=>h_.1)) hb);replace b1:=qbb b1 hb;replace l1:=qbb l1 hb;replace a2:=qa (blk_below (g:=X1) (o:= .cells #[.slice U6 J0.length V6,.slice g7 K0.length j7] 27 (0,0)) (kP a2) hb);replace HB:=bs hb)|(refine bx 7 #[.int .i64 0,.int .i64 0,.int .i64 0] 55 ?_;intro D2 hg n7 hbox hb;replace V1:=qa (Kd.R_below (kR V1) hb);replace W1:=qa (Kd.S_below (kS W1) hb);have G2:=qa (hbox);have J2:=gw hg;have K2:=gw hg;replace HB:=bs hb;have L2:=qnl hg b1;have M2:=qng hg b1;replace b1:=qbb b1 hb;have N2:=qnl hg l1;have P2:=qng hg l1;replace l1:=qbb l1 hb;have Q2:=qnl hg a2;have R2:=qng hg a2;replace a2:=qbb a2 hb;clear hb hbox hg;have p7:=M2.out;have q7:=L2.out;have r7:=P2.out;have s7:=N2.out;have t7:=R2.out;have v7:=Q2.out;obtain⟨w7,x7,y7,A7,B7,C7⟩:=qk3 G2))
    have n0_:Aside0 (Kd.R (Kd.int .i64) 3 (((n7.setCell ⟨D2,0,none⟩ (.int .i64 M0)).setCell ⟨D2,1,none⟩ (.int .i64 N0)).setCell ⟨D2,2,none⟩ (.int .i64 P0)) w.heap.size (fun _=>True) (.slice U6 J0.length V6) J0):=⟨kFR V1 G2 (fun _ hk=>trivial)⟩;have n1_:Aside0 (Kd.S (Kd.slice 3 (Kd.int .i64)) 22 (((n7.setCell ⟨D2,0,none⟩ (.int .i64 M0)).setCell ⟨D2,1,none⟩ (.int .i64 N0)).setCell ⟨D2,2,none⟩ (.int .i64 P0)) w.heap.size (fun k_=>some k_≠(.slice U6 J0.length V6:Value).ownBlock) (.slice g7 K0.length j7) K0):=⟨kFS W1 G2 (fun _ hk=>hk.1)⟩;have n2_:Aside0 ((((n7.setCell ⟨D2,0,none⟩ (.int .i64 M0)).setCell ⟨D2,1,none⟩ (.int .i64 N0)).setCell ⟨D2,2,none⟩ (.int .i64 P0)).heap[Y0]? =some (.cells #[.slice a0 c0.length b0,.slice d0 g0.length e0] 27 (0,0))):=⟨kb b1⟩;have n3_:Aside0 ((((n7.setCell ⟨D2,0,none⟩ (.int .i64 M0)).setCell ⟨D2,1,none⟩ (.int .i64 N0)).setCell ⟨D2,2,none⟩ (.int .i64 P0)).heap[e1]? =some (.cells #[.slice none 0 0,.slice none 0 0] 27 (0,0))):=⟨kb l1⟩;have n4_:Aside0 ((((n7.setCell ⟨D2,0,none⟩ (.int .i64 M0)).setCell ⟨D2,1,none⟩ (.int .i64 N0)).setCell ⟨D2,2,none⟩ (.int .i64 P0)).heap[X1]? =some (.cells #[.slice U6 J0.length V6,.slice g7 K0.length j7] 27 (0,0))):=⟨kb a2⟩;have n5_:Aside0 ((((n7.setCell ⟨D2,0,none⟩ (.int .i64 M0)).setCell ⟨D2,1,none⟩ (.int .i64 N0)).setCell ⟨D2,2,none⟩ (.int .i64 P0)).heap[D2]? =some (.cells #[.int .i64 M0,.int .i64 N0,.int .i64 P0] 55 (0,0))):=⟨kP G2⟩;have n6_:Aside0 (Below w.heap.size w (((n7.setCell ⟨D2,0,none⟩ (.int .i64 M0)).setCell ⟨D2,1,none⟩ (.int .i64 N0)).setCell ⟨D2,2,none⟩ (.int .i64 P0))):=⟨bl⟩;(try clear V1);(try clear W1);(try clear b1);(try clear l1);(try clear a2);(try clear G2);(try clear HB);generalize (((n7.setCell ⟨D2,0,none⟩ (.int .i64 M0)).setCell ⟨D2,1,none⟩ (.int .i64 N0)).setCell ⟨D2,2,none⟩ (.int .i64 P0))=D7 at n0_ n1_ n2_ n3_ n4_ n5_ n6_ ⊢;have V1:=n0_;have W1:=n1_;have b1:=n2_;have l1:=n3_;have a2:=n4_;have G2:=n5_;have HB:=n6_;clear n0_ n1_ n2_ n3_ n4_ n5_ n6_;replace V1:=qa (Kd.R_drew V1.out);replace W1:=qa (Kd.S_drew W1.out);replace b1:=qa (blk_drew b1.out);replace l1:=qa (blk_drew l1.out);replace a2:=qa (blk_drew a2.out);replace G2:=qa (blk_drew G2.out);replace HB:=qa (below_drew1 HB.out);obtain⟨i094,E7,_,G7,_⟩:=info_parts info3;obtain⟨J7,hA94,hC94⟩:=print_take_of (P:=Tryz.prog) (Value.int .i64) 0 22 3 .i64 Tryz.underlying22 E7 G7 a0 b0 c0 8 (by omega) (qo) B0.out;have K7:=qa (Kd.C_of_reads (h1:=fun _=>rfl) (hA94 _ (Kd.reads_of_C A0.out)));have L7:=qa hC94;clear hA94 hC94 E7 G7;refine start_ (n:=7) (S:=fun w'=>w'.cell? ⟨X1,0,none⟩=some (.slice U6 J0.length V6)∧w'.cell? ⟨X1,1,none⟩=some (.slice g7 K0.length j7)∧w'.cell? ⟨Y0,0,none⟩=some (.slice a0 c0.length b0)∧w'.cell? ⟨Y0,1,none⟩=some (.slice d0 g0.length e0)) (ds:=[]) #[false,false,false,false,false,false,false] (by kernel_rfl) rfl rfl ⟨(blk_cell a2.out 0).trans rfl,(blk_cell a2.out 1).trans rfl,(blk_cell b1.out 0).trans rfl,(blk_cell b1.out 1).trans rfl⟩ (fun hHeld=>?_);generalize D7.drew=M7 at V1 W1 b1 l1 a2 G2 HB K7 hHeld ⊢;refine pure_ (i:=1) (N:=some 40) (v:=?_) (a':=?_) #[false,true,false,false,false,false,false] rfl rfl (by kernel_rfl) (fun _ _ _ h=>h) (Or.inl ⟨by rfl,?_⟩) ?_ ?_;rotate_left
    ·intro w'
     go_simp
     with_reducible rfl
    rotate_left
    ·simp only[Act.put,List.setIfInBounds_toArray,List.set_cons_zero,List.set_cons_succ,i64_w,i32_w]
     rfl
    refine take_ (i:=0) (N:=some 39) (v:=?_) (a':=?_) #[true,true,false,false,false,false,false] rfl rfl (by kernel_rfl) (fun _ _ _ h=>h) (Or.inl ⟨by rfl,?_⟩) hHeld ?_ ?_;rotate_left
    ·rintro w' ⟨s0,s1,s2,s3⟩
     go_simp
     with_reducible rfl
    rotate_left
    ·simp only[Act.put,List.setIfInBounds_toArray,List.set_cons_zero,List.set_cons_succ,i64_w,i32_w]
     rfl
    refine take_ (i:=2) (N:=some 41) (v:=?_) (a':=?_) #[true,true,true,false,false,false,false] rfl rfl (by kernel_rfl) (fun _ _ _ h=>h) (Or.inl ⟨by rfl,?_⟩) hHeld ?_ ?_;rotate_left
    ·rintro w' ⟨s0,s1,s2,s3⟩
     go_simp
     with_reducible rfl
    rotate_left
    ·simp only[Act.put,List.setIfInBounds_toArray,List.set_cons_zero,List.set_cons_succ,i64_w,i32_w]
     rfl
    refine pure_ (i:=3) (N:=some 42) (v:=?_) (a':=?_) #[true,true,true,true,false,false,false] rfl rfl (by kernel_rfl) (fun _ _ _ h=>h) (Or.inl ⟨by rfl,?_⟩) ?_ ?_;rotate_left
    ·intro w'
     go_simp
     with_reducible rfl
    rotate_left
    ·simp only[Act.put,List.setIfInBounds_toArray,List.set_cons_zero,List.set_cons_succ,i64_w,i32_w]
     rfl
    refine one_ (i:=4) (N:=some 43) #[true,true,true,true,true,false,false] rfl rfl (by kernel_rfl) (by decide) (fun K hK=>?_);refine goes_ Tryz.func43 (by kernel_rfl) rfl #[.slice a0 (c0.take 8).length b0] (by rfl) rfl rfl z48_ ?_
    with_reducible refine(spec_l12Row.calls k _ _ (c0.take 8) w6 _ ?J1 ?K1 x6.out).mono ?_
    (case J1=>exact cx (Kd.C_below K7.out HB.out));(case K1=>exact L7.out);rintro e N7 ⟨rfl,hb⟩;refine⟨_,rfl,?_⟩;replace V1:=qa (Kd.R_below (kR V1) hb);replace W1:=qa (Kd.S_below (kS W1) hb);replace b1:=qbb b1 hb;replace l1:=qbb l1 hb;replace a2:=qbb a2 hb;replace G2:=qbb G2 hb;replace HB:=bs hb;(try clear hb);(try clear P7);(try clear hk);(try clear hi);refine hK.out _ _ ⟨(blk_cell a2.out 0).trans rfl,(blk_cell a2.out 1).trans rfl,(blk_cell b1.out 0).trans rfl,(blk_cell b1.out 1).trans rfl⟩ (fun hHeld=>?_);clear hK K;refine norm_ (a':=?_) ?_ ?_;rotate_left
    ·show Act.put _ (some 43) _=_;simp only[Act.put,List.setIfInBounds_toArray,List.set_cons_zero,List.set_cons_succ,i64_w,i32_w]
     rfl
    refine one_ (i:=5) (N:=none) #[true,true,true,true,true,true,false] rfl rfl (by kernel_rfl) (by decide) (fun K hK=>?_);have Q7:N7.cell? ⟨e1,0,none⟩=some (.slice none 0 0):=(blk_cell l1.out 0).trans rfl;have R7:=blk_frozen l1.out 0;have U7:=q1.out;have V7:=j2.out;have W7:=P2.out;have X7:=r1.out;have Y7:=g2.out;have a8:=N2.out;have b8:N7.cell? ⟨e1,1,none⟩=some (.slice none 0 0):=(blk_cell l1.out 1).trans rfl;have c8:=blk_frozen l1.out 1;have d8:=q1.out;have e8:=j2.out;have g8:=P2.out;have j8:=r1.out;have l8:=g2.out;have n8:=N2.out;refine skip_ (w1:=?_) (by rfl) rfl ?_ ?_;rotate_left
    ·go_simp
     rfl
    refine hK.out _ _ ⟨((cell_far (p:=⟨e1,_,none⟩) j2.out _).trans (((cell_far (p:=⟨e1,_,none⟩) j2.out _).trans (hHeld.1)))),((cell_far (p:=⟨e1,_,none⟩) j2.out _).trans (((cell_far (p:=⟨e1,_,none⟩) j2.out _).trans (hHeld.2.1)))),((cell_far (p:=⟨e1,_,none⟩) q1.out _).trans (((cell_far (p:=⟨e1,_,none⟩) q1.out _).trans (hHeld.2.2.1)))),((cell_far (p:=⟨e1,_,none⟩) q1.out _).trans (((cell_far (p:=⟨e1,_,none⟩) q1.out _).trans (hHeld.2.2.2))))⟩ (fun hHeld=>?_);clear hK K;refine pure_ (i:=6) (N:=some 5) (v:=?_) (a':=?_) #[true,true,true,true,true,true,true] rfl rfl (by kernel_rfl) (fun _ _ _ h=>h) (Or.inl ⟨by rfl,?_⟩) ?_ ?_;rotate_left
    ·intro w'
     go_simp
     with_reducible rfl
    rotate_left
    ·simp only[Act.put,List.setIfInBounds_toArray,List.set_cons_zero,List.set_cons_succ,i64_w,i32_w]
     rfl
    refine done_ (by kernel_rfl) ?_
    try go_wp2
    refine bodyPost_ret (results_ct rfl _ _ e1 27 #[.slice U6 J0.length V6,.slice g7 K0.length j7] (0,0) _ rfl (kP l1) Tryz.underlying27 rfl (by kernel_rfl)) rfl ?_;exact⟨_,_,er,kFR V1 l1 (fun _ hk=>trivial),Kd.Q_of_R ((Kd.S_R (kFS W1 l1 (fun _ hk=>hk.1)))),bl⟩
   ·replace H:=qq H;obtain⟨p8,q8,H⟩|⟨r8,p8,q8,H⟩:=H
    ·replace H:=qb H;obtain⟨s8,t8,H⟩:=H;replace H:=qb H;obtain⟨v8,w8,H⟩:=H;simp only[Option.some.injEq,Prod.mk.injEq]at H;obtain⟨rfl,rfl,rfl⟩:=H
     go_enter Tryz.func9,Tryz.ntmps9
     try go_wp2_with(first|(refine bx 2 #[.slice a0 c0.length b0,.slice d0 g0.length e0] 27 ?_;intro Y0 hg x8 hbox hb;have b1:=qa (hbox);have c1:=gw hg;have d1:=gw hg;replace HB:=bs hb;clear hb hbox hg)|(refine bx 4 #[.slice none 0 0,.slice none 0 0] 27 ?_;intro e1 hg y8 hbox hb;have l1:=qa (hbox);have n1:=gw hg;have p1:=gw hg;replace HB:=bs hb;have q1:=qnl hg b1;have r1:=qng hg b1;replace b1:=qbb b1 hb;clear hb hbox hg;have A8:=q1.out;have B8:=r1.out;obtain⟨C8,D8,E8,G8⟩:=qk2 b1)|(refine gb 15 Tryz.func20 (spec_DeskOk.calls k _ _ c0 _ _ g0 true _ (cx (Kd.C_below A0.out HB.out)) B0.out (cx (Kd.C_below C0.out HB.out)) D0.out G0.out) fun J8 hb=>?_;replace b1:=qbb b1 hb;replace l1:=qbb l1 hb;replace HB:=bs hb;obtain⟨K8,L8,M8,N8⟩:=qk2 b1)|(refine gol (some 19) Tryz.func40 #[.agg #[.slice a0 c0.length b0,.slice d0 g0.length e0]] ?_;(with_reducible refine(spec_l12Copy.calls k _ _ c0 _ _ g0 J0 K0 _ ?J1 ?K1 ?L1 ?M1 L0.out).mono ?_);(case J1=>exact cx (Kd.C_below A0.out HB.out));(case K1=>exact B0.out);(case L1=>exact cx (Kd.C_below C0.out HB.out));(case M1=>exact D0.out);rintro e P8 ⟨P1,Q1,rfl,R1,U1,hb⟩;refine⟨_,rfl,?_⟩;have V1:=qa (Kd.R_lower R1 (below_size (bl)));have W1:=qa (Kd.S_lower U1 (below_size (bl)));replace b1:=qbb b1 hb;replace l1:=qbb l1 hb;replace HB:=bs hb)|(refine bx 6 #[.slice none 0 0,.slice none 0 0] 27 ?_;intro X1 hg Q8 hbox hb;replace V1:=qa (Kd.R_below (kR V1) hb);replace W1:=qa (Kd.S_below (kS W1) hb);have a2:=qa (hbox);have b2:=gw hg;have c2:=gw hg;replace HB:=bs hb;have d2:=qnl hg b1;have e2:=qng hg b1;replace b1:=qbb b1 hb;have g2:=qnl hg l1;have j2:=qng hg l1;replace l1:=qbb l1 hb;clear hb hbox hg;obtain⟨R8,U8,rfl⟩:=Kd.R_slice V1.out;have V8:=e2.out;have W8:=d2.out;have X8:=j2.out;have Y8:=g2.out;obtain⟨a9,b9,c9,d9⟩:=qk2 a2;obtain⟨e9,g9,rfl⟩:=Kd.S_slice W1.out)|(refine gb 22 Tryz.func41 (spec_ReadDeed.calls k j0 M0 N0 P0 false _ R0.out) fun j9 hb=>?_;replace V1:=qa (Kd.R_below (kFR V1 a2 (fun _ h_=>h_.1)) hb);replace W1:=qa (Kd.S_below (kFS W1 a2 (fun _ h_=>h_.1)) hb);replace b1:=qbb b1 hb;replace l1:=qbb l1 hb;replace a2:=qa (blk_below (g:=X1) (o:= .cells #[.slice R8 J0.length U8,.slice e9 K0.length g9] 27 (0,0)) (kP a2) hb);replace HB:=bs hb)|(refine bx 7 #[.int .i64 0,.int .i64 0,.int .i64 0] 55 ?_;intro D2 hg l9 hbox hb;replace V1:=qa (Kd.R_below (kR V1) hb);replace W1:=qa (Kd.S_below (kS W1) hb);have G2:=qa (hbox);have J2:=gw hg;have K2:=gw hg;replace HB:=bs hb;have L2:=qnl hg b1;have M2:=qng hg b1;replace b1:=qbb b1 hb;have N2:=qnl hg l1;have P2:=qng hg l1;replace l1:=qbb l1 hb;have Q2:=qnl hg a2;have R2:=qng hg a2;replace a2:=qbb a2 hb;clear hb hbox hg;have n9:=M2.out;have p9:=L2.out;have q9:=P2.out;have r9:=N2.out;have s9:=R2.out;have t9:=Q2.out;obtain⟨v9,w9,x9,y9,A9,B9⟩:=qk3 G2))
     have n0_:Aside0 (Kd.R (Kd.int .i64) 3 (((l9.setCell ⟨D2,0,none⟩ (.int .i64 M0)).setCell ⟨D2,1,none⟩ (.int .i64 N0)).setCell ⟨D2,2,none⟩ (.int .i64 P0)) w.heap.size (fun _=>True) (.slice R8 J0.length U8) J0):=⟨kFR V1 G2 (fun _ hk=>trivial)⟩;have n1_:Aside0 (Kd.S (Kd.slice 3 (Kd.int .i64)) 22 (((l9.setCell ⟨D2,0,none⟩ (.int .i64 M0)).setCell ⟨D2,1,none⟩ (.int .i64 N0)).setCell ⟨D2,2,none⟩ (.int .i64 P0)) w.heap.size (fun k_=>some k_≠(.slice R8 J0.length U8:Value).ownBlock) (.slice e9 K0.length g9) K0):=⟨kFS W1 G2 (fun _ hk=>hk.1)⟩;have n2_:Aside0 ((((l9.setCell ⟨D2,0,none⟩ (.int .i64 M0)).setCell ⟨D2,1,none⟩ (.int .i64 N0)).setCell ⟨D2,2,none⟩ (.int .i64 P0)).heap[Y0]? =some (.cells #[.slice a0 c0.length b0,.slice d0 g0.length e0] 27 (0,0))):=⟨kb b1⟩;have n3_:Aside0 ((((l9.setCell ⟨D2,0,none⟩ (.int .i64 M0)).setCell ⟨D2,1,none⟩ (.int .i64 N0)).setCell ⟨D2,2,none⟩ (.int .i64 P0)).heap[e1]? =some (.cells #[.slice none 0 0,.slice none 0 0] 27 (0,0))):=⟨kb l1⟩;have n4_:Aside0 ((((l9.setCell ⟨D2,0,none⟩ (.int .i64 M0)).setCell ⟨D2,1,none⟩ (.int .i64 N0)).setCell ⟨D2,2,none⟩ (.int .i64 P0)).heap[X1]? =some (.cells #[.slice R8 J0.length U8,.slice e9 K0.length g9] 27 (0,0))):=⟨kb a2⟩;have n5_:Aside0 ((((l9.setCell ⟨D2,0,none⟩ (.int .i64 M0)).setCell ⟨D2,1,none⟩ (.int .i64 N0)).setCell ⟨D2,2,none⟩ (.int .i64 P0)).heap[D2]? =some (.cells #[.int .i64 M0,.int .i64 N0,.int .i64 P0] 55 (0,0))):=⟨kP G2⟩;have n6_:Aside0 (Below w.heap.size w (((l9.setCell ⟨D2,0,none⟩ (.int .i64 M0)).setCell ⟨D2,1,none⟩ (.int .i64 N0)).setCell ⟨D2,2,none⟩ (.int .i64 P0))):=⟨bl⟩;(try clear V1);(try clear W1);(try clear b1);(try clear l1);(try clear a2);(try clear G2);(try clear HB);generalize (((l9.setCell ⟨D2,0,none⟩ (.int .i64 M0)).setCell ⟨D2,1,none⟩ (.int .i64 N0)).setCell ⟨D2,2,none⟩ (.int .i64 P0))=C9 at n0_ n1_ n2_ n3_ n4_ n5_ n6_ ⊢;have V1:=n0_;have W1:=n1_;have b1:=n2_;have l1:=n3_;have a2:=n4_;have G2:=n5_;have HB:=n6_;clear n0_ n1_ n2_ n3_ n4_ n5_ n6_;replace V1:=qa (Kd.R_drew V1.out);replace W1:=qa (Kd.S_drew W1.out);replace b1:=qa (blk_drew b1.out);replace l1:=qa (blk_drew l1.out);replace a2:=qa (blk_drew a2.out);replace G2:=qa (blk_drew G2.out);replace HB:=qa (below_drew1 HB.out);refine start_ (n:=7) (S:=fun w'=>w'.cell? ⟨X1,0,none⟩=some (.slice R8 J0.length U8)∧w'.cell? ⟨X1,1,none⟩=some (.slice e9 K0.length g9)∧w'.cell? ⟨Y0,0,none⟩=some (.slice a0 c0.length b0)∧w'.cell? ⟨Y0,1,none⟩=some (.slice d0 g0.length e0)) (ds:=[]) #[false,false,false,false,false,false,false] (by kernel_rfl) rfl rfl ⟨(blk_cell a2.out 0).trans rfl,(blk_cell a2.out 1).trans rfl,(blk_cell b1.out 0).trans rfl,(blk_cell b1.out 1).trans rfl⟩ (fun hHeld=>?_);generalize C9.drew=D9 at V1 W1 b1 l1 a2 G2 HB hHeld ⊢;refine pure_ (i:=1) (N:=some 47) (v:=?_) (a':=?_) #[false,true,false,false,false,false,false] rfl rfl (by kernel_rfl) (fun _ _ _ h=>h) (Or.inl ⟨by rfl,?_⟩) ?_ ?_;rotate_left
     ·intro w'
      go_simp
      with_reducible rfl
     rotate_left
     ·simp only[Act.put,List.setIfInBounds_toArray,List.set_cons_zero,List.set_cons_succ,i64_w,i32_w]
      rfl
     refine take_ (i:=0) (N:=some 46) (v:=?_) (a':=?_) #[true,true,false,false,false,false,false] rfl rfl (by kernel_rfl) (fun _ _ _ h=>h) (Or.inl ⟨by rfl,?_⟩) hHeld ?_ ?_;rotate_left
     ·rintro w' ⟨s0,s1,s2,s3⟩
      go_simp
      with_reducible rfl
     rotate_left
     ·simp only[Act.put,List.setIfInBounds_toArray,List.set_cons_zero,List.set_cons_succ,i64_w,i32_w]
      rfl
     refine take_ (i:=2) (N:=some 48) (v:=?_) (a':=?_) #[true,true,true,false,false,false,false] rfl rfl (by kernel_rfl) (fun _ _ _ h=>h) (Or.inl ⟨by rfl,?_⟩) hHeld ?_ ?_;rotate_left
     ·rintro w' ⟨s0,s1,s2,s3⟩
      go_simp
      with_reducible rfl
     rotate_left
     ·simp only[Act.put,List.setIfInBounds_toArray,List.set_cons_zero,List.set_cons_succ,i64_w,i32_w]
      rfl
     refine one_ (i:=3) (N:=some 49) #[true,true,true,true,false,false,false] rfl rfl (by kernel_rfl) (by decide) (fun K hK=>?_);refine goes_ Tryz.func45 (by kernel_rfl) rfl #[.slice a0 c0.length b0] (by rfl) rfl rfl am ?_
     with_reducible refine(spec_MultiplicativeOk.calls k _ _ c0 s8 _ ?J1 ?K1 t8.out).mono ?_
     (case J1=>exact cx (Kd.C_below A0.out HB.out));(case K1=>exact B0.out);rintro e w' ⟨rfl,⟨nd,rfl⟩⟩;refine⟨_,rfl,?_⟩;refine hK.out _ _ ⟨(blk_cell a2.out 0).trans rfl,(blk_cell a2.out 1).trans rfl,(blk_cell b1.out 0).trans rfl,(blk_cell b1.out 1).trans rfl⟩ (fun hHeld=>?_);clear hK K;refine norm_ (a':=?_) ?_ ?_;rotate_left
     ·show Act.put _ (some 49) _=_;simp only[Act.put,List.setIfInBounds_toArray,List.set_cons_zero,List.set_cons_succ,i64_w,i32_w]
      rfl
     refine one_ (i:=4) (N:=some 50) #[true,true,true,true,true,false,false] rfl rfl (by kernel_rfl) (by decide) (fun K hK=>?_);refine goes_ Tryz.func44 (by kernel_rfl) rfl #[.bool s8] (by rfl) rfl rfl am ?_
     with_reducible refine(spec_l12Yes.calls s8 v8 _ w8.out).mono ?_
     rintro e w' ⟨rfl,⟨nd,rfl⟩⟩;refine⟨_,rfl,?_⟩;refine hK.out _ _ ⟨(blk_cell a2.out 0).trans rfl,(blk_cell a2.out 1).trans rfl,(blk_cell b1.out 0).trans rfl,(blk_cell b1.out 1).trans rfl⟩ (fun hHeld=>?_);clear hK K;refine norm_ (a':=?_) ?_ ?_;rotate_left
     ·show Act.put _ (some 50) _=_;simp only[Act.put,List.setIfInBounds_toArray,List.set_cons_zero,List.set_cons_succ,i64_w,i32_w]
      rfl
     refine one_ (i:=5) (N:=none) #[true,true,true,true,true,true,false] rfl rfl (by kernel_rfl) (by decide) (fun K hK=>?_);have E9:D9.cell? ⟨e1,0,none⟩=some (.slice none 0 0):=(blk_cell l1.out 0).trans rfl;have G9:=blk_frozen l1.out 0;have J9:=q1.out;have K9:=j2.out;have L9:=P2.out;have M9:=r1.out;have N9:=g2.out;have P9:=N2.out;have Q9:D9.cell? ⟨e1,1,none⟩=some (.slice none 0 0):=(blk_cell l1.out 1).trans rfl;have R9:=blk_frozen l1.out 1;have U9:=q1.out;have V9:=j2.out;have W9:=P2.out;have X9:=r1.out;have Y9:=g2.out;have a10:=N2.out;refine skip_ (w1:=?_) (by rfl) rfl ?_ ?_;rotate_left
     ·go_simp
      rfl
     refine hK.out _ _ ⟨((cell_far (p:=⟨e1,_,none⟩) j2.out _).trans (((cell_far (p:=⟨e1,_,none⟩) j2.out _).trans (hHeld.1)))),((cell_far (p:=⟨e1,_,none⟩) j2.out _).trans (((cell_far (p:=⟨e1,_,none⟩) j2.out _).trans (hHeld.2.1)))),((cell_far (p:=⟨e1,_,none⟩) q1.out _).trans (((cell_far (p:=⟨e1,_,none⟩) q1.out _).trans (hHeld.2.2.1)))),((cell_far (p:=⟨e1,_,none⟩) q1.out _).trans (((cell_far (p:=⟨e1,_,none⟩) q1.out _).trans (hHeld.2.2.2))))⟩ (fun hHeld=>?_);clear hK K;refine pure_ (i:=6) (N:=some 5) (v:=?_) (a':=?_) #[true,true,true,true,true,true,true] rfl rfl (by kernel_rfl) (fun _ _ _ h=>h) (Or.inl ⟨by rfl,?_⟩) ?_ ?_;rotate_left
     ·intro w'
      go_simp
      with_reducible rfl
     rotate_left
     ·simp only[Act.put,List.setIfInBounds_toArray,List.set_cons_zero,List.set_cons_succ,i64_w,i32_w]
      rfl
     refine done_ (by kernel_rfl) ?_
     try go_wp2
     refine bodyPost_ret (results_ct rfl _ _ e1 27 #[.slice R8 J0.length U8,.slice e9 K0.length g9] (0,0) _ rfl (kP l1) Tryz.underlying27 rfl (by kernel_rfl)) rfl ?_;exact⟨_,_,er,kFR V1 l1 (fun _ hk=>trivial),Kd.Q_of_R ((Kd.S_R (kFS W1 l1 (fun _ hk=>hk.1)))),bl⟩
    ·replace H:=qq H;obtain⟨b10,c10,H⟩|⟨d10,b10,c10,H⟩:=H
     ·replace H:=qb H;obtain⟨e10,g10,H⟩:=H;replace H:=qb H;obtain⟨j10,l10,H⟩:=H;simp only[Option.some.injEq,Prod.mk.injEq]at H;obtain⟨rfl,rfl,rfl⟩:=H
      go_enter Tryz.func9,Tryz.ntmps9
      try go_wp2_with(first|(refine bx 2 #[.slice a0 c0.length b0,.slice d0 g0.length e0] 27 ?_;intro Y0 hg n10 hbox hb;have b1:=qa (hbox);have c1:=gw hg;have d1:=gw hg;replace HB:=bs hb;clear hb hbox hg)|(refine bx 4 #[.slice none 0 0,.slice none 0 0] 27 ?_;intro e1 hg p10 hbox hb;have l1:=qa (hbox);have n1:=gw hg;have p1:=gw hg;replace HB:=bs hb;have q1:=qnl hg b1;have r1:=qng hg b1;replace b1:=qbb b1 hb;clear hb hbox hg;have q10:=q1.out;have r10:=r1.out;obtain⟨s10,t10,v10,w10⟩:=qk2 b1)|(refine gb 15 Tryz.func20 (spec_DeskOk.calls k _ _ c0 _ _ g0 true _ (cx (Kd.C_below A0.out HB.out)) B0.out (cx (Kd.C_below C0.out HB.out)) D0.out G0.out) fun x10 hb=>?_;replace b1:=qbb b1 hb;replace l1:=qbb l1 hb;replace HB:=bs hb;obtain⟨y10,A10,B10,C10⟩:=qk2 b1)|(refine gol (some 19) Tryz.func40 #[.agg #[.slice a0 c0.length b0,.slice d0 g0.length e0]] ?_;(with_reducible refine(spec_l12Copy.calls k _ _ c0 _ _ g0 J0 K0 _ ?J1 ?K1 ?L1 ?M1 L0.out).mono ?_);(case J1=>exact cx (Kd.C_below A0.out HB.out));(case K1=>exact B0.out);(case L1=>exact cx (Kd.C_below C0.out HB.out));(case M1=>exact D0.out);rintro e D10 ⟨P1,Q1,rfl,R1,U1,hb⟩;refine⟨_,rfl,?_⟩;have V1:=qa (Kd.R_lower R1 (below_size (bl)));have W1:=qa (Kd.S_lower U1 (below_size (bl)));replace b1:=qbb b1 hb;replace l1:=qbb l1 hb;replace HB:=bs hb)|(refine bx 6 #[.slice none 0 0,.slice none 0 0] 27 ?_;intro X1 hg E10 hbox hb;replace V1:=qa (Kd.R_below (kR V1) hb);replace W1:=qa (Kd.S_below (kS W1) hb);have a2:=qa (hbox);have b2:=gw hg;have c2:=gw hg;replace HB:=bs hb;have d2:=qnl hg b1;have e2:=qng hg b1;replace b1:=qbb b1 hb;have g2:=qnl hg l1;have j2:=qng hg l1;replace l1:=qbb l1 hb;clear hb hbox hg;obtain⟨G10,J10,rfl⟩:=Kd.R_slice V1.out;have K10:=e2.out;have L10:=d2.out;have M10:=j2.out;have N10:=g2.out;obtain⟨P10,Q10,R10,U10⟩:=qk2 a2;obtain⟨V10,W10,rfl⟩:=Kd.S_slice W1.out)|(refine gb 22 Tryz.func41 (spec_ReadDeed.calls k j0 M0 N0 P0 false _ R0.out) fun X10 hb=>?_;replace V1:=qa (Kd.R_below (kFR V1 a2 (fun _ h_=>h_.1)) hb);replace W1:=qa (Kd.S_below (kFS W1 a2 (fun _ h_=>h_.1)) hb);replace b1:=qbb b1 hb;replace l1:=qbb l1 hb;replace a2:=qa (blk_below (g:=X1) (o:= .cells #[.slice G10 J0.length J10,.slice V10 K0.length W10] 27 (0,0)) (kP a2) hb);replace HB:=bs hb)|(refine bx 7 #[.int .i64 0,.int .i64 0,.int .i64 0] 55 ?_;intro D2 hg Y10 hbox hb;replace V1:=qa (Kd.R_below (kR V1) hb);replace W1:=qa (Kd.S_below (kS W1) hb);have G2:=qa (hbox);have J2:=gw hg;have K2:=gw hg;replace HB:=bs hb;have L2:=qnl hg b1;have M2:=qng hg b1;replace b1:=qbb b1 hb;have N2:=qnl hg l1;have P2:=qng hg l1;replace l1:=qbb l1 hb;have Q2:=qnl hg a2;have R2:=qng hg a2;replace a2:=qbb a2 hb;clear hb hbox hg;have a11:=M2.out;have b11:=L2.out;have c11:=P2.out;have d11:=N2.out;have e11:=R2.out;have g11:=Q2.out;obtain⟨j11,l11,n11,p11,q11,r11⟩:=qk3 G2))
      have n0_:Aside0 (Kd.R (Kd.int .i64) 3 (((Y10.setCell ⟨D2,0,none⟩ (.int .i64 M0)).setCell ⟨D2,1,none⟩ (.int .i64 N0)).setCell ⟨D2,2,none⟩ (.int .i64 P0)) w.heap.size (fun _=>True) (.slice G10 J0.length J10) J0):=⟨kFR V1 G2 (fun _ hk=>trivial)⟩;have n1_:Aside0 (Kd.S (Kd.slice 3 (Kd.int .i64)) 22 (((Y10.setCell ⟨D2,0,none⟩ (.int .i64 M0)).setCell ⟨D2,1,none⟩ (.int .i64 N0)).setCell ⟨D2,2,none⟩ (.int .i64 P0)) w.heap.size (fun k_=>some k_≠(.slice G10 J0.length J10:Value).ownBlock) (.slice V10 K0.length W10) K0):=⟨kFS W1 G2 (fun _ hk=>hk.1)⟩;have n2_:Aside0 ((((Y10.setCell ⟨D2,0,none⟩ (.int .i64 M0)).setCell ⟨D2,1,none⟩ (.int .i64 N0)).setCell ⟨D2,2,none⟩ (.int .i64 P0)).heap[Y0]? =some (.cells #[.slice a0 c0.length b0,.slice d0 g0.length e0] 27 (0,0))):=⟨kb b1⟩;have n3_:Aside0 ((((Y10.setCell ⟨D2,0,none⟩ (.int .i64 M0)).setCell ⟨D2,1,none⟩ (.int .i64 N0)).setCell ⟨D2,2,none⟩ (.int .i64 P0)).heap[e1]? =some (.cells #[.slice none 0 0,.slice none 0 0] 27 (0,0))):=⟨kb l1⟩;have n4_:Aside0 ((((Y10.setCell ⟨D2,0,none⟩ (.int .i64 M0)).setCell ⟨D2,1,none⟩ (.int .i64 N0)).setCell ⟨D2,2,none⟩ (.int .i64 P0)).heap[X1]? =some (.cells #[.slice G10 J0.length J10,.slice V10 K0.length W10] 27 (0,0))):=⟨kb a2⟩;have n5_:Aside0 ((((Y10.setCell ⟨D2,0,none⟩ (.int .i64 M0)).setCell ⟨D2,1,none⟩ (.int .i64 N0)).setCell ⟨D2,2,none⟩ (.int .i64 P0)).heap[D2]? =some (.cells #[.int .i64 M0,.int .i64 N0,.int .i64 P0] 55 (0,0))):=⟨kP G2⟩;have n6_:Aside0 (Below w.heap.size w (((Y10.setCell ⟨D2,0,none⟩ (.int .i64 M0)).setCell ⟨D2,1,none⟩ (.int .i64 N0)).setCell ⟨D2,2,none⟩ (.int .i64 P0))):=⟨bl⟩;(try clear V1);(try clear W1);(try clear b1);(try clear l1);(try clear a2);(try clear G2);(try clear HB);generalize (((Y10.setCell ⟨D2,0,none⟩ (.int .i64 M0)).setCell ⟨D2,1,none⟩ (.int .i64 N0)).setCell ⟨D2,2,none⟩ (.int .i64 P0))=s11 at n0_ n1_ n2_ n3_ n4_ n5_ n6_ ⊢;have V1:=n0_;have W1:=n1_;have b1:=n2_;have l1:=n3_;have a2:=n4_;have G2:=n5_;have HB:=n6_;clear n0_ n1_ n2_ n3_ n4_ n5_ n6_;replace V1:=qa (Kd.R_drew V1.out);replace W1:=qa (Kd.S_drew W1.out);replace b1:=qa (blk_drew b1.out);replace l1:=qa (blk_drew l1.out);replace a2:=qa (blk_drew a2.out);replace G2:=qa (blk_drew G2.out);replace HB:=qa (below_drew1 HB.out);refine start_ (n:=7) (S:=fun w'=>w'.cell? ⟨X1,0,none⟩=some (.slice G10 J0.length J10)∧w'.cell? ⟨X1,1,none⟩=some (.slice V10 K0.length W10)∧w'.cell? ⟨Y0,0,none⟩=some (.slice a0 c0.length b0)∧w'.cell? ⟨Y0,1,none⟩=some (.slice d0 g0.length e0)) (ds:=[]) #[false,false,false,false,false,false,false] (by kernel_rfl) rfl rfl ⟨(blk_cell a2.out 0).trans rfl,(blk_cell a2.out 1).trans rfl,(blk_cell b1.out 0).trans rfl,(blk_cell b1.out 1).trans rfl⟩ (fun hHeld=>?_);generalize s11.drew=t11 at V1 W1 b1 l1 a2 G2 HB hHeld ⊢;refine pure_ (i:=1) (N:=some 54) (v:=?_) (a':=?_) #[false,true,false,false,false,false,false] rfl rfl (by kernel_rfl) (fun _ _ _ h=>h) (Or.inl ⟨by rfl,?_⟩) ?_ ?_;rotate_left
      ·intro w'
       go_simp
       with_reducible rfl
      rotate_left
      ·simp only[Act.put,List.setIfInBounds_toArray,List.set_cons_zero,List.set_cons_succ,i64_w,i32_w]
       rfl
      refine take_ (i:=0) (N:=some 53) (v:=?_) (a':=?_) #[true,true,false,false,false,false,false] rfl rfl (by kernel_rfl) (fun _ _ _ h=>h) (Or.inl ⟨by rfl,?_⟩) hHeld ?_ ?_;rotate_left
      ·rintro w' ⟨s0,s1,s2,s3⟩
       go_simp
       with_reducible rfl
      rotate_left
      ·simp only[Act.put,List.setIfInBounds_toArray,List.set_cons_zero,List.set_cons_succ,i64_w,i32_w]
       rfl
      refine take_ (i:=2) (N:=some 55) (v:=?_) (a':=?_) #[true,true,true,false,false,false,false] rfl rfl (by kernel_rfl) (fun _ _ _ h=>h) (Or.inl ⟨by rfl,?_⟩) hHeld ?_ ?_;rotate_left
      ·rintro w' ⟨s0,s1,s2,s3⟩
       go_simp
       with_reducible rfl
      rotate_left
      ·simp only[Act.put,List.setIfInBounds_toArray,List.set_cons_zero,List.set_cons_succ,i64_w,i32_w]
       rfl
      refine one_ (i:=3) (N:=some 56) #[true,true,true,true,false,false,false] rfl rfl (by kernel_rfl) (by decide) (fun K hK=>?_);refine goes_ Tryz.func46 (by kernel_rfl) rfl #[.slice a0 c0.length b0] (by rfl) rfl rfl am ?_
      with_reducible refine(spec_FullyOk.calls k _ _ c0 e10 _ ?J1 ?K1 g10.out).mono ?_
      (case J1=>exact cx (Kd.C_below A0.out HB.out));(case K1=>exact B0.out);rintro e w' ⟨rfl,⟨nd,rfl⟩⟩;refine⟨_,rfl,?_⟩;refine hK.out _ _ ⟨(blk_cell a2.out 0).trans rfl,(blk_cell a2.out 1).trans rfl,(blk_cell b1.out 0).trans rfl,(blk_cell b1.out 1).trans rfl⟩ (fun hHeld=>?_);clear hK K;refine norm_ (a':=?_) ?_ ?_;rotate_left
      ·show Act.put _ (some 56) _=_;simp only[Act.put,List.setIfInBounds_toArray,List.set_cons_zero,List.set_cons_succ,i64_w,i32_w]
       rfl
      refine one_ (i:=4) (N:=some 57) #[true,true,true,true,true,false,false] rfl rfl (by kernel_rfl) (by decide) (fun K hK=>?_);refine goes_ Tryz.func44 (by kernel_rfl) rfl #[.bool e10] (by rfl) rfl rfl am ?_
      with_reducible refine(spec_l12Yes.calls e10 j10 _ l10.out).mono ?_
      rintro e w' ⟨rfl,⟨nd,rfl⟩⟩;refine⟨_,rfl,?_⟩;refine hK.out _ _ ⟨(blk_cell a2.out 0).trans rfl,(blk_cell a2.out 1).trans rfl,(blk_cell b1.out 0).trans rfl,(blk_cell b1.out 1).trans rfl⟩ (fun hHeld=>?_);clear hK K;refine norm_ (a':=?_) ?_ ?_;rotate_left
      ·show Act.put _ (some 57) _=_;simp only[Act.put,List.setIfInBounds_toArray,List.set_cons_zero,List.set_cons_succ,i64_w,i32_w]
       rfl
      refine one_ (i:=5) (N:=none) #[true,true,true,true,true,true,false] rfl rfl (by kernel_rfl) (by decide) (fun K hK=>?_);have v11:t11.cell? ⟨e1,0,none⟩=some (.slice none 0 0):=(blk_cell l1.out 0).trans rfl;have w11:=blk_frozen l1.out 0;have x11:=q1.out;have y11:=j2.out;have A11:=P2.out;have B11:=r1.out;have C11:=g2.out;have D11:=N2.out;have E11:t11.cell? ⟨e1,1,none⟩=some (.slice none 0 0):=(blk_cell l1.out 1).trans rfl;have G11:=blk_frozen l1.out 1;have J11:=q1.out;have K11:=j2.out;have L11:=P2.out;have M11:=r1.out;have N11:=g2.out;have P11:=N2.out;refine skip_ (w1:=?_) (by rfl) rfl ?_ ?_;rotate_left
      ·go_simp
       rfl
      refine hK.out _ _ ⟨((cell_far (p:=⟨e1,_,none⟩) j2.out _).trans (((cell_far (p:=⟨e1,_,none⟩) j2.out _).trans (hHeld.1)))),((cell_far (p:=⟨e1,_,none⟩) j2.out _).trans (((cell_far (p:=⟨e1,_,none⟩) j2.out _).trans (hHeld.2.1)))),((cell_far (p:=⟨e1,_,none⟩) q1.out _).trans (((cell_far (p:=⟨e1,_,none⟩) q1.out _).trans (hHeld.2.2.1)))),((cell_far (p:=⟨e1,_,none⟩) q1.out _).trans (((cell_far (p:=⟨e1,_,none⟩) q1.out _).trans (hHeld.2.2.2))))⟩ (fun hHeld=>?_);clear hK K;refine pure_ (i:=6) (N:=some 5) (v:=?_) (a':=?_) #[true,true,true,true,true,true,true] rfl rfl (by kernel_rfl) (fun _ _ _ h=>h) (Or.inl ⟨by rfl,?_⟩) ?_ ?_;rotate_left
      ·intro w'
       go_simp
       with_reducible rfl
      rotate_left
      ·simp only[Act.put,List.setIfInBounds_toArray,List.set_cons_zero,List.set_cons_succ,i64_w,i32_w]
       rfl
      refine done_ (by kernel_rfl) ?_
      try go_wp2
      refine bodyPost_ret (results_ct rfl _ _ e1 27 #[.slice G10 J0.length J10,.slice V10 K0.length W10] (0,0) _ rfl (kP l1) Tryz.underlying27 rfl (by kernel_rfl)) rfl ?_;exact⟨_,_,er,kFR V1 l1 (fun _ hk=>trivial),Kd.Q_of_R ((Kd.S_R (kFS W1 l1 (fun _ hk=>hk.1)))),bl⟩
     ·replace H:=qb H;obtain⟨Q11,R11,H⟩:=H;replace H:=qs H;obtain⟨U11,V11,H⟩:=H;have H':=qa H;clear H
      go_enter Tryz.func9,Tryz.ntmps9
      go_wp2_with(first|(refine bx 2 #[.slice a0 c0.length b0,.slice d0 g0.length e0] 27 ?_;intro Y0 hg W11 hbox hb;have b1:=qa (hbox);have c1:=gw hg;have d1:=gw hg;replace HB:=bs hb;clear hb hbox hg)|(refine bx 4 #[.slice none 0 0,.slice none 0 0] 27 ?_;intro e1 hg X11 hbox hb;have l1:=qa (hbox);have n1:=gw hg;have p1:=gw hg;replace HB:=bs hb;have q1:=qnl hg b1;have r1:=qng hg b1;replace b1:=qbb b1 hb;clear hb hbox hg;have Y11:=q1.out;have a12:=r1.out;obtain⟨b12,c12,d12,e12⟩:=qk2 b1)|(refine gb 15 Tryz.func20 (spec_DeskOk.calls k _ _ c0 _ _ g0 true _ (cx (Kd.C_below A0.out HB.out)) B0.out (cx (Kd.C_below C0.out HB.out)) D0.out G0.out) fun g12 hb=>?_;replace b1:=qbb b1 hb;replace l1:=qbb l1 hb;replace HB:=bs hb;obtain⟨j12,l12,n12,p12⟩:=qk2 b1)|(refine gol (some 19) Tryz.func40 #[.agg #[.slice a0 c0.length b0,.slice d0 g0.length e0]] ?_;(with_reducible refine(spec_l12Copy.calls k _ _ c0 _ _ g0 J0 K0 _ ?J1 ?K1 ?L1 ?M1 L0.out).mono ?_);(case J1=>exact cx (Kd.C_below A0.out HB.out));(case K1=>exact B0.out);(case L1=>exact cx (Kd.C_below C0.out HB.out));(case M1=>exact D0.out);rintro e q12 ⟨P1,Q1,rfl,R1,U1,hb⟩;refine⟨_,rfl,?_⟩;have V1:=qa (Kd.R_lower R1 (below_size (bl)));have W1:=qa (Kd.S_lower U1 (below_size (bl)));replace b1:=qbb b1 hb;replace l1:=qbb l1 hb;replace HB:=bs hb)|(refine bx 6 #[.slice none 0 0,.slice none 0 0] 27 ?_;intro X1 hg r12 hbox hb;replace V1:=qa (Kd.R_below (kR V1) hb);replace W1:=qa (Kd.S_below (kS W1) hb);have a2:=qa (hbox);have b2:=gw hg;have c2:=gw hg;replace HB:=bs hb;have d2:=qnl hg b1;have e2:=qng hg b1;replace b1:=qbb b1 hb;have g2:=qnl hg l1;have j2:=qng hg l1;replace l1:=qbb l1 hb;clear hb hbox hg;obtain⟨s12,t12,rfl⟩:=Kd.R_slice V1.out;have v12:=e2.out;have w12:=d2.out;have x12:=j2.out;have y12:=g2.out;obtain⟨A12,B12,C12,D12⟩:=qk2 a2;obtain⟨E12,G12,rfl⟩:=Kd.S_slice W1.out)|(refine gb 22 Tryz.func41 (spec_ReadDeed.calls k j0 M0 N0 P0 false _ R0.out) fun J12 hb=>?_;replace V1:=qa (Kd.R_below (kFR V1 a2 (fun _ h_=>h_.1)) hb);replace W1:=qa (Kd.S_below (kFS W1 a2 (fun _ h_=>h_.1)) hb);replace b1:=qbb b1 hb;replace l1:=qbb l1 hb;replace a2:=qa (blk_below (g:=X1) (o:= .cells #[.slice s12 J0.length t12,.slice E12 K0.length G12] 27 (0,0)) (kP a2) hb);replace HB:=bs hb)|(refine bx 7 #[.int .i64 0,.int .i64 0,.int .i64 0] 55 ?_;intro D2 hg K12 hbox hb;replace V1:=qa (Kd.R_below (kR V1) hb);replace W1:=qa (Kd.S_below (kS W1) hb);have G2:=qa (hbox);have J2:=gw hg;have K2:=gw hg;replace HB:=bs hb;have L2:=qnl hg b1;have M2:=qng hg b1;replace b1:=qbb b1 hb;have N2:=qnl hg l1;have P2:=qng hg l1;replace l1:=qbb l1 hb;have Q2:=qnl hg a2;have R2:=qng hg a2;replace a2:=qbb a2 hb;clear hb hbox hg;have L12:=M2.out;have M12:=L2.out;have N12:=P2.out;have P12:=N2.out;have Q12:=R2.out;have R12:=Q2.out;obtain⟨U12,V12,W12,X12,Y12,a13⟩:=qk3 G2)|(refine ge_ 59 Tryz.func47 (spec_l1Cut.calls k j0 32 Q11 _ R11.out) fun b13 c13 R1 hb=>?_;replace V1:=qa (Kd.R_below (kFR V1 G2 (fun _ h_=>h_.1)) hb);replace W1:=qa (Kd.S_below (kFS W1 G2 (fun _ h_=>h_.1)) hb);have d13:=qa (Kd.R_lower R1 (below_size (bl)));replace b1:=qbb b1 hb;replace l1:=qbb l1 hb;replace a2:=qbb a2 hb;replace G2:=qa (blk_below (g:=D2) (o:= .cells #[.int .i64 M0,.int .i64 N0,.int .i64 P0] 55 (0,0)) (kP G2) hb);replace HB:=bs hb)|((with_reducible refine gate_dst (N:=60) rfl ?_);refine Kd.R_lit Kd.string _ 9 ?hg (N:=60) ?hd (xs:=([(⟨#[97,116]⟩:ByteArray),(⟨#[112,114,105,109,101,115]⟩:ByteArray),(⟨#[100,105,118,105,115,111,114,115]⟩:ByteArray),(⟨#[115,117,109]⟩:ByteArray),(⟨#[107,105,110,100]⟩:ByteArray),(⟨#[119,97,121]⟩:ByteArray),(⟨#[97,112,97,114,116]⟩:ByteArray),(⟨#[115,113,117,97,114,101,115]⟩:ByteArray)]:List ByteArray)) (inner:=[.string (⟨#[97,116]⟩:ByteArray),.string (⟨#[112,114,105,109,101,115]⟩:ByteArray),.string (⟨#[100,105,118,105,115,111,114,115]⟩:ByteArray),.string (⟨#[115,117,109]⟩:ByteArray),.string (⟨#[107,105,110,100]⟩:ByteArray),.string (⟨#[119,97,121]⟩:ByteArray),.string (⟨#[97,112,97,114,116]⟩:ByteArray),.string (⟨#[115,113,117,97,114,101,115]⟩:ByteArray)]) (ok:=fun _=>True) (okp:=fun _=>True) ?hr ?hp (fun _ hk=>hk) trivial (Below.refl _ _) (Nat.le_refl _) (by simp) ?_;(case hd=>rfl);(case hg=>rfl);(case hr=>exact gr);(case hp=>exact(Reps.one (show Kd.M Kd.string _ _ _ (⟨#[97,116]⟩:ByteArray) [.string (⟨#[97,116]⟩:ByteArray)]from rfl) (Reps.one (show Kd.M Kd.string _ _ _ (⟨#[112,114,105,109,101,115]⟩:ByteArray) [.string (⟨#[112,114,105,109,101,115]⟩:ByteArray)]from rfl) (Reps.one (show Kd.M Kd.string _ _ _ (⟨#[100,105,118,105,115,111,114,115]⟩:ByteArray) [.string (⟨#[100,105,118,105,115,111,114,115]⟩:ByteArray)]from rfl) (Reps.one (show Kd.M Kd.string _ _ _ (⟨#[115,117,109]⟩:ByteArray) [.string (⟨#[115,117,109]⟩:ByteArray)]from rfl) (Reps.one (show Kd.M Kd.string _ _ _ (⟨#[107,105,110,100]⟩:ByteArray) [.string (⟨#[107,105,110,100]⟩:ByteArray)]from rfl) (Reps.one (show Kd.M Kd.string _ _ _ (⟨#[119,97,121]⟩:ByteArray) [.string (⟨#[119,97,121]⟩:ByteArray)]from rfl) (Reps.one (show Kd.M Kd.string _ _ _ (⟨#[97,112,97,114,116]⟩:ByteArray) [.string (⟨#[97,112,97,114,116]⟩:ByteArray)]from rfl) (Reps.one (show Kd.M Kd.string _ _ _ (⟨#[115,113,117,97,114,101,115]⟩:ByteArray) [.string (⟨#[115,113,117,97,114,101,115]⟩:ByteArray)]from rfl) (Reps.none _ _))))))))));intro e13 g13 j13 hb hg_ hnew_;clear hg_ hnew_;(first|rw[←V11.out]at j13|(simp only[Int.reduceToNat]at j13;rw[←V11.out]at j13));replace V1:=qa (Kd.R_below (kR V1) hb);replace W1:=qa (Kd.S_below (kS W1) hb);have l13:=qa (Kd.R_lower (Kd.R_new' j13 (Kd.R_lt (kR d13))) (below_size (bl)));replace d13:=qa (Kd.R_elder' (kR d13) (Kd.R_base j13) hb);replace b1:=qbb b1 hb;replace l1:=qbb l1 hb;replace a2:=qbb a2 hb;replace G2:=qbb G2 hb;replace HB:=bs hb;clear hb j13;obtain⟨n13,p13,rfl⟩:=Kd.R_slice l13.out))
      go_loopg [62] k (fun kq q13 w'=>∃(r13:Int),q13= .int .i64 r13∧Aside0 (spec_DeskLine.l0 kq Q11 U11 (U11.length:Int) r13 c0 g0 J0 K0=some (n0,p0,q0))∧Aside0 (kq≤k)∧Aside0 (Kd.R Kd.string 9 w' w.heap.size (fun k_=>some k_≠((.slice n13 U11.length p13):Value).ownBlock) b13 Q11)∧Aside0 (Kd.R Kd.string 9 w' w.heap.size (fun k_=>some k_≠(b13:Value).ownBlock) (.slice n13 U11.length p13) U11)∧Aside0 (Kd.R (Kd.int .i64) 3 w' w.heap.size (fun _=>True) (.slice s12 J0.length t12) J0)∧Aside0 (Kd.Q (Kd.slice 3 (Kd.int .i64)) 22 w' w.heap.size (fun k_=>some k_≠((.slice s12 J0.length t12):Value).ownBlock) (.slice E12 K0.length G12) K0)∧Aside0 (w'.heap[Y0]? =some (.cells #[(.slice a0 c0.length b0),(.slice d0 g0.length e0)] 27 (0,0)))∧Aside0 (w'.heap[e1]? =some (.cells #[(.slice none 0 0),(.slice none 0 0)] 27 (0,0)))∧Aside0 (w'.heap[X1]? =some (.cells #[(.slice s12 J0.length t12),(.slice E12 K0.length G12)] 27 (0,0)))∧Aside0 (w'.heap[D2]? =some (.cells #[.int .i64 M0,.int .i64 N0,.int .i64 P0] 55 (0,0)))∧Aside0 (Below w.heap.size w w'))
      case atStart=>exact⟨(0),(sd),H',⟨Nat.le_refl _⟩,⟨by(with_reducible repeat(first|apply Kd.R_alloc|apply Kd.R_drewN|apply Kd.R_drew));exact Kd.R_mono d13.out (fun _ hk=>hk.2)⟩,⟨by(with_reducible repeat(first|apply Kd.R_alloc|apply Kd.R_drewN|apply Kd.R_drew));exact Kd.R_mono l13.out (fun _ hk=>hk.2)⟩,⟨kR V1⟩,⟨Kd.Q_of_R ((Kd.S_R (kS W1)))⟩,⟨bk⟩,⟨bk⟩,⟨bk⟩,⟨bk⟩,⟨bl⟩⟩
      case round=>
       clear H';obtain⟨r13,rfl,HA,HK1,s13,t13,v13,w13,b1,l1,a2,G2,HB⟩:=hrel;obtain⟨k1,rfl,H⟩:=kz gk HA;clear HA;simp only[spec_DeskLine.l0]at H;replace H:=qe H;obtain⟨x13,H⟩|⟨x13,H⟩:=H
       ·replace H:=qd H;obtain⟨y13,H⟩:=H;replace H:=qd H;obtain⟨A13,H⟩:=H;have B13:=qa H;clear H;obtain⟨C13,⟨⟩,D13,E13,G13⟩:=as_ (Kd.R_reads' t13.out).2.2 r13
        go_upto_region 21 with(fail)
        go_cut [82] (fun J13 wc=>∃(kq:Nat) (K13:Bool),J13= .bool K13∧Aside0 (spec_DeskLine.j1 kq Q11 (rdOf ByteArray.empty U11 r13) U11 (U11.length:Int) r13 K13 c0 g0 J0 K0=some (n0,p0,q0))∧Aside0 (kq≤k1)∧Aside0 (Kd.R Kd.string 9 wc w.heap.size (fun k_=>some k_≠((.slice (some C13) U11.length p13):Value).ownBlock) b13 Q11)∧Aside0 (Kd.R Kd.string 9 wc w.heap.size (fun k_=>some k_≠(b13:Value).ownBlock) (.slice (some C13) U11.length p13) U11)∧Aside0 (Kd.R (Kd.int .i64) 3 wc w.heap.size (fun _=>True) (.slice s12 J0.length t12) J0)∧Aside0 (Kd.Q (Kd.slice 3 (Kd.int .i64)) 22 wc w.heap.size (fun k_=>some k_≠((.slice s12 J0.length t12):Value).ownBlock) (.slice E12 K0.length G12) K0)∧Aside0 (wc.heap[Y0]? =some (.cells #[(.slice a0 c0.length b0),(.slice d0 g0.length e0)] 27 (0,0)))∧Aside0 (wc.heap[e1]? =some (.cells #[(.slice none 0 0),(.slice none 0 0)] 27 (0,0)))∧Aside0 (wc.heap[X1]? =some (.cells #[(.slice s12 J0.length t12),(.slice E12 K0.length G12)] 27 (0,0)))∧Aside0 (wc.heap[D2]? =some (.cells #[.int .i64 M0,.int .i64 N0,.int .i64 P0] 55 (0,0)))∧Aside0 (Below w.heap.size w wc))
        case first=>
         have H:=B13.out;clear B13;replace H:=qq H;obtain⟨L13,M13,H⟩|⟨N13,L13,M13,H⟩:=H
         ·(first|rw[L13]|(simp only[i64_w,i32_w];rw[L13])|skip);replace H:=qL 0 H;obtain⟨P13,Q13,H⟩:=H;replace H:=qq H;obtain⟨R13,U13,H⟩|⟨V13,R13,U13,H⟩:=H
          ·replace H:=qL 1 H;obtain⟨W13,X13,H⟩:=H;replace H:=qb H;obtain⟨Y13,a14,H⟩:=H;have H':=qa H;clear H;obtain⟨b14,c14,rfl⟩:=Kd.R_slice s13.out;obtain⟨d14,⟨⟩,e14,qi485,g14,j14⟩:=asn 0 (Kd.R_reads' s13.out).2.2 0;(try rw[Addr.add_zero']at e14);have l14:0≤(1:Int):=(by omega);have n14:1<(Q11.length:Int):=qo;obtain⟨p14,q14,r14⟩:=Kd.at_string (Kd.R_reads' s13.out).2.2 1 l14 n14;obtain rfl:d14=p14:=(by injection q14);(try simp only[show(1:Int).toNat =1 from rfl,Nat.reduceMul,Nat.reduceEqDiff,Go.Addr.add,↓reduceIte]at r14);have qi486:(1<Q11.length)=True:=eq_true (by omega);(try rw[show((1:Int)).toNat =1 from rfl]at r14);replace l14:=eq_true l14;replace n14:=eq_true n14
           go_wp2_with(first|(go_at_call 48;(with_reducible refine gm (spec_l1Digits.calls k1 (rdOf ByteArray.empty Q11 1) Y13 _ a14.out) fun nd=>?_)))
           go_meet
           case rel=>exact⟨_,(decide (Y13≥0)),(sd),H',⟨z12_⟩,⟨kR s13⟩,⟨kR t13⟩,⟨kR v13⟩,⟨kQ w13⟩,⟨bk⟩,⟨bk⟩,⟨bk⟩,⟨bk⟩,⟨bl⟩⟩
          ·have H':=qa H;clear H;obtain⟨s14,t14,rfl⟩:=Kd.R_slice s13.out;obtain⟨d14,⟨⟩,e14,qi485,g14,j14⟩:=asn 0 (Kd.R_reads' s13.out).2.2 0;(try rw[Addr.add_zero']at e14);go_wp2;go_meet
           case rel=>exact⟨_,(false),(sd),H',⟨z12_⟩,⟨kR s13⟩,⟨kR t13⟩,⟨kR v13⟩,⟨kQ w13⟩,⟨bk⟩,⟨bk⟩,⟨bk⟩,⟨bk⟩,⟨bl⟩⟩
         ·(first|rw[L13]|(simp only[i64_w,i32_w];rw[L13])|skip);have H':=qa H;clear H;obtain⟨v14,w14,rfl⟩:=Kd.R_slice s13.out;go_wp2;go_meet
          case rel=>exact⟨_,(false),(sd),H',⟨z12_⟩,⟨kR s13⟩,⟨kR t13⟩,⟨kR v13⟩,⟨kQ w13⟩,⟨bk⟩,⟨bk⟩,⟨bk⟩,⟨bk⟩,⟨bl⟩⟩
        case rest=>
         clear B13;obtain⟨kq,K13,rfl,HA,x14,s13,t13,v13,w13,b1,l1,a2,G2,HB⟩:=hcut;obtain⟨y14,rfl,H⟩:=kz kq HA;clear HA;simp only[spec_DeskLine.j1]at H;replace H:=qc H;obtain⟨rfl,H⟩|⟨rfl,H⟩:=H
         ·replace H:=qL 1 H;obtain⟨A14,B14,H⟩:=H;replace H:=qb H;obtain⟨C14,D14,H⟩:=H;replace H:=qb H;obtain⟨E14,G14,H⟩:=H;simp only[Option.some.injEq,Prod.mk.injEq]at H;obtain⟨rfl,rfl,rfl⟩:=H
          try go_wp2
          replace s13:=qa (Kd.R_drew s13.out);replace t13:=qa (Kd.R_drew t13.out);replace v13:=qa (Kd.R_drew v13.out);replace w13:=qa (Kd.Q_drew w13.out);replace b1:=qa (blk_drew b1.out);replace l1:=qa (blk_drew l1.out);replace a2:=qa (blk_drew a2.out);replace G2:=qa (blk_drew G2.out);replace HB:=qa (below_drew1 HB.out);obtain⟨J14,K14,L14⟩:=Kd.R_slice s13.out;(first|subst L14|(injection L14 with f1_ f2_ f3_;have f4_:=f1_.symm;have f5_:=f3_.symm;clear f1_ f2_ f3_;subst f4_;subst f5_));have M14:0≤(1:Int):=(by omega);have N14:1<(Q11.length:Int):=qo;obtain⟨P14,Q14,R14⟩:=Kd.at_string (Kd.R_reads' s13.out).2.2 1 M14 N14;cases Q14;have hz_:=Kd.R_ne s13.out l1.out (by decide);(have hne_:∀(o_:Nat) (s_:Option Nat),(⟨P14.block,o_,s_⟩:Addr).block ≠e1:=fun _ _ e_=>hz_ (by rw[←show P14.block=e1 from e_];rfl));(try simp only[show(1:Int).toNat =1 from rfl,Nat.reduceMul,Nat.reduceEqDiff,Go.Addr.add,↓reduceIte]at R14);have qi488:(1<Q11.length)=True:=eq_true (by omega);(try rw[show((1:Int)).toNat =1 from rfl]at R14);replace M14:=eq_true M14;replace N14:=eq_true N14;refine start_ (n:=11) (S:=fun w'=>w'.cell? ⟨X1,0,none⟩=some (.slice s12 J0.length t12)∧w'.cell? ⟨X1,1,none⟩=some (.slice E12 K0.length G12)∧w'.cell? ⟨Y0,0,none⟩=some (.slice a0 c0.length b0)∧w'.cell? ⟨Y0,1,none⟩=some (.slice d0 g0.length e0)∧w'.cell? ⟨P14.block,P14.off+1,none⟩=some (.string (rdOf ByteArray.empty Q11 1))) (ds:=[]) #[false,false,false,false,false,false,false,false,false,false,false] (by kernel_rfl) rfl rfl ⟨(blk_cell a2.out 0).trans rfl,(blk_cell a2.out 1).trans rfl,(blk_cell b1.out 0).trans rfl,(blk_cell b1.out 1).trans rfl,R14⟩ (fun hHeld=>?_);refine with_tabW spec_DeskLine.tab22 spec_DeskLine.bits22 (fun HT_ HW_=>?_);generalize wc.drew=U14 at s13 t13 v13 w13 b1 l1 a2 G2 HB R14 hHeld ⊢;refine pur 1 84 #[false,true,false,false,false,false,false,false,false,false,false] HT_ ?_;refine pur 3 86 #[false,true,false,true,false,false,false,false,false,false,false] HT_ ?_;refine pur 4 87 #[false,true,false,true,true,false,false,false,false,false,false] HT_ ?_;refine pur 5 88 #[false,true,false,true,true,true,false,false,false,false,false] HT_ ?_;refine take_ (i:=0) (N:=some 83) (v:=?_) (a':=?_) #[true,true,false,true,true,true,false,false,false,false,false] rfl rfl (take_ofW HT_.out HW_.out (by kernel_rfl)) (fun _ _ _ h=>h) (Or.inl ⟨by rfl,?_⟩) hHeld ?_ ?_;rotate_left
          ·rintro w' ⟨s0,s1,s2,s3,s4⟩
           go_simp
           with_reducible rfl
          rotate_left
          ·simp only[Act.put,List.setIfInBounds_toArray,List.set_cons_zero,List.set_cons_succ,i64_w,i32_w]
           rfl
          refine take_ (i:=2) (N:=some 85) (v:=?_) (a':=?_) #[true,true,true,true,true,true,false,false,false,false,false] rfl rfl (take_ofW HT_.out HW_.out (by kernel_rfl)) (fun _ _ _ h=>h) (Or.inl ⟨by rfl,?_⟩) hHeld ?_ ?_;rotate_left
          ·rintro w' ⟨s0,s1,s2,s3,s4⟩
           go_simp
           with_reducible rfl
          rotate_left
          ·simp only[Act.put,List.setIfInBounds_toArray,List.set_cons_zero,List.set_cons_succ,i64_w,i32_w]
           rfl
          refine take_ (i:=6) (N:=some 89) (v:=?_) (a':=?_) #[true,true,true,true,true,true,true,false,false,false,false] rfl rfl (take_ofW HT_.out HW_.out (by kernel_rfl)) (fun _ _ _ h=>h) (Or.inl ⟨by rfl,?_⟩) hHeld ?_ ?_;rotate_left
          ·rintro w' ⟨s0,s1,s2,s3,s4⟩
           go_simp
           with_reducible rfl
          rotate_left
          ·simp only[Act.put,List.setIfInBounds_toArray,List.set_cons_zero,List.set_cons_succ,i64_w,i32_w]
           rfl
          refine one_ (i:=7) (N:=some 90) #[true,true,true,true,true,true,true,true,false,false,false] rfl rfl (one_of HT_.out (by kernel_rfl)) (by decide) (fun K hK=>?_);refine goes_ Tryz.func48 (by kernel_rfl) rfl #[.string (rdOf ByteArray.empty Q11 1)] (by rfl) rfl rfl am ?_
          with_reducible refine(spec_l1Digits.calls y14 (rdOf ByteArray.empty Q11 1) C14 _ D14.out).mono ?_
          rintro e w' ⟨rfl,⟨nd,rfl⟩⟩;refine⟨_,rfl,?_⟩;refine hK.out _ _ ⟨(blk_cell a2.out 0).trans rfl,(blk_cell a2.out 1).trans rfl,(blk_cell b1.out 0).trans rfl,(blk_cell b1.out 1).trans rfl,hHeld.2.2.2.2⟩ (fun hHeld=>?_);clear hK K;refine norm_ (a':=?_) ?_ ?_;rotate_left
          ·show Act.put _ (some 90) _=_;simp only[Act.put,List.setIfInBounds_toArray,List.set_cons_zero,List.set_cons_succ,i64_w,i32_w]
           rfl
          refine one_ (i:=8) (N:=some 91) #[true,true,true,true,true,true,true,true,true,false,false] rfl rfl (one_of HT_.out (by kernel_rfl)) (by decide) (fun K hK=>?_);refine goes_ Tryz.func49 (by kernel_rfl) rfl #[.slice a0 c0.length b0,.string (rdOf ByteArray.empty U11 r13),.int .i64 C14] (by rfl) rfl rfl am ?_
          with_reducible refine(spec_l12Ask.calls y14 _ _ c0 (rdOf ByteArray.empty U11 r13) C14 E14 _ ?J1 ?K1 G14.out).mono ?_
          (case J1=>exact cx (Kd.C_below A0.out (bl)));(case K1=>exact B0.out);rintro e V14 ⟨rfl,hb⟩;have HS4_:=(hb.cell (World.block_lt_of_cell? _ _ (hHeld.2.2.2.2))).trans (hHeld.2.2.2.2);refine⟨_,rfl,?_⟩;replace s13:=qa (Kd.R_below (kR s13) hb);replace t13:=qa (Kd.R_below (kR t13) hb);replace v13:=qa (Kd.R_below (kR v13) hb);replace w13:=qa (Kd.Q_below (kQ w13) hb);replace b1:=qbb b1 hb;replace l1:=qbb l1 hb;replace a2:=qbb a2 hb;replace G2:=qbb G2 hb;replace HB:=bs hb;(try clear hb);(try clear P7);(try clear hk);(try clear hi);refine hK.out _ _ ⟨(blk_cell a2.out 0).trans rfl,(blk_cell a2.out 1).trans rfl,(blk_cell b1.out 0).trans rfl,(blk_cell b1.out 1).trans rfl,HS4_⟩ (fun hHeld=>?_);clear hK K;refine norm_ (a':=?_) ?_ ?_;rotate_left
          ·show Act.put _ (some 91) _=_;simp only[Act.put,List.setIfInBounds_toArray,List.set_cons_zero,List.set_cons_succ,i64_w,i32_w]
           rfl
          refine one_ (i:=9) (N:=none) #[true,true,true,true,true,true,true,true,true,true,false] rfl rfl (one_of HT_.out (by kernel_rfl)) (by decide) (fun K hK=>?_);have W14:V14.cell? ⟨e1,0,none⟩=some (.slice none 0 0):=(blk_cell l1.out 0).trans rfl;have X14:=blk_frozen l1.out 0;have Y14:=q1.out;have a15:=j2.out;have b15:=P2.out;have c15:=r1.out;have d15:=g2.out;have e15:=N2.out;have g15:V14.cell? ⟨e1,1,none⟩=some (.slice none 0 0):=(blk_cell l1.out 1).trans rfl;have j15:=blk_frozen l1.out 1;have l15:=q1.out;have n15:=j2.out;have p15:=P2.out;have q15:=r1.out;have r15:=g2.out;have s15:=N2.out;refine skip_ (w1:=?_) (by rfl) rfl ?_ ?_;rotate_left
          ·go_simp
           rfl
          refine hK.out _ _ ⟨((cell_far (p:=⟨e1,_,none⟩) j2.out _).trans (((cell_far (p:=⟨e1,_,none⟩) j2.out _).trans (hHeld.1)))),((cell_far (p:=⟨e1,_,none⟩) j2.out _).trans (((cell_far (p:=⟨e1,_,none⟩) j2.out _).trans (hHeld.2.1)))),((cell_far (p:=⟨e1,_,none⟩) q1.out _).trans (((cell_far (p:=⟨e1,_,none⟩) q1.out _).trans (hHeld.2.2.1)))),((cell_far (p:=⟨e1,_,none⟩) q1.out _).trans (((cell_far (p:=⟨e1,_,none⟩) q1.out _).trans (hHeld.2.2.2.1)))),((cell_far (p:=⟨e1,_,none⟩) (hne_ _ _) _).trans (((cell_far (p:=⟨e1,_,none⟩) (hne_ _ _) _).trans (hHeld.2.2.2.2))))⟩ (fun hHeld=>?_);clear hK K;refine pur 10 5 #[true,true,true,true,true,true,true,true,true,true,true] HT_ ?_;refine done_ (done_of HT_.out (by kernel_rfl)) ?_
          try go_wp2
          refine bodyPost_ret (results_ct rfl _ _ e1 27 #[.slice s12 J0.length t12,.slice E12 K0.length G12] (0,0) _ rfl (kP l1) Tryz.underlying27 rfl (by kernel_rfl)) rfl ?_;exact⟨_,_,er,kFR v13 l1 (fun _ hk=>trivial),kFQ w13 l1 (fun _ hk=>hk.1),bl⟩
         ·have H':=qa H;clear H;go_wp2
          go_roundg y14
          case measure=>have:=HK1.out;have:=x14.out;omega
          case rel=>exact⟨(wrap64 (r13+1)),(sd),H',⟨by have:=HK1.out;have:=x14.out;omega⟩,⟨kR s13⟩,⟨kR t13⟩,⟨kR v13⟩,⟨kQ w13⟩,⟨bk⟩,⟨bk⟩,⟨bk⟩,⟨bk⟩,⟨bl⟩⟩
       ·simp only[Option.some.injEq,Prod.mk.injEq]at H;obtain⟨rfl,rfl,rfl⟩:=H;have t15:=e2.out;have v15:=d2.out;have w15:=j2.out;have x15:=g2.out;have y15:=Q2.out;have A15:=R2.out;obtain⟨B15,C15,D15,E15⟩:=qk2 a2;have G15:=r1.out;have J15:=q1.out;have K15:=N2.out;have L15:=P2.out;obtain⟨M15,N15,P15,Q15⟩:=qk2 l1;go_wp2;refine bodyPost_ret (results_ct rfl _ _ e1 27 #[.slice s12 J0.length t12,.slice E12 K0.length G12] (0,0) _ rfl (kP l1) Tryz.underlying27 rfl (by kernel_rfl)) rfl ?_;exact⟨_,_,er,kFR v13 l1 (fun _ hk=>trivial),kFQ w13 l1 (fun _ hk=>hk.1),bl⟩
 ·simp only[Option.some.injEq,Prod.mk.injEq]at H;obtain⟨rfl,rfl,rfl⟩:=H
  go_enter Tryz.func9,Tryz.ntmps9
  go_wp2_with(first|(refine bx 2 #[.slice a0 c0.length b0,.slice d0 g0.length e0] 27 ?_;intro Y0 hg R15 hbox hb;have b1:=qa (hbox);have c1:=gw hg;have d1:=gw hg;replace HB:=bs hb;clear hb hbox hg)|(refine bx 4 #[.slice none 0 0,.slice none 0 0] 27 ?_;intro e1 hg U15 hbox hb;have l1:=qa (hbox);have n1:=gw hg;have p1:=gw hg;replace HB:=bs hb;have q1:=qnl hg b1;have r1:=qng hg b1;replace b1:=qbb b1 hb;clear hb hbox hg;have V15:=q1.out;have W15:=r1.out;obtain⟨X15,Y15,a16,b16⟩:=qk2 b1)|(refine gb 15 Tryz.func20 (spec_DeskOk.calls k _ _ c0 _ _ g0 false _ (cx (Kd.C_below A0.out HB.out)) B0.out (cx (Kd.C_below C0.out HB.out)) D0.out G0.out) fun c16 hb=>?_;replace b1:=qbb b1 hb;replace l1:=qbb l1 hb;replace HB:=bs hb;obtain⟨d16,e16,g16,j16⟩:=qk2 l1))
  refine bodyPost_ret (results_ct rfl _ _ e1 27 #[.slice none 0 0,.slice none 0 0] (0,0) _ rfl (kP l1) Tryz.underlying27 rfl (by kernel_rfl)) rfl ?_;exact⟨_,_,er,z1_,Kd.Q_of_R ((Kd.S_R z19_)),bl⟩
end Go.Proofs.YtdmlkjjlgkdnlaaGreatDoor.PFnExactDeskLine
