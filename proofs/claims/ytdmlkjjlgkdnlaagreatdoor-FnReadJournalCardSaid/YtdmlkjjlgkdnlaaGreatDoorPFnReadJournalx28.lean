import Derived.Test.YtdmlkjjlgkdnlaaGreatDoorPFnReadJournalx19
namespace Go.Proofs.YtdmlkjjlgkdnlaaGreatDoor.PFnReadJournal
open Go.RowKit Go.Proofs.YtdmlkjjlgkdnlaaGreatDoorW.PrintWords Go.Proofs.YtdmlkjjlgkdnlaaGreatDoorW.PrintLast Go.Proofs.YtdmlkjjlgkdnlaaGreatDoorW.PrintMore
attribute [local go_sem] max2_int min2_int max_two min_two max_three min_three max_four min_four
set_option linter.unusedVariables false
set_option linter.unusedSimpArgs false
set_option maxHeartbeats 8000000
set_option maxRecDepth 100000
mutual
def spec_l2Times.l0:Nat→List Int→List Int→List Int→Int→Option (List Int)
 |0,_,_,_,_=>none
 |k+1,a0,b0,c0,d0=>if d0≤24 then(spec_l2Times.l1 k a0 b0 c0 d0 1)else(some c0)
def spec_l2Times.l1:Nat→List Int→List Int→List Int→Int→Int→Option (List Int)
 |0,_,_,_,_,_=>none
 |k+1,a0,b0,c0,d0,e0=>if(wrap64 (d0*e0))≤24 then(if 0≤(wrap64 ((wrap64 (d0*e0))-1))then(if(wrap64 ((wrap64 (d0*e0))-1))<(c0.length:Int)then(if 0≤(wrap64 (d0-1))then(if(wrap64 (d0-1))<(a0.length:Int)then(if 0≤(wrap64 (e0-1))then(if(wrap64 (e0-1))<(b0.length:Int)then(spec_l2Times.l1 k a0 b0 (c0.set ((wrap64 ((wrap64 (d0*e0))-1)):Int).toNat (wrap64 ((rd c0 (wrap64 ((wrap64 (d0*e0))-1)))+(wrap64 ((rd a0 (wrap64 (d0-1)))*(rd b0 (wrap64 (e0-1)))))))) d0 (wrap64 (e0+1)))else(none))else(none))else(none))else(none))else(none))else(none))else(spec_l2Times.l0 k a0 b0 c0 (wrap64 (d0+1)))
end

def spec_l2Times.f (k:Nat) (a0:List Int) (b0:List Int):Option (List Int):=if 24≤35184372088832 then(spec_l2Times.l0 k a0 b0 (List.replicate 24 0) 1)else(none)
theorem spec_l2Times.mono_l:∀k,(∀a0 b0 c0 d0,LeO (spec_l2Times.l0 k a0 b0 c0 d0) (spec_l2Times.l0 (k+1) a0 b0 c0 d0))∧(∀a0 b0 c0 d0 e0,LeO (spec_l2Times.l1 k a0 b0 c0 d0 e0) (spec_l2Times.l1 (k+1) a0 b0 c0 d0 e0))
 |0=>⟨fun _ _ _ _ r h=>by simp[spec_l2Times.l0]at h,fun _ _ _ _ _ r h=>by simp[spec_l2Times.l1]at h⟩
 |k+1=>by
  obtain⟨ih0,ih1⟩:=spec_l2Times.mono_l k;refine⟨?_,?_⟩
  ·intro a0 b0 c0 d0;unfold spec_l2Times.l0;exact mz
  ·intro a0 b0 c0 d0 e0;unfold spec_l2Times.l1;exact mz
theorem spec_l2Times.mono:∀a0 b0 k,LeO (spec_l2Times.f k a0 b0) (spec_l2Times.f (k+1) a0 b0):=by
 intro a0 b0 k;obtain⟨ih0,ih1⟩:=spec_l2Times.mono_l k;unfold spec_l2Times.f;exact mz
def spec_l2Times.T8:Bool×List (List Nat×List Nat):=(true,[([],[]),([],[]),([],[]),([1,2],[1,2]),([3],[3]),([],[]),([],[]),([],[]),([6,7],[6,7]),([8],[8]),([5,9],[5,9]),([10],[10]),([],[]),([],[]),([13],[13]),([12,14],[12,14]),([15],[15]),([],[]),([],[]),([18],[18]),([17,19],[17,19]),([20],[20]),([16,21],[16,21]),([11,22],[11,22]),([0,4,0,1,2,3,4,5,6,7,8,9,10,11,12,13,14,15,16,17,18,19,20,21,22,23],[0,4]),([24,23,0,1,2,3,4,5,6,7,8,9,10,11,12,13,14,15,16,17,18,19,20,21,22,23],[23,24])])
def spec_l2Times.B8:List Nat:=[0,0,0,6,14,0,0,0,192,448,992,2016,0,0,8192,28672,61440,0,0,262144,917504,1966080,4190208,8388576,16777215,33554431]
theorem spec_l2Times.tab8:rtab .any (opsOf Tryz.f151 8)=spec_l2Times.T8:=by kernel_rfl
theorem spec_l2Times.bits8:waitsOk spec_l2Times.T8.2 spec_l2Times.B8=true:=by kernel_rfl
theorem spec_l2Times.calls (k:Nat) (a0:Option Addr) (b0:Nat) (c0:List Int) (d0:Option Addr) (e0:Nat) (g0:List Int) (r:List Int) (w:World) (j0:Kd.C (Kd.int .i64) w a0 c0.length c0) (n0:c0.length≤b0) (p0:Kd.C (Kd.int .i64) w d0 g0.length g0) (q0:g0.length≤e0) (h:spec_l2Times.f k c0 g0=some r):
  Calls Tryz.prog 151 #[.slice a0 c0.length b0,.slice d0 g0.length e0] w fun e w'=>∃v0_:Value,e= .returned (v0_)∧Kd.R (Kd.int .i64) 3 w' w.heap.size (fun _=>True) v0_ r∧Below w.heap.size w w':=by
 have r0:=qa j0;have s0:=qa n0;clear j0 n0;have t0:=qa p0;have v0:=qa q0;clear p0 q0;have HB:=qa (Below.refl w.heap.size w);have H:=h;unfold spec_l2Times.f at H;clear h
 by_cases w0:24≤35184372088832
 ·rw[if_pos w0]at H;have x0:=eq_true w0;have y0:decide (24≤35184372088832)=true:=decide_eq_true w0;clear w0;obtain⟨A0,hy_⟩:∃y_:List Int,y_=(List.replicate 24 0):=⟨_,rfl⟩;replace H:(spec_l2Times.l0 k c0 g0 A0 1)=some r:=yh;have B0:=qa hy_;clear hy_;have H':=qa H;clear H
  go_enter Tryz.func151,Tryz.ntmps151
  go_wp2_with(first|((with_reducible refine gate_dst (N:=8) rfl ?_);refine Kd.R_make (Kd.int .i64) _ 3 rfl (N:=8) rfl 22 _ _ rfl 24 rfl rfl Tryz.underlying22 (.int .i64 0) 8 info3 rfl kd_ ko_ 0 (ok:=fun _=>True) (okp:=fun _=>True) rfl (fun _ hk=>hk) trivial ko_ ko_ (Below.refl _ _) (Nat.le_refl _) ?_;intro C0 D0 E0 hb hg_ hnew_;clear hg_ hnew_;(first|rw[←B0.out]at E0|(simp only[Int.reduceToNat]at E0;rw[←B0.out]at E0));have G0:=qa (Kd.R_lower E0 (below_size (bl)));replace HB:=bs hb;clear hb E0))
  go_loopg [6] k (fun kq J0 w'=>∃(K0:List Int) (L0:Int),J0= .int .i64 L0∧Aside0 (spec_l2Times.l0 kq c0 g0 K0 L0=some r)∧Aside0 (kq≤k)∧Aside0 (Kd.R (Kd.int .i64) 3 w' w.heap.size (fun _=>True) C0 K0)∧Aside0 (Below w.heap.size w w'))
  case atStart=>exact⟨(A0),(1),(sd),H',⟨Nat.le_refl _⟩,⟨kR G0⟩,⟨bl⟩⟩
  case round=>
   clear H';obtain⟨K0,L0,rfl,HA,HK1,M0,HB⟩:=hrel;obtain⟨k1,rfl,H⟩:=kz gk HA;clear HA;simp only[spec_l2Times.l0]at H;replace H:=qe H;obtain⟨N0,H⟩|⟨N0,H⟩:=H
   ·have H':=qa H;clear H;go_wp2
    go_loopg [7] k1 (fun kq P0 w'=>∃(Q0:List Int) (R0:Int),P0= .int .i64 R0∧Aside0 (spec_l2Times.l1 kq c0 g0 Q0 L0 R0=some r)∧Aside0 (kq≤k1)∧Aside0 (Kd.R (Kd.int .i64) 3 w' w.heap.size (fun _=>True) C0 Q0)∧Aside0 (Below w.heap.size w w'))
    case atStart=>exact⟨(K0),(1),(sd),H',⟨Nat.le_refl _⟩,⟨kR M0⟩,⟨bl⟩⟩
    case round=>
     clear H';obtain⟨Q0,R0,rfl,HA,HK2,M0,HB⟩:=hrel;obtain⟨k2,rfl,H⟩:=kz gk HA;clear HA;simp only[spec_l2Times.l1]at H;replace H:=qe H;obtain⟨U0,H⟩|⟨U0,H⟩:=H
     ·obtain⟨V0,W0⟩:∃j_:Int,(wrap64 ((wrap64 (L0*R0))-1))=j_:=⟨_,rfl⟩;(first|rw[W0]at H|(try simp only[W0]at H));have X0:(IntKind.i64.wrap ((wrap64 (L0*R0))-1))=V0:=(i64_w _).trans W0;replace H:=qd H;obtain⟨Y0,H⟩:=H;replace H:=qd H;obtain⟨a1,H⟩:=H;obtain⟨b1,c1⟩:∃j_:Int,(wrap64 (L0-1))=j_:=⟨_,rfl⟩;(first|rw[c1]at H|(try simp only[c1]at H));have d1:(IntKind.i64.wrap (L0-1))=b1:=(i64_w _).trans c1;replace H:=qd H;obtain⟨e1,H⟩:=H;replace H:=qd H;obtain⟨g1,H⟩:=H;obtain⟨j1,n1⟩:∃j_:Int,(wrap64 (R0-1))=j_:=⟨_,rfl⟩;(first|rw[n1]at H|(try simp only[n1]at H));have p1:(IntKind.i64.wrap (R0-1))=j1:=(i64_w _).trans n1;replace H:=qd H;obtain⟨q1,H⟩:=H;replace H:=qd H;obtain⟨r1,H⟩:=H;obtain⟨s1,hy_⟩:∃y_:List Int,y_=(Q0.set ((V0):Int).toNat (wrap64 ((rd Q0 (V0))+(wrap64 ((rd c0 (b1))*(rd g0 (j1))))))):=⟨_,rfl⟩;replace H:(spec_l2Times.l1 k2 c0 g0 s1 L0 (wrap64 (R0+1)))=some r:=yh;have t1:=qa hy_;clear hy_;have H':=qa H;clear H
      try go_wp2
      replace M0:=qa (Kd.R_drew M0.out);replace HB:=qa (below_drew1 HB.out);obtain⟨v1,w1,x1⟩:=Kd.R_slice M0.out;(first|subst x1|(injection x1 with f1_ f2_ f3_;have f4_:=f1_.symm;have f5_:=f3_.symm;clear f1_ f2_ f3_;subst f4_;subst f5_));obtain⟨y1,⟨⟩,A1,B1,C1⟩:=ai (Kd.R_reads' M0.out).2.2 (V0);have D1:0≤((b1):Int):=qo;have E1:(b1)<(c0.length:Int):=qo;obtain⟨G1,J1,K1⟩:=Kd.at_int r0.out (b1) D1 E1;have L1:=K1;cases J1;(try replace K1:=(HB.out.cell (World.block_lt_of_cell? w _ K1)).trans K1);replace D1:=eq_true D1;replace E1:=eq_true E1;have M1:0≤((j1):Int):=qo;have N1:(j1)<(g0.length:Int):=qo;obtain⟨P1,Q1,R1⟩:=Kd.at_int t0.out (j1) M1 N1;have U1:=R1;cases Q1;(try replace R1:=(HB.out.cell (World.block_lt_of_cell? w _ R1)).trans R1);replace M1:=eq_true M1;replace N1:=eq_true N1;have V1:0≤((V0):Int):=qo;have W1:((V0):Int)<((Q0.length:Int):Int):=qo;obtain⟨X1,Y1,a2,b2,gl17,cl17,HG17⟩:=Kd.R_form M0.out ko_;(first|cases a2|(injection a2 with ea_ en_ ec_;(first|subst ea_|(injection ea_ with ea_;subst ea_));subst ec_;clear en_));have GB17:=qa b2;have GG17:=qa HG17;clear b2 gl17 HG17;(first|simp only[add_plain]at A1|skip);obtain⟨c2,d2⟩:=Kd.R_celln 0 M0.out ((V0):Int) V1 W1;replace V1:=eq_true V1;replace W1:=eq_true W1;have HP20:=Kd.R_putn M0.out ((V0):Int) (wrap64 ((rd Q0 (V0))+(wrap64 ((rd c0 (b1))*(rd g0 (j1))))));rw[←t1.out]at HP20;have HQ20:=qa HP20;clear HP20;refine start_ (n:=26) (S:=fun w'=>w'.cell? ⟨X1,((V0)).toNat,none⟩=some (.int .i64 (rd Q0 (V0)))∧w'.cell? (G1.add ((b1)).toNat)=some (.int .i64 (rd c0 (b1)))∧w'.cell? (P1.add ((j1)).toNat)=some (.int .i64 (rd g0 (j1)))) (ds:=[25]) _ kr_ rfl rfl ⟨A1,((HB.out.cell (World.block_lt_of_cell? w _ L1)).trans L1),((HB.out.cell (World.block_lt_of_cell? w _ U1)).trans U1)⟩ (fun hHeld=>?_);refine with_tabW spec_l2Times.tab8 spec_l2Times.bits8 (fun HT_ HW_=>?_);generalize wr.drew=e2 at M0 HB GG17 HQ20 d2 c2 A1 K1 R1 hHeld ⊢;refine pur 0 19 (bz 26 1) HT_ ?_;refine pur 1 20 (bz 26 3) HT_ ?_;refine pur 2 21 (bz 26 7) HT_ ?_;refine pur 3 22 (bz 26 15) HT_ ?_;refine pur 4 23 (bz 26 31) HT_ ?_;refine pur 5 24 (bz 26 63) HT_ ?_;refine pur 6 25 (bz 26 127) HT_ ?_;refine pur 7 26 (bz 26 255) HT_ ?_;refine pur 8 27 (bz 26 511) HT_ ?_;refine pur 9 28 (bz 26 1023) HT_ ?_;refine pur 10 29 (bz 26 2047) HT_ ?_;refine pur 12 31 (bz 26 6143) HT_ ?_;refine pur 13 32 (bz 26 14335) HT_ ?_;refine pur 14 33 (bz 26 30719) HT_ ?_;refine pur 15 34 (bz 26 63487) HT_ ?_;refine pur 17 36 (bz 26 194559) HT_ ?_;refine pur 18 37 (bz 26 456703) HT_ ?_;refine pur 19 38 (bz 26 980991) HT_ ?_;refine pur 20 39 (bz 26 2029567) HT_ ?_;refine tk 11 30 (bz 26 2031615) hHeld (take_ofW HT_.out HW_.out kr_) ?_;refine tk 16 35 (bz 26 2097151) hHeld (take_ofW HT_.out HW_.out kr_) ?_;refine tk 21 40 (bz 26 4194303) hHeld (take_ofW HT_.out HW_.out kr_) ?_;refine pur 22 41 (bz 26 8388607) HT_ ?_;refine pur 23 42 (bz 26 16777215) HT_ ?_;refine pur 24 43 (bz 26 33554431) HT_ ?_;refine last_ (i:=25) (N:=none) (bz 26 67108863) rfl rfl (one_of HT_.out kr_) kd_ (fun K hK=>?_);refine skip_ (w1:=?_) (by rfl) rfl ?_ ?_;rotate_left
      ·go_simp
       rfl
      refine hK.out _ _ ?_;clear hK K;refine done_ (done_of HT_.out kr_) ?_
      try go_wp2
      go_roundg k2
      case measure=>have:=HK1.out;have:=HK2.out;omega
      case rel=>exact⟨(s1),(wrap64 (R0+1)),(sd),H',⟨by have:=HK1.out;have:=HK2.out;omega⟩,⟨by(with_reducible repeat(first|apply Kd.R_alloc|apply Kd.R_drewN|apply Kd.R_drew));exact HQ20.out⟩,⟨by repeat(first|(with_reducible first|exact HB.out|apply below_alloc|apply pw_below_drewN|apply below_drew1|refine below_set ?_ GB17.out)|exact HB.out)⟩⟩
     ·have H':=qa H;clear H;go_wp2
      go_roundg k2
      case measure=>have:=HK1.out;have:=HK2.out;omega
      case rel=>exact⟨(Q0),(wrap64 (L0+1)),(sd),H',⟨by have:=HK1.out;have:=HK2.out;omega⟩,⟨kR M0⟩,⟨bl⟩⟩
   ·obtain rfl:=sj H;go_wp2;go_ret;exact⟨_,z1_,kR M0,bl⟩
 ·rw[if_neg w0]at H;exact absurd H (by simp)

mutual
def spec_TimesOf.j0:Nat→List Int→List Int→Bool→Option (List Int×Bool)
 |0,_,_,_=>none
 |k+1,a0,b0,c0=>if c0=true then(some ((([]:List Int)),false))else(spec_TimesOf.l0 k a0 b0 0)
def spec_TimesOf.l0:Nat→List Int→List Int→Int→Option (List Int×Bool)
 |0,_,_,_=>none
 |k+1,a0,b0,d0=>if d0<24 then(if 0≤d0 then(if d0<(a0.length:Int)then((spec_l1In.f (rd a0 d0) (-10000) 10000).bind fun e0=>(if e0=true then(if d0<(b0.length:Int)then((spec_l1In.f (rd b0 d0) (-10000) 10000).bind fun g0=>(if g0=true then(spec_TimesOf.l0 k a0 b0 (wrap64 (d0+1)))else(some ((([]:List Int)),false))))else(none))else(some ((([]:List Int)),false))))else(none))else(none))else((spec_l2Times.f k a0 b0).bind fun n0=>(some (n0,true)))
end

def spec_TimesOf.f (k:Nat) (a0:List Int) (b0:List Int):Option (List Int×Bool):=(spec_RowOk.f k a0).bind fun c0=>(if c0=true then((spec_RowOk.f k b0).bind fun d0=>(spec_TimesOf.j0 k a0 b0 (!d0)))else(spec_TimesOf.j0 k a0 b0 true))
theorem spec_TimesOf.mono_l:∀k,(∀a0 b0 c0,LeO (spec_TimesOf.j0 k a0 b0 c0) (spec_TimesOf.j0 (k+1) a0 b0 c0))∧(∀a0 b0 c0,LeO (spec_TimesOf.l0 k a0 b0 c0) (spec_TimesOf.l0 (k+1) a0 b0 c0))
 |0=>⟨fun _ _ _ r h=>by simp[spec_TimesOf.j0]at h,fun _ _ _ r h=>by simp[spec_TimesOf.l0]at h⟩
 |k+1=>by
  obtain⟨ih0,ih1⟩:=spec_TimesOf.mono_l k;refine⟨?_,?_⟩
  ·intro a0 b0 c0;unfold spec_TimesOf.j0;have m0:= @spec_RowOk.mono;have m1:= @spec_l2Times.mono;exact mz
  ·intro a0 b0 c0;unfold spec_TimesOf.l0;have m0:= @spec_RowOk.mono;have m1:= @spec_l2Times.mono;exact mz
theorem spec_TimesOf.mono:∀a0 b0 k,LeO (spec_TimesOf.f k a0 b0) (spec_TimesOf.f (k+1) a0 b0):=by
 intro a0 b0 k;obtain⟨ih0,ih1⟩:=spec_TimesOf.mono_l k;unfold spec_TimesOf.f;have m0:= @spec_RowOk.mono;have m1:= @spec_l2Times.mono;exact mz
theorem spec_TimesOf.calls (k:Nat) (a0:Option Addr) (b0:Nat) (c0:List Int) (d0:Option Addr) (e0:Nat) (g0:List Int) (n0:List Int) (p0:Bool) (w:World) (q0:Kd.C (Kd.int .i64) w a0 c0.length c0) (r0:c0.length≤b0) (s0:Kd.C (Kd.int .i64) w d0 g0.length g0) (t0:g0.length≤e0) (h:spec_TimesOf.f k c0 g0=some (n0,p0)):
  Calls Tryz.prog 121 #[.slice a0 c0.length b0,.slice d0 g0.length e0] w fun e w'=>∃v0_:Value,e= .returned (.tuple #[v0_,.bool p0])∧Kd.R (Kd.int .i64) 3 w' w.heap.size (fun _=>True) v0_ n0∧Below w.heap.size w w':=by
 have v0:=qa q0;have w0:=qa r0;clear q0 r0;have x0:=qa s0;have y0:=qa t0;clear s0 t0;have HB:=qa (Below.refl w.heap.size w);have H:=h;unfold spec_TimesOf.f at H;clear h;have A0:=qa H;clear H
 go_enter Tryz.func121,Tryz.ntmps121
 go_upto_region 1 with(fail)
 go_cut [14] (fun B0 wc=>∃(kq:Nat) (C0:Bool),B0= .bool C0∧Aside0 (spec_TimesOf.j0 kq c0 g0 C0=some (n0,p0))∧Aside0 (kq≤k)∧Aside0 (Below w.heap.size w wc))
 case first=>
  have H:=A0.out;clear A0;replace H:=qb H;obtain⟨D0,E0,H⟩:=H;replace H:=qc H;obtain⟨rfl,H⟩|⟨rfl,H⟩:=H
  ·replace H:=qb H;obtain⟨G0,J0,H⟩:=H;have H':=qa H;clear H
   go_wp2_with(first|(refine gd 8 Tryz.func69 (spec_RowOk.calls k _ _ c0 true _ (cx (Kd.C_below v0.out HB.out)) w0.out E0.out) fun nd=>?_)|(go_at_call 69;(with_reducible refine(spec_RowOk.calls k _ _ g0 G0 _ ?K0 ?L0 J0.out).mono ?_);(case K0=>exact cx (Kd.C_below x0.out (bl)));(case L0=>exact y0.out);rintro e w' ⟨rfl,⟨nd,rfl⟩⟩))
   go_meet
   case rel=>exact⟨_,(!G0),(sd),H',⟨by first|omega|exact Nat.le_refl _⟩,⟨bl⟩⟩
  ·have H':=qa H;clear H
   go_wp2_with(first|(refine gd 8 Tryz.func69 (spec_RowOk.calls k _ _ c0 false _ (cx (Kd.C_below v0.out HB.out)) w0.out E0.out) fun nd=>?_))
   go_meet
   case rel=>exact⟨_,(true),(sd),H',⟨by first|omega|exact Nat.le_refl _⟩,⟨bl⟩⟩
 case rest=>
  clear A0;obtain⟨kq,C0,rfl,HA,M0,HB⟩:=hcut;obtain⟨N0,rfl,H⟩:=kz kq HA;clear HA;simp only[spec_TimesOf.j0]at H;replace H:=qc H;obtain⟨rfl,H⟩|⟨rfl,H⟩:=H
  ·obtain⟨P0,hy_⟩:∃y_:List Int,y_=(([]:List Int)):=⟨_,rfl⟩;replace H:(some (P0,false))=some (n0,p0):=yh;have Q0:=qa hy_;clear hy_;simp only[Option.some.injEq,Prod.mk.injEq]at H;obtain⟨rfl,rfl⟩:=H
   go_wp2_with(first|(refine rli .i64 3 15 Q0.out fun R0 U0 V0 hb=>?_;have W0:=qa (Kd.R_lower V0 (below_size (bl)));replace HB:=bs hb;clear hb V0))
   go_ret2;exact⟨_,z1_,kR W0,bl⟩
  ·have H':=qa H;clear H;go_wp2
   go_loopg [6] N0 (fun kq X0 w'=>∃(Y0:Int),X0= .int .i64 Y0∧Aside0 (spec_TimesOf.l0 kq c0 g0 Y0=some (n0,p0))∧Aside0 (kq≤N0)∧Aside0 (Below w.heap.size w w'))
   case atStart=>exact⟨(0),(sd),H',⟨Nat.le_refl _⟩,⟨bl⟩⟩
   case round=>
    clear H';obtain⟨Y0,rfl,HA,HK2,HB⟩:=hrel;obtain⟨k2,rfl,H⟩:=kz gk HA;clear HA;simp only[spec_TimesOf.l0]at H;replace H:=qe H;obtain⟨a1,H⟩|⟨a1,H⟩:=H
    ·replace H:=qd H;obtain⟨b1,H⟩:=H;replace H:=qd H;obtain⟨c1,H⟩:=H;replace H:=qb H;obtain⟨d1,e1,H⟩:=H;replace H:=qc H;obtain⟨rfl,H⟩|⟨rfl,H⟩:=H
     ·replace H:=qd H;obtain⟨g1,H⟩:=H;replace H:=qb H;obtain⟨j1,l1,H⟩:=H;replace H:=qc H;obtain⟨rfl,H⟩|⟨rfl,H⟩:=H
      ·have H':=qa H;clear H;obtain⟨n1,⟨⟩,p1,q1,r1⟩:=ai v0.out Y0;(try replace p1:=(HB.out.cell (World.block_lt_of_cell? w _ p1)).trans p1)
       go_wp2_with(first|(refine gd 24 Tryz.func84 (spec_l1In.calls (rd c0 Y0) (-10000) 10000 true _ e1.out) fun nd=>?_;obtain⟨s1,⟨⟩,t1,v1,w1⟩:=ai x0.out Y0;replace t1:=(HB.out.cell (World.block_lt_of_cell? w _ t1)).trans t1)|(go_at_call 84;(with_reducible refine gm (spec_l1In.calls (rd g0 Y0) (-10000) 10000 true _ l1.out) fun nd=>?_)))
       go_roundg k2
       case measure=>have:=M0.out;have:=HK2.out;omega
       case rel=>exact⟨(wrap64 (Y0+1)),(sd),H',⟨by have:=M0.out;have:=HK2.out;omega⟩,⟨bl⟩⟩
      ·obtain⟨x1,hy_⟩:∃y_:List Int,y_=(([]:List Int)):=⟨_,rfl⟩;replace H:(some (x1,false))=some (n0,p0):=yh;have y1:=qa hy_;clear hy_;simp only[Option.some.injEq,Prod.mk.injEq]at H;obtain⟨rfl,rfl⟩:=H;obtain⟨n1,⟨⟩,p1,q1,r1⟩:=ai v0.out Y0;(try replace p1:=(HB.out.cell (World.block_lt_of_cell? w _ p1)).trans p1)
       go_wp2_with(first|(refine gd 24 Tryz.func84 (spec_l1In.calls (rd c0 Y0) (-10000) 10000 true _ e1.out) fun nd=>?_;obtain⟨s1,⟨⟩,t1,v1,w1⟩:=ai x0.out Y0;replace t1:=(HB.out.cell (World.block_lt_of_cell? w _ t1)).trans t1)|(go_at_call 84;(with_reducible refine gm (spec_l1In.calls (rd g0 Y0) (-10000) 10000 false _ l1.out) fun nd=>?_))|(refine rli .i64 3 34 y1.out fun A1 B1 C1 hb=>?_;have D1:=qa (Kd.R_lower C1 (below_size (bl)));replace HB:=bs hb;clear hb C1))
       go_ret2;exact⟨_,z1_,kR D1,bl⟩
     ·obtain⟨E1,hy_⟩:∃y_:List Int,y_=(([]:List Int)):=⟨_,rfl⟩;replace H:(some (E1,false))=some (n0,p0):=yh;have G1:=qa hy_;clear hy_;simp only[Option.some.injEq,Prod.mk.injEq]at H;obtain⟨rfl,rfl⟩:=H;obtain⟨n1,⟨⟩,p1,q1,r1⟩:=ai v0.out Y0;(try replace p1:=(HB.out.cell (World.block_lt_of_cell? w _ p1)).trans p1)
      go_wp2_with(first|(refine gd 24 Tryz.func84 (spec_l1In.calls (rd c0 Y0) (-10000) 10000 false _ e1.out) fun nd=>?_)|(refine rli .i64 3 34 G1.out fun J1 K1 L1 hb=>?_;have M1:=qa (Kd.R_lower L1 (below_size (bl)));replace HB:=bs hb;clear hb L1))
      go_ret2;exact⟨_,z1_,kR M1,bl⟩
    ·replace H:=qb H;obtain⟨N1,P1,H⟩:=H;simp only[Option.some.injEq,Prod.mk.injEq]at H;obtain⟨rfl,rfl⟩:=H
     go_wp2_with(first|(refine ge_ 37 Tryz.func151 (spec_l2Times.calls k2 _ _ c0 _ _ g0 N1 _ (cx (Kd.C_below v0.out HB.out)) w0.out (cx (Kd.C_below x0.out HB.out)) y0.out P1.out) fun Q1 R1 U1 hb=>?_;have V1:=qa (Kd.R_lower U1 (below_size (bl)));replace HB:=bs hb))
     go_ret2;exact⟨_,z1_,kR V1,bl⟩
mutual
def spec_CommonOf.j0:Nat→Int→Int→Bool→Option (Int)
 |0,_,_,_=>none
 |k+1,a0,b0,c0=>if c0=true then(some (-1))else(spec_CommonOf.l0 k a0 b0)
def spec_CommonOf.l0:Nat→Int→Int→Option (Int)
 |0,_,_=>none
 |k+1,a0,b0=>if b0>0 then(if b0=0 then(none)else(spec_CommonOf.l0 k b0 (Int.tmod a0 b0)))else(some a0)
end

def spec_CommonOf.f (k:Nat) (a0:Int) (b0:Int):Option (Int):=(spec_l1In.f a0 1 10000).bind fun c0=>(if c0=true then((spec_l1In.f b0 1 10000).bind fun d0=>(spec_CommonOf.j0 k a0 b0 (!d0)))else(spec_CommonOf.j0 k a0 b0 true))
theorem spec_CommonOf.mono_l:∀k,(∀a0 b0 c0,LeO (spec_CommonOf.j0 k a0 b0 c0) (spec_CommonOf.j0 (k+1) a0 b0 c0))∧(∀a0 b0,LeO (spec_CommonOf.l0 k a0 b0) (spec_CommonOf.l0 (k+1) a0 b0))
 |0=>⟨fun _ _ _ r h=>by simp[spec_CommonOf.j0]at h,fun _ _ r h=>by simp[spec_CommonOf.l0]at h⟩
 |k+1=>by
  obtain⟨ih0,ih1⟩:=spec_CommonOf.mono_l k;refine⟨?_,?_⟩
  ·intro a0 b0 c0;unfold spec_CommonOf.j0;exact mz
  ·intro a0 b0;unfold spec_CommonOf.l0;exact mz
theorem spec_CommonOf.mono:∀a0 b0 k,LeO (spec_CommonOf.f k a0 b0) (spec_CommonOf.f (k+1) a0 b0):=by
 intro a0 b0 k;obtain⟨ih0,ih1⟩:=spec_CommonOf.mono_l k;unfold spec_CommonOf.f;exact mz
theorem spec_CommonOf.calls (k:Nat) (a0:Int) (b0:Int) (r:Int) (w:World) (h:spec_CommonOf.f k a0 b0=some r):
  Calls Tryz.prog 125 #[.int .i64 a0,.int .i64 b0] w fun e w'=>e= .returned (.int .i64 r)∧Drawn0 w w':=by
 have H:=h;unfold spec_CommonOf.f at H;clear h;have c0:=qa H;clear H
 go_enter Tryz.func125,Tryz.ntmps125
 go_upto_region 1 with(fail)
 go_cut [13] (fun d0 wc=>∃(kq:Nat) (e0:Bool),d0= .bool e0∧Aside0 (spec_CommonOf.j0 kq a0 b0 e0=some r)∧Aside0 (kq≤k)∧Drawn0 w wc)
 case first=>
  have H:=c0.out;clear c0;replace H:=qb H;obtain⟨g0,n0,H⟩:=H;replace H:=qc H;obtain⟨rfl,H⟩|⟨rfl,H⟩:=H
  ·replace H:=qb H;obtain⟨p0,q0,H⟩:=H;have H':=qa H;clear H
   go_wp2_with(first|(refine gd 7 Tryz.func84 (spec_l1In.calls a0 1 10000 true _ n0.out) fun nd=>?_)|(go_at_call 84;(with_reducible refine gm (spec_l1In.calls b0 1 10000 p0 _ q0.out) fun nd=>?_)))
   go_meet
   case rel=>exact⟨_,(!p0),(sd),H',⟨by first|omega|exact Nat.le_refl _⟩,dr⟩
  ·have H':=qa H;clear H
   go_wp2_with(first|(refine gd 7 Tryz.func84 (spec_l1In.calls a0 1 10000 false _ n0.out) fun nd=>?_))
   go_meet
   case rel=>exact⟨_,(true),(sd),H',⟨by first|omega|exact Nat.le_refl _⟩,dr⟩
 case rest=>
  clear c0;obtain⟨kq,e0,rfl,HA,r0,⟨mc2,rfl⟩⟩:=hcut;obtain⟨s0,rfl,H⟩:=kz kq HA;clear HA;simp only[spec_CommonOf.j0]at H;replace H:=qc H;obtain⟨rfl,H⟩|⟨rfl,H⟩:=H
  ·obtain rfl:=sj H;go_wp2;go_ret;exact⟨sd,dr⟩
  ·have H':=qa H;clear H;go_wp2
   go_loopg [0,1] s0 (fun kq t0 v0 w'=>∃(w0:Int) (x0:Int),t0= .int .i64 w0∧v0= .int .i64 x0∧Aside0 (spec_CommonOf.l0 kq w0 x0=some r)∧Aside0 (kq≤s0)∧Drawn0 w w')
   case atStart=>exact⟨(a0),(b0),(sd),(sd),H',⟨Nat.le_refl _⟩,dr⟩
   case round=>
    clear H';obtain⟨w0,x0,rfl,rfl,HA,HK2,⟨m2,rfl⟩⟩:=hrel;obtain⟨k2,rfl,H⟩:=kz gk HA;clear HA;simp only[spec_CommonOf.l0]at H;replace H:=qg H;obtain⟨y0,H⟩|⟨y0,H⟩:=H
    ·by_cases A0:x0=0
     ·rw[if_pos A0]at H;exact absurd H (by simp)
     ·rw[if_neg A0]at H;have B0:(x0==0)=false:=beq_eq_false_iff_ne.mpr A0;have C0:(x0 != 0)=true:=bne_iff_ne.mpr A0;have H':=qa H;clear H;go_wp2
      go_roundg k2
      case measure=>have:=r0.out;have:=HK2.out;omega
      case rel=>exact⟨(x0),(Int.tmod w0 x0),(sd),(sd),H',⟨by have:=r0.out;have:=HK2.out;omega⟩,dr⟩
    ·obtain rfl:=sj H;go_wp2;go_ret;exact⟨sd,dr⟩

def spec_ApartOk.f (k:Nat) (a0:Int) (b0:Int):Option (Bool):=(spec_CommonOf.f k a0 b0).bind fun c0=>(some (c0==1))
theorem spec_ApartOk.mono:∀a0 b0 k,LeO (spec_ApartOk.f k a0 b0) (spec_ApartOk.f (k+1) a0 b0):=by
 intro a0 b0 k;unfold spec_ApartOk.f;have m0:= @spec_CommonOf.mono;exact mz
theorem spec_ApartOk.calls (k:Nat) (a0:Int) (b0:Int) (r:Bool) (w:World) (h:spec_ApartOk.f k a0 b0=some r):
  Calls Tryz.prog 83 #[.int .i64 a0,.int .i64 b0] w fun e w'=>e= .returned (.bool r)∧Drawn0 w w':=by
 have H:=h;unfold spec_ApartOk.f at H;clear h;replace H:=qb H;obtain⟨c0,d0,H⟩:=H;obtain rfl:=sj H
 go_enter Tryz.func83,Tryz.ntmps83
 go_wp2_with(first|(refine gd 7 Tryz.func125 (spec_CommonOf.calls k a0 b0 c0 _ d0.out) fun nd=>?_))
 go_ret;exact⟨sd,dr⟩

mutual
def spec_DivisorsOf.l0:Nat→Int→List Int→Int→Option (List Int)
 |0,_,_,_=>none
 |k+1,a0,b0,c0=>if c0≤a0 then(spec_DivisorsOf.j1 k a0 b0 c0 (decide (a0≤10000)))else(spec_DivisorsOf.j1 k a0 b0 c0 false)
def spec_DivisorsOf.j1:Nat→Int→List Int→Int→Bool→Option (List Int)
 |0,_,_,_,_=>none
 |k+1,a0,b0,c0,d0=>if d0=true then(if c0=0 then(none)else(if(Int.tmod a0 c0)=0 then(if b0.length<17592186044416 then(spec_DivisorsOf.l0 k a0 (b0++[c0]) (wrap64 (c0+1)))else(none))else(spec_DivisorsOf.l0 k a0 b0 (wrap64 (c0+1)))))else(some b0)
end

def spec_DivisorsOf.f (k:Nat) (a0:Int):Option (List Int):=spec_DivisorsOf.l0 k a0 (([]:List Int)) 1
theorem spec_DivisorsOf.mono_l:∀k,(∀a0 b0 c0,LeO (spec_DivisorsOf.l0 k a0 b0 c0) (spec_DivisorsOf.l0 (k+1) a0 b0 c0))∧(∀a0 b0 c0 d0,LeO (spec_DivisorsOf.j1 k a0 b0 c0 d0) (spec_DivisorsOf.j1 (k+1) a0 b0 c0 d0))
 |0=>⟨fun _ _ _ r h=>by simp[spec_DivisorsOf.l0]at h,fun _ _ _ _ r h=>by simp[spec_DivisorsOf.j1]at h⟩
 |k+1=>by
  obtain⟨ih0,ih1⟩:=spec_DivisorsOf.mono_l k;refine⟨?_,?_⟩
  ·intro a0 b0 c0;unfold spec_DivisorsOf.l0;exact mz
  ·intro a0 b0 c0 d0;unfold spec_DivisorsOf.j1;exact mz
theorem spec_DivisorsOf.mono:∀a0 k,LeO (spec_DivisorsOf.f k a0) (spec_DivisorsOf.f (k+1) a0):=by
 intro a0 k;obtain⟨ih0,ih1⟩:=spec_DivisorsOf.mono_l k;unfold spec_DivisorsOf.f;exact mz
theorem spec_DivisorsOf.calls (k:Nat) (a0:Int) (r:List Int) (w:World) (h:spec_DivisorsOf.f k a0=some r):
  Calls Tryz.prog 86 #[.int .i64 a0] w fun e w'=>∃v0_:Value,e= .returned (v0_)∧Kd.R (Kd.int .i64) 3 w' w.heap.size (fun _=>True) v0_ r∧Below w.heap.size w w':=by
 have HB:=qa (Below.refl w.heap.size w);have H:=h;unfold spec_DivisorsOf.f at H;clear h;obtain⟨b0,hy_⟩:∃y_:List Int,y_=(([]:List Int)):=⟨_,rfl⟩;replace H:(spec_DivisorsOf.l0 k a0 b0 1)=some r:=yh;have c0:=qa hy_;clear hy_;have H':=qa H;clear H
 go_enter Tryz.func86,Tryz.ntmps86
 go_wp2_with(first|(refine rli .i64 3 5 c0.out fun d0 e0 g0 hb=>?_;have j0:=qa (Kd.R_lower g0 (below_size (bl)));replace HB:=bs hb;clear hb g0))
 go_loopg [3,4] k (fun kq n0 p0 w'=>∃(q0:List Int) (r0:Int),p0= .int .i64 r0∧Aside0 (spec_DivisorsOf.l0 kq a0 q0 r0=some r)∧Aside0 (kq≤k)∧Aside0 (Kd.R (Kd.int .i64) 3 w' w.heap.size (fun _=>True) n0 q0)∧Aside0 (Below w.heap.size w w'))
 case atStart=>exact⟨(b0),(1),(sd),H',⟨Nat.le_refl _⟩,⟨kR j0⟩,⟨bl⟩⟩
 case round=>
  clear H';obtain⟨q0,r0,rfl,HA,HK1,s0,HB⟩:=hrel;obtain⟨k1,rfl,H⟩:=kz gk HA;clear HA;simp only[spec_DivisorsOf.l0]at H;have t0:=qa H;clear H
  go_upto_region 3 with(fail)
  go_cut [12] (fun v0 wc=>∃(kq:Nat) (w0:Bool),v0= .bool w0∧Aside0 (spec_DivisorsOf.j1 kq a0 q0 r0 w0=some r)∧Aside0 (kq≤k1)∧Aside0 (Kd.R (Kd.int .i64) 3 wc w.heap.size (fun _=>True) u3 q0)∧Aside0 (Below w.heap.size w wc))
  case first=>
   have H:=t0.out;clear t0;replace H:=qe H;obtain⟨x0,H⟩|⟨x0,H⟩:=H
   ·(first|rw[x0]|(simp only[i64_w,i32_w];rw[x0])|skip);have H':=qa H;clear H;go_wp2;go_meet
    case rel=>exact⟨_,(decide (a0≤10000)),(sd),H',⟨z23_⟩,⟨kR s0⟩,⟨bl⟩⟩
   ·(first|rw[x0]|(simp only[i64_w,i32_w];rw[x0])|skip);have H':=qa H;clear H;go_wp2;go_meet
    case rel=>exact⟨_,(false),(sd),H',⟨z23_⟩,⟨kR s0⟩,⟨bl⟩⟩
  case rest=>
   clear t0;obtain⟨kq,w0,rfl,HA,y0,s0,HB⟩:=hcut;obtain⟨A0,rfl,H⟩:=kz kq HA;clear HA;simp only[spec_DivisorsOf.j1]at H;replace H:=qc H;obtain⟨rfl,H⟩|⟨rfl,H⟩:=H
   ·by_cases B0:r0=0
    ·rw[if_pos B0]at H;exact absurd H (by simp)
    ·rw[if_neg B0]at H;have C0:(r0==0)=false:=beq_eq_false_iff_ne.mpr B0;have D0:(r0 != 0)=true:=bne_iff_ne.mpr B0;replace H:=qq H;obtain⟨E0,G0,H⟩|⟨J0,E0,G0,H⟩:=H
     ·replace H:=qn H;obtain⟨K0,H⟩:=H;have L0:=qa K0;clear K0;obtain⟨M0,hy_⟩:∃y_:List Int,y_=(q0++[r0]):=⟨_,rfl⟩;replace H:(spec_DivisorsOf.l0 A0 a0 M0 (wrap64 (r0+1)))=some r:=yh;have N0:=qa hy_;clear hy_;have H':=qa H;clear H
      go_wp2_with(first|((with_reducible refine gate_builtin (b:= .append) (xs:=#[.tmp 19,.tmp 21]) rfl ?_);at_builtin;refine Kd.R_append (Kd.int .i64) (w0:=w) w.heap.size rfl (.tmp 19) (.tmp 21) 22 3 (.int .i64 0) 8 rfl Tryz.underlying22 info3 rfl kd_ ko_ u3 q0 r0 [.int .i64 r0] (fun _=>True) (fun _=>False) rfl rfl ?aP (fun _ hk=>hk.elim) ?aF ?aO ?aB ?aS ?aL ?_;(case aP=>exact rfl);(case aB=>exact(bl));(case aF=>exact(fun _ _=>trivial));(case aO=>exact(kR s0));(case aS=>exact(below_size (bl)));(case aL=>have:=L0.out;omega);intro P0 Q0 ho hb hg hat;rw[←N0.out]at ho;replace HB:=qa (hb);have R0:=qa (ho);clear s0;clear ho hb hg hat))
      go_roundg A0
      case measure=>have:=HK1.out;have:=y0.out;omega
      case rel=>exact⟨(M0),(wrap64 (r0+1)),(sd),H',⟨by have:=HK1.out;have:=y0.out;omega⟩,⟨kR R0⟩,⟨bl⟩⟩
     ·have H':=qa H;clear H;go_wp2
      go_roundg A0
      case measure=>have:=HK1.out;have:=y0.out;omega
      case rel=>exact⟨(q0),(wrap64 (r0+1)),(sd),H',⟨by have:=HK1.out;have:=y0.out;omega⟩,⟨kR s0⟩,⟨bl⟩⟩
   ·obtain rfl:=sj H;go_wp2;go_ret;exact⟨_,z1_,kR s0,bl⟩

mutual
def spec_FactorsOf.l0:Nat→Int→List (List Int)→Int→Int→Option ((List (List Int)))
 |0,_,_,_,_=>none
 |k+1,a0,b0,c0,d0=>if d0≤c0 then((spec_l1In.f a0 1 10000).bind fun e0=>(spec_FactorsOf.j1 k a0 b0 c0 d0 e0))else(spec_FactorsOf.j1 k a0 b0 c0 d0 false)
def spec_FactorsOf.j1:Nat→Int→List (List Int)→Int→Int→Bool→Option ((List (List Int)))
 |0,_,_,_,_,_=>none
 |k+1,a0,b0,c0,d0,g0=>if g0=true then(spec_FactorsOf.l1 k a0 b0 c0 d0 0)else(some b0)
def spec_FactorsOf.l1:Nat→Int→List (List Int)→Int→Int→Int→Option ((List (List Int)))
 |0,_,_,_,_,_=>none
 |k+1,a0,b0,c0,d0,j0=>if d0=0 then(none)else(if(Int.tmod c0 d0)=0 then(spec_FactorsOf.l1 k a0 b0 (wrap64 (Int.tdiv c0 d0)) d0 (wrap64 (j0+1)))else(if j0>0 then(if b0.length<5864062014805 then(spec_FactorsOf.l0 k a0 (b0++[(([d0,j0]:List Int))]) c0 (wrap64 (d0+1)))else(none))else(spec_FactorsOf.l0 k a0 b0 c0 (wrap64 (d0+1)))))
end

def spec_FactorsOf.f (k:Nat) (a0:Int):Option ((List (List Int))):=spec_FactorsOf.l0 k a0 (([]:List (List Int))) a0 2
theorem spec_FactorsOf.mono_l:∀k,(∀a0 b0 c0 d0,LeO (spec_FactorsOf.l0 k a0 b0 c0 d0) (spec_FactorsOf.l0 (k+1) a0 b0 c0 d0))∧(∀a0 b0 c0 d0 e0,LeO (spec_FactorsOf.j1 k a0 b0 c0 d0 e0) (spec_FactorsOf.j1 (k+1) a0 b0 c0 d0 e0))∧(∀a0 b0 c0 d0 e0,LeO (spec_FactorsOf.l1 k a0 b0 c0 d0 e0) (spec_FactorsOf.l1 (k+1) a0 b0 c0 d0 e0))
 |0=>⟨fun _ _ _ _ r h=>by simp[spec_FactorsOf.l0]at h,fun _ _ _ _ _ r h=>by simp[spec_FactorsOf.j1]at h,fun _ _ _ _ _ r h=>by simp[spec_FactorsOf.l1]at h⟩
 |k+1=>by
  obtain⟨ih0,ih1,ih2⟩:=spec_FactorsOf.mono_l k;refine⟨?_,?_,?_⟩
  ·intro a0 b0 c0 d0;unfold spec_FactorsOf.l0;exact mz
  ·intro a0 b0 c0 d0 e0;unfold spec_FactorsOf.j1;exact mz
  ·intro a0 b0 c0 d0 e0;unfold spec_FactorsOf.l1;exact mz
theorem spec_FactorsOf.mono:∀a0 k,LeO (spec_FactorsOf.f k a0) (spec_FactorsOf.f (k+1) a0):=by
 intro a0 k;obtain⟨ih0,ih1,ih2⟩:=spec_FactorsOf.mono_l k;unfold spec_FactorsOf.f;exact mz
theorem spec_FactorsOf.calls (k:Nat) (a0:Int) (r:List (List Int)) (w:World) (h:spec_FactorsOf.f k a0=some r):
  Calls Tryz.prog 126 #[.int .i64 a0] w fun e w'=>∃v0_:Value,e= .returned (v0_)∧Kd.S (Kd.slice 3 (Kd.int .i64)) 22 w' w.heap.size (fun _=>True) v0_ r∧Below w.heap.size w w':=by
 have HB:=qa (Below.refl w.heap.size w);have H:=h;unfold spec_FactorsOf.f at H;clear h;obtain⟨b0,hy_⟩:∃y_:List (List Int),y_=(([]:List (List Int))):=⟨_,rfl⟩;replace H:(spec_FactorsOf.l0 k a0 b0 a0 2)=some r:=yh;have c0:=qa hy_;clear hy_;have H':=qa H;clear H
 go_enter Tryz.func126,Tryz.ntmps126
 go_wp2_with(first|((with_reducible refine gate_dst (N:=7) rfl ?_);refine Kd.S_lit (Kd.slice 3 (Kd.int .i64)) _ 22 ?hg (N:=7) ?hd (xs:=([]:List (List Int))) (inner:=[]) (ok:=fun _=>True) (okp:=fun _=>True) ?hr ?hp (fun _ hk=>hk) trivial (Below.refl _ _) (Nat.le_refl _) (by simp) ?_;(case hd=>rfl);(case hg=>rfl);(case hr=>exact gr);(case hp=>exact(Reps.none _ _));intro d0 e0 g0 hb hg_ hnew_;clear hg_ hnew_;(first|rw[←c0.out]at g0|(simp only[Int.reduceToNat]at g0;rw[←c0.out]at g0));have j0:=qa (Kd.S_lower g0 (below_size (bl)));replace HB:=bs hb;clear hb g0))
 go_loopg [3,4,5] k (fun kq n0 p0 q0 w'=>∃(r0:List (List Int)) (s0:Int) (t0:Int),p0= .int .i64 s0∧q0= .int .i64 t0∧Aside0 (spec_FactorsOf.l0 kq a0 r0 s0 t0=some r)∧Aside0 (kq≤k)∧Aside0 (Kd.S (Kd.slice 3 (Kd.int .i64)) 22 w' w.heap.size (fun _=>True) n0 r0)∧Aside0 (Below w.heap.size w w'))
 case atStart=>exact⟨(b0),(a0),(2),(sd),(sd),H',⟨Nat.le_refl _⟩,⟨kS j0⟩,⟨bl⟩⟩
 case round=>
  clear H';obtain⟨r0,s0,t0,rfl,rfl,HA,HK1,v0,HB⟩:=hrel;obtain⟨k1,rfl,H⟩:=kz gk HA;clear HA;simp only[spec_FactorsOf.l0]at H;have w0:=qa H;clear H
  go_upto_region 4 with(fail)
  go_cut [15] (fun x0 wc=>∃(kq:Nat) (y0:Bool),x0= .bool y0∧Aside0 (spec_FactorsOf.j1 kq a0 r0 s0 t0 y0=some r)∧Aside0 (kq≤k1)∧Aside0 (Kd.S (Kd.slice 3 (Kd.int .i64)) 22 wc w.heap.size (fun _=>True) u3 r0)∧Aside0 (Below w.heap.size w wc))
  case first=>
   have H:=w0.out;clear w0;replace H:=qe H;obtain⟨A0,H⟩|⟨A0,H⟩:=H
   ·(first|rw[A0]|(simp only[i64_w,i32_w];rw[A0])|skip);replace H:=qb H;obtain⟨B0,C0,H⟩:=H;have H':=qa H;clear H
    go_wp2_with(first|(go_at_call 84;(with_reducible refine gm (spec_l1In.calls a0 1 10000 B0 _ C0.out) fun nd=>?_)))
    go_meet
    case rel=>exact⟨_,(B0),(sd),H',⟨z23_⟩,⟨kS v0⟩,⟨bl⟩⟩
   ·(first|rw[A0]|(simp only[i64_w,i32_w];rw[A0])|skip);have H':=qa H;clear H;go_wp2;go_meet
    case rel=>exact⟨_,(false),(sd),H',⟨z23_⟩,⟨kS v0⟩,⟨bl⟩⟩
  case rest=>
   clear w0;obtain⟨kq,y0,rfl,HA,D0,v0,HB⟩:=hcut;obtain⟨E0,rfl,H⟩:=kz kq HA;clear HA;simp only[spec_FactorsOf.j1]at H;replace H:=qc H;obtain⟨rfl,H⟩|⟨rfl,H⟩:=H
   ·have H':=qa H;clear H;go_wp2
    go_loopg [4,6] E0 (fun kq p0 G0 w'=>∃(J0:Int) (K0:Int),p0= .int .i64 J0∧G0= .int .i64 K0∧Aside0 (spec_FactorsOf.l1 kq a0 r0 J0 t0 K0=some r)∧Aside0 (kq≤E0)∧Aside0 (Kd.S (Kd.slice 3 (Kd.int .i64)) 22 w' w.heap.size (fun _=>True) u3 r0)∧Aside0 (Below w.heap.size w w'))
    case atStart=>exact⟨(s0),(0),(sd),(sd),H',⟨Nat.le_refl _⟩,⟨kS v0⟩,⟨bl⟩⟩
    case round=>
     clear H';obtain⟨J0,K0,rfl,rfl,HA,HK3,v0,HB⟩:=hrel;obtain⟨k3,rfl,H⟩:=kz gk HA;clear HA;simp only[spec_FactorsOf.l1]at H
     by_cases L0:t0=0
     ·rw[if_pos L0]at H;exact absurd H (by simp)
     ·rw[if_neg L0]at H;have M0:(t0==0)=false:=beq_eq_false_iff_ne.mpr L0;have N0:(t0 != 0)=true:=bne_iff_ne.mpr L0;replace H:=qq H;obtain⟨P0,Q0,H⟩|⟨R0,P0,Q0,H⟩:=H
      ·have H':=qa H;clear H;go_wp2
       go_roundg k3
       case measure=>have:=HK1.out;have:=D0.out;have:=HK3.out;omega
       case rel=>exact⟨(wrap64 (Int.tdiv J0 t0)),(wrap64 (K0+1)),(sd),(sd),H',⟨by have:=HK1.out;have:=D0.out;have:=HK3.out;omega⟩,⟨kS v0⟩,⟨bl⟩⟩
      ·replace H:=qg H;obtain⟨U0,H⟩|⟨U0,H⟩:=H
       ·obtain⟨V0,hy_⟩:∃y_:List Int,y_=(([t0,K0]:List Int)):=⟨_,rfl⟩;replace H:(if r0.length<5864062014805 then(spec_FactorsOf.l0 k3 a0 (r0++[V0]) J0 (wrap64 (t0+1)))else(none))=some r:=yh;have W0:=qa hy_;clear hy_;replace H:=qn H;obtain⟨X0,H⟩:=H;have Y0:=qa X0;clear X0;obtain⟨a1,hy_⟩:∃y_:List (List Int),y_=(r0++[V0]):=⟨_,rfl⟩;replace H:(spec_FactorsOf.l0 k3 a0 a1 J0 (wrap64 (t0+1)))=some r:=yh;have b1:=qa hy_;clear hy_;have H':=qa H;clear H
        go_wp2_with(first|(refine rli .i64 3 32 W0.out fun c1 d1 e1 hb=>?_;replace v0:=qa (Kd.S_elder' (kS v0) (Kd.R_base e1) hb);have g1:=qa (Kd.R_lower e1 (below_size (bl)));replace HB:=bs hb;clear hb e1;obtain⟨n1,p1,rfl⟩:=Kd.R_slice g1.out)|((with_reducible refine gate_builtin (b:= .append) (xs:=#[.tmp 29,.tmp 33]) rfl ?_);at_builtin;refine Kd.S_append (Kd.slice 3 (Kd.int .i64)) (w0:=w) w.heap.size rfl (.tmp 29) (.tmp 33) 23 22 (.slice none 0 0) 24 rfl Tryz.underlying23 info22 rfl kd_ ko_ u3 r0 V0 [.slice n1 V0.length p1] (fun _=>True) (fun k_=>some k_=(.slice n1 V0.length p1:Value).ownBlock) rfl rfl ?aP (fun k_ hk_=>((Kd.R_mono (ok':=fun k_=>((fun _=>True)) k_∧some k_≠(u3:Value).ownBlock) (Kd.R_apart' (g1.out) (Kd.S_typed v0.out) kd_) (fun k_ hk=>⟨trivial,hk.2⟩))).1 k_ hk_.symm) ?aF ?aO ?aB ?aS ?aL ?_;(case aP=>exact Kd.M_row (Kd.R_mono (Kd.R_tight rfl (Kd.R_mono (ok':=fun k_=>((fun _=>True)) k_∧some k_≠(u3:Value).ownBlock) (Kd.R_apart' (g1.out) (Kd.S_typed v0.out) kd_) (fun k_ hk=>⟨trivial,hk.2⟩))) (fun _ h_=>h_)));(case aB=>exact(bl));(case aF=>exact(fun _ _=>trivial));(case aO=>exact z39_);(case aS=>exact(below_size (bl)));(case aL=>have:=Y0.out;omega);intro q1 r1 ho hb hg hat;rw[←b1.out]at ho;replace HB:=qa (hb);have s1:=qa (ho);clear v0 g1;clear ho hb hg hat))
        go_roundg k3
        case measure=>have:=HK1.out;have:=D0.out;have:=HK3.out;omega
        case rel=>exact⟨(a1),(J0),(wrap64 (t0+1)),(sd),(sd),H',⟨by have:=HK1.out;have:=D0.out;have:=HK3.out;omega⟩,⟨kS s1⟩,⟨bl⟩⟩
       ·have H':=qa H;clear H;go_wp2
        go_roundg k3
        case measure=>have:=HK1.out;have:=D0.out;have:=HK3.out;omega
        case rel=>exact⟨(r0),(J0),(wrap64 (t0+1)),(sd),(sd),H',⟨by have:=HK1.out;have:=D0.out;have:=HK3.out;omega⟩,⟨kS v0⟩,⟨bl⟩⟩
   ·obtain rfl:=sj H;go_wp2;go_ret;exact⟨_,z1_,kS v0,bl⟩
mutual
def spec_l2Named.l0:Nat→List Int→Int→Int→Option (Int)
 |0,_,_,_=>none
 |k+1,a0,b0,c0=>if c0<(a0.length:Int)then(if 0≤c0 then(spec_l2Named.l0 k a0 (wrap64 (b0+(rd a0 c0))) (wrap64 (c0+1)))else(none))else(some b0)
def spec_l2Named.l1:Nat→Int→Int→Int→Option (Int)
 |0,_,_,_=>none
 |k+1,d0,e0,g0=>if g0≤d0 then((spec_ApartOk.f k g0 d0).bind fun j0=>(if j0=true then(spec_l2Named.l1 k d0 (wrap64 (e0+1)) (wrap64 (g0+1)))else(spec_l2Named.l1 k d0 e0 (wrap64 (g0+1)))))else(some e0)
def spec_l2Named.l2:Nat→Int→List (List Int)→Int→Int→Option (Int)
 |0,_,_,_,_=>none
 |k+1,n0,p0,q0,r0=>if r0<(p0.length:Int)then(if n0=6 then(if 0≤r0 then(if 1<((rd_L1 p0 r0).length :Int)then(spec_l2Named.j3 k n0 p0 q0 r0 (decide ((rd (rd_L1 p0 r0) 1)>1)))else(none))else(none))else(spec_l2Named.j3 k n0 p0 q0 r0 false))else(some q0)
def spec_l2Named.j3:Nat→Int→List (List Int)→Int→Int→Bool→Option (Int)
 |0,_,_,_,_,_=>none
 |k+1,n0,p0,q0,r0,s0=>if s0=true then(some 0)else(if 0≤r0 then(if r0<(p0.length:Int)then(if 1<((rd_L1 p0 r0).length :Int)then(if(Int.tmod (rd (rd_L1 p0 r0) 1) 2)=1 then(spec_l2Named.l2 k n0 p0 (wrap64 (-q0)) (wrap64 (r0+1)))else(spec_l2Named.l2 k n0 p0 q0 (wrap64 (r0+1))))else(none))else(none))else(none))
end

def spec_l2Named.f (k:Nat) (a0:Int) (b0:Int):Option (Int):=(spec_FactorsOf.f k b0).bind fun c0=>((spec_DivisorsOf.f k b0).bind fun d0=>(if a0=0 then(if b0=1 then(some 1)else(some 0))else(if a0=1 then(some 1)else(if a0=2 then(some b0)else(if a0=3 then(some (d0.length:Int))else(if a0=4 then(spec_l2Named.l0 k d0 0 0)else(if a0=5 then(spec_l2Named.l1 k b0 0 1)else(spec_l2Named.l2 k a0 c0 1 0))))))))
theorem spec_l2Named.mono_l:∀k,(∀a0 b0 c0,LeO (spec_l2Named.l0 k a0 b0 c0) (spec_l2Named.l0 (k+1) a0 b0 c0))∧(∀a0 b0 c0,LeO (spec_l2Named.l1 k a0 b0 c0) (spec_l2Named.l1 (k+1) a0 b0 c0))∧(∀a0 b0 c0 d0,LeO (spec_l2Named.l2 k a0 b0 c0 d0) (spec_l2Named.l2 (k+1) a0 b0 c0 d0))∧(∀a0 b0 c0 d0 e0,LeO (spec_l2Named.j3 k a0 b0 c0 d0 e0) (spec_l2Named.j3 (k+1) a0 b0 c0 d0 e0))
 |0=>⟨fun _ _ _ r h=>by simp[spec_l2Named.l0]at h,fun _ _ _ r h=>by simp[spec_l2Named.l1]at h,fun _ _ _ _ r h=>by simp[spec_l2Named.l2]at h,fun _ _ _ _ _ r h=>by simp[spec_l2Named.j3]at h⟩
 |k+1=>by
  obtain⟨ih0,ih1,ih2,ih3⟩:=spec_l2Named.mono_l k;refine⟨?_,?_,?_,?_⟩
  ·intro a0 b0 c0;unfold spec_l2Named.l0;have m0:= @spec_ApartOk.mono;have m1:= @spec_DivisorsOf.mono;have m2:= @spec_FactorsOf.mono;exact mz
  ·intro a0 b0 c0;unfold spec_l2Named.l1;have m0:= @spec_ApartOk.mono;have m1:= @spec_DivisorsOf.mono;have m2:= @spec_FactorsOf.mono;exact mz
  ·intro a0 b0 c0 d0;unfold spec_l2Named.l2;have m0:= @spec_ApartOk.mono;have m1:= @spec_DivisorsOf.mono;have m2:= @spec_FactorsOf.mono;exact mz
  ·intro a0 b0 c0 d0 e0;unfold spec_l2Named.j3;have m0:= @spec_ApartOk.mono;have m1:= @spec_DivisorsOf.mono;have m2:= @spec_FactorsOf.mono;exact mz
theorem spec_l2Named.mono:∀a0 b0 k,LeO (spec_l2Named.f k a0 b0) (spec_l2Named.f (k+1) a0 b0):=by
 intro a0 b0 k;obtain⟨ih0,ih1,ih2,ih3⟩:=spec_l2Named.mono_l k;unfold spec_l2Named.f;have m0:= @spec_ApartOk.mono;have m1:= @spec_DivisorsOf.mono;have m2:= @spec_FactorsOf.mono;exact mz
theorem spec_l2Named.calls (k:Nat) (a0:Int) (b0:Int) (r:Int) (w:World) (h:spec_l2Named.f k a0 b0=some r):
  Calls Tryz.prog 152 #[.int .i64 a0,.int .i64 b0] w fun e w'=>e= .returned (.int .i64 r)∧Below w.heap.size w w':=by
 have HB:=qa (Below.refl w.heap.size w);have H:=h;unfold spec_l2Named.f at H;clear h;replace H:=qb H;obtain⟨c0,d0,H⟩:=H;replace H:=qb H;obtain⟨e0,g0,H⟩:=H;replace H:=qq H;obtain⟨j0,n0,H⟩|⟨p0,j0,n0,H⟩:=H
 ·replace H:=qq H;obtain⟨q0,r0,H⟩|⟨s0,q0,r0,H⟩:=H
  ·obtain rfl:=sj H
   go_enter Tryz.func152,Tryz.ntmps152
   go_wp2_with(first|(refine ge_ 14 Tryz.func126 (spec_FactorsOf.calls k b0 c0 _ d0.out) fun t0 v0 w0 hb=>?_;have x0:=qa (Kd.S_lower w0 (below_size (bl)));replace HB:=bs hb)|(refine ge_ 16 Tryz.func86 (spec_DivisorsOf.calls k b0 e0 _ g0.out) fun y0 A0 w0 hb=>?_;replace x0:=qa (Kd.S_elder' (kS x0) (Kd.R_base w0) hb);have B0:=qa (Kd.R_lower w0 (below_size (bl)));replace HB:=bs hb))
   go_ret;exact⟨z1_,bl⟩
  ·obtain rfl:=sj H
   go_enter Tryz.func152,Tryz.ntmps152
   go_wp2_with(first|(refine ge_ 14 Tryz.func126 (spec_FactorsOf.calls k b0 c0 _ d0.out) fun t0 C0 w0 hb=>?_;have x0:=qa (Kd.S_lower w0 (below_size (bl)));replace HB:=bs hb)|(refine ge_ 16 Tryz.func86 (spec_DivisorsOf.calls k b0 e0 _ g0.out) fun y0 D0 w0 hb=>?_;replace x0:=qa (Kd.S_elder' (kS x0) (Kd.R_base w0) hb);have B0:=qa (Kd.R_lower w0 (below_size (bl)));replace HB:=bs hb))
   go_ret;exact⟨z1_,bl⟩
 ·replace H:=qq H;obtain⟨E0,G0,H⟩|⟨J0,E0,G0,H⟩:=H
  ·obtain rfl:=sj H
   go_enter Tryz.func152,Tryz.ntmps152
   go_wp2_with(first|(refine ge_ 14 Tryz.func126 (spec_FactorsOf.calls k b0 c0 _ d0.out) fun t0 K0 w0 hb=>?_;have x0:=qa (Kd.S_lower w0 (below_size (bl)));replace HB:=bs hb)|(refine ge_ 16 Tryz.func86 (spec_DivisorsOf.calls k b0 e0 _ g0.out) fun y0 L0 w0 hb=>?_;replace x0:=qa (Kd.S_elder' (kS x0) (Kd.R_base w0) hb);have B0:=qa (Kd.R_lower w0 (below_size (bl)));replace HB:=bs hb))
   go_ret;exact⟨z1_,bl⟩
  ·replace H:=qq H;obtain⟨M0,N0,H⟩|⟨P0,M0,N0,H⟩:=H
   ·obtain rfl:=sj H
    go_enter Tryz.func152,Tryz.ntmps152
    go_wp2_with(first|(refine ge_ 14 Tryz.func126 (spec_FactorsOf.calls k b0 c0 _ d0.out) fun t0 Q0 w0 hb=>?_;have x0:=qa (Kd.S_lower w0 (below_size (bl)));replace HB:=bs hb)|(refine ge_ 16 Tryz.func86 (spec_DivisorsOf.calls k b0 e0 _ g0.out) fun y0 R0 w0 hb=>?_;replace x0:=qa (Kd.S_elder' (kS x0) (Kd.R_base w0) hb);have B0:=qa (Kd.R_lower w0 (below_size (bl)));replace HB:=bs hb))
    go_ret;exact⟨z1_,bl⟩
   ·replace H:=qq H;obtain⟨U0,V0,H⟩|⟨W0,U0,V0,H⟩:=H
    ·obtain rfl:=sj H
     go_enter Tryz.func152,Tryz.ntmps152
     go_wp2_with(first|(refine ge_ 14 Tryz.func126 (spec_FactorsOf.calls k b0 c0 _ d0.out) fun t0 X0 w0 hb=>?_;have x0:=qa (Kd.S_lower w0 (below_size (bl)));replace HB:=bs hb)|(refine ge_ 16 Tryz.func86 (spec_DivisorsOf.calls k b0 e0 _ g0.out) fun y0 Y0 w0 hb=>?_;replace x0:=qa (Kd.S_elder' (kS x0) (Kd.R_base w0) hb);have B0:=qa (Kd.R_lower w0 (below_size (bl)));replace HB:=bs hb;obtain⟨a1,b1,rfl⟩:=Kd.R_slice B0.out))
     go_ret;exact⟨z1_,bl⟩
    ·replace H:=qq H;obtain⟨c1,d1,H⟩|⟨e1,c1,d1,H⟩:=H
     ·have H':=qa H;clear H
      go_enter Tryz.func152,Tryz.ntmps152
      go_wp2_with(first|(refine ge_ 14 Tryz.func126 (spec_FactorsOf.calls k b0 c0 _ d0.out) fun t0 g1 w0 hb=>?_;have x0:=qa (Kd.S_lower w0 (below_size (bl)));replace HB:=bs hb)|(refine ge_ 16 Tryz.func86 (spec_DivisorsOf.calls k b0 e0 _ g0.out) fun y0 j1 w0 hb=>?_;replace x0:=qa (Kd.S_elder' (kS x0) (Kd.R_base w0) hb);have B0:=qa (Kd.R_lower w0 (below_size (bl)));replace HB:=bs hb))
      go_loopg [7,8] k (fun kq n1 p1 w'=>∃(q1:Int) (r1:Int),n1= .int .i64 q1∧p1= .int .i64 r1∧Aside0 (spec_l2Named.l0 kq e0 q1 r1=some r)∧Aside0 (kq≤k)∧Aside0 (Kd.R (Kd.int .i64) 3 w' w.heap.size (fun _=>True) y0 e0)∧Aside0 (Below w.heap.size w w'))
      case atStart=>exact⟨(0),(0),(sd),(sd),H',⟨Nat.le_refl _⟩,⟨kR B0⟩,⟨bl⟩⟩
      case round=>
       clear H';obtain⟨q1,r1,rfl,rfl,HA,HK1,s1,HB⟩:=hrel;obtain⟨k1,rfl,H⟩:=kz gk HA;clear HA;simp only[spec_l2Named.l0]at H;replace H:=qe H;obtain⟨t1,H⟩|⟨t1,H⟩:=H
       ·replace H:=qd H;obtain⟨v1,H⟩:=H;have H':=qa H;clear H;obtain⟨w1,x1,rfl⟩:=Kd.R_slice s1.out;obtain⟨y1,⟨⟩,A1,B1,C1⟩:=ai (Kd.R_reads' s1.out).2.2 r1;go_wp2
        go_roundg k1
        case measure=>have:=HK1.out;omega
        case rel=>exact⟨(wrap64 (q1+(rd e0 r1))),(wrap64 (r1+1)),(sd),(sd),H',⟨by have:=HK1.out;omega⟩,⟨kR s1⟩,⟨bl⟩⟩
       ·obtain rfl:=sj H;obtain⟨D1,E1,rfl⟩:=Kd.R_slice s1.out;go_wp2;go_ret;exact⟨z1_,bl⟩
     ·replace H:=qq H;obtain⟨G1,J1,H⟩|⟨K1,G1,J1,H⟩:=H
      ·have H':=qa H;clear H
       go_enter Tryz.func152,Tryz.ntmps152
       go_wp2_with(first|(refine ge_ 14 Tryz.func126 (spec_FactorsOf.calls k b0 c0 _ d0.out) fun t0 L1 w0 hb=>?_;have x0:=qa (Kd.S_lower w0 (below_size (bl)));replace HB:=bs hb)|(refine ge_ 16 Tryz.func86 (spec_DivisorsOf.calls k b0 e0 _ g0.out) fun y0 M1 w0 hb=>?_;replace x0:=qa (Kd.S_elder' (kS x0) (Kd.R_base w0) hb);have B0:=qa (Kd.R_lower w0 (below_size (bl)));replace HB:=bs hb))
       go_loopg [9,10] k (fun kq N1 P1 w'=>∃(Q1:Int) (R1:Int),N1= .int .i64 Q1∧P1= .int .i64 R1∧Aside0 (spec_l2Named.l1 kq b0 Q1 R1=some r)∧Aside0 (kq≤k)∧Aside0 (Below w.heap.size w w'))
       case atStart=>exact⟨(0),(1),(sd),(sd),H',⟨Nat.le_refl _⟩,⟨bl⟩⟩
       case round=>
        clear H';obtain⟨Q1,R1,rfl,rfl,HA,HK1,HB⟩:=hrel;obtain⟨k1,rfl,H⟩:=kz gk HA;clear HA;simp only[spec_l2Named.l1]at H;replace H:=qe H;obtain⟨U1,H⟩|⟨U1,H⟩:=H
        ·replace H:=qb H;obtain⟨V1,W1,H⟩:=H;replace H:=qc H;obtain⟨rfl,H⟩|⟨rfl,H⟩:=H
         ·have H':=qa H;clear H
          go_wp2_with(first|(refine gd 55 Tryz.func83 (spec_ApartOk.calls k1 R1 b0 true _ W1.out) fun nd=>?_))
          go_roundg k1
          case measure=>have:=HK1.out;omega
          case rel=>exact⟨(wrap64 (Q1+1)),(wrap64 (R1+1)),(sd),(sd),H',⟨by have:=HK1.out;omega⟩,⟨bl⟩⟩
         ·have H':=qa H;clear H
          go_wp2_with(first|(refine gd 55 Tryz.func83 (spec_ApartOk.calls k1 R1 b0 false _ W1.out) fun nd=>?_))
          go_roundg k1
          case measure=>have:=HK1.out;omega
          case rel=>exact⟨(Q1),(wrap64 (R1+1)),(sd),(sd),H',⟨by have:=HK1.out;omega⟩,⟨bl⟩⟩
        ·obtain rfl:=sj H;go_wp2;go_ret;exact⟨z1_,bl⟩
      ·have H':=qa H;clear H
       go_enter Tryz.func152,Tryz.ntmps152
       go_wp2_with(first|(refine ge_ 14 Tryz.func126 (spec_FactorsOf.calls k b0 c0 _ d0.out) fun t0 X1 w0 hb=>?_;have x0:=qa (Kd.S_lower w0 (below_size (bl)));replace HB:=bs hb)|(refine ge_ 16 Tryz.func86 (spec_DivisorsOf.calls k b0 e0 _ g0.out) fun y0 Y1 w0 hb=>?_;replace x0:=qa (Kd.S_elder' (kS x0) (Kd.R_base w0) hb);have B0:=qa (Kd.R_lower w0 (below_size (bl)));replace HB:=bs hb))
       go_loopg [11,12] k (fun kq a2 b2 w'=>∃(c2:Int) (d2:Int),a2= .int .i64 c2∧b2= .int .i64 d2∧Aside0 (spec_l2Named.l2 kq a0 c0 c2 d2=some r)∧Aside0 (kq≤k)∧Aside0 (Kd.S (Kd.slice 3 (Kd.int .i64)) 22 w' w.heap.size (fun _=>True) t0 c0)∧Aside0 (Below w.heap.size w w'))
       case atStart=>exact⟨(1),(0),(sd),(sd),H',⟨Nat.le_refl _⟩,⟨by(with_reducible repeat(first|apply Kd.S_alloc|apply Kd.S_drewN|apply Kd.S_drew));exact Kd.S_mono x0.out (fun _ hk=>trivial)⟩,⟨bl⟩⟩
       case round=>
        clear H';obtain⟨c2,d2,rfl,rfl,HA,HK1,e2,HB⟩:=hrel;obtain⟨k1,rfl,H⟩:=kz gk HA;clear HA;simp only[spec_l2Named.l2]at H;replace H:=qe H;obtain⟨g2,H⟩|⟨g2,H⟩:=H
        ·have j2:=qa H;clear H;obtain⟨n2,p2,rfl⟩:=Kd.S_slice e2.out
         go_upto_region 33 with(fail)
         go_cut [75] (fun q2 wc=>∃(kq:Nat) (r2:Bool),q2= .bool r2∧Aside0 (spec_l2Named.j3 kq a0 c0 c2 d2 r2=some r)∧Aside0 (kq≤k1)∧Aside0 (Kd.S (Kd.slice 3 (Kd.int .i64)) 22 wc w.heap.size (fun _=>True) (.slice n2 c0.length p2) c0)∧Aside0 (Below w.heap.size w wc))
         case first=>
          have H:=j2.out;clear j2;replace H:=qq H;obtain⟨s2,t2,H⟩|⟨v2,s2,t2,H⟩:=H
          ·(first|rw[s2]|(simp only[i64_w,i32_w];rw[s2])|skip);replace H:=qd H;obtain⟨w2,H⟩:=H;replace H:=qL 1 H;obtain⟨x2,y2,H⟩:=H;have H':=qa H;clear H;obtain⟨A2,B2,C2,⟨⟩,D2,HL697_0,E2,G2,J2,K2⟩:=sg_L1 e2.out d2;have L2:0≤(1:Int):=ko_;have M2:1<((rd_L1 c0 d2).length :Int):=qo;obtain⟨N2,P2,Q2⟩:=Kd.at_int (by repeat(first|(with_reducible exact E2.out)|(with_reducible refine Kd.C_alloc ?_ _)|(with_reducible refine Kd.C_drewN ?_ _)|(with_reducible refine Kd.C_drew ?_)|exact E2.out)) 1 L2 M2;cases P2;(try simp only[show(1:Int).toNat =1 from rfl,Nat.reduceMul,Nat.reduceEqDiff,Go.Addr.add,↓reduceIte]at Q2);have qi698:(1<(rd_L1 c0 d2).length)=True:=eq_true ko_;(try rw[show((1:Int)).toNat =1 from rfl]at Q2);replace L2:=eq_true L2;replace M2:=eq_true M2;go_wp2;go_meet
           case rel=>exact⟨_,(decide ((rd (rd_L1 c0 d2) 1)>1)),(sd),H',⟨z23_⟩,⟨kS e2⟩,⟨bl⟩⟩
          ·(first|rw[s2]|(simp only[i64_w,i32_w];rw[s2])|skip);have H':=qa H;clear H;go_wp2;go_meet
           case rel=>exact⟨_,(false),(sd),H',⟨z23_⟩,⟨kS e2⟩,⟨bl⟩⟩
         case rest=>
          clear j2;obtain⟨kq,r2,rfl,HA,R2,e2,HB⟩:=hcut;obtain⟨U2,rfl,H⟩:=kz kq HA;clear HA;simp only[spec_l2Named.j3]at H;replace H:=qc H;obtain⟨rfl,H⟩|⟨rfl,H⟩:=H
          ·obtain rfl:=sj H;go_wp2;go_ret;exact⟨z1_,bl⟩
          ·replace H:=qd H;obtain⟨V2,H⟩:=H;replace H:=qd H;obtain⟨W2,H⟩:=H;replace H:=qL 1 H;obtain⟨X2,Y2,H⟩:=H;replace H:=qq H;obtain⟨a3,b3,H⟩|⟨c3,a3,b3,H⟩:=H
           ·have H':=qa H;clear H;obtain⟨d3,e3,g3,⟨⟩,l3,HL699_0,n3,p3,q3,r3⟩:=sg_L1 e2.out d2;have s3:0≤(1:Int):=ko_;have t3:1<((rd_L1 c0 d2).length :Int):=qo;obtain⟨v3,w3,x3⟩:=Kd.at_int z33_ 1 s3 t3;cases w3;(try simp only[show(1:Int).toNat =1 from rfl,Nat.reduceMul,Nat.reduceEqDiff,Go.Addr.add,↓reduceIte]at x3);have qi700:(1<(rd_L1 c0 d2).length)=True:=eq_true ko_;(try rw[show((1:Int)).toNat =1 from rfl]at x3);replace s3:=eq_true s3;replace t3:=eq_true t3;go_wp2
            go_roundg U2
            case measure=>have:=HK1.out;have:=R2.out;omega
            case rel=>exact⟨(wrap64 (-c2)),(wrap64 (d2+1)),(sd),(sd),H',⟨by have:=HK1.out;have:=R2.out;omega⟩,⟨kS e2⟩,⟨bl⟩⟩
           ·have H':=qa H;clear H;obtain⟨d3,e3,g3,⟨⟩,l3,HL699_0,n3,p3,q3,r3⟩:=sg_L1 e2.out d2;have s3:0≤(1:Int):=ko_;have t3:1<((rd_L1 c0 d2).length :Int):=qo;obtain⟨v3,w3,x3⟩:=Kd.at_int z33_ 1 s3 t3;cases w3;(try simp only[show(1:Int).toNat =1 from rfl,Nat.reduceMul,Nat.reduceEqDiff,Go.Addr.add,↓reduceIte]at x3);have qi700:(1<(rd_L1 c0 d2).length)=True:=eq_true ko_;(try rw[show((1:Int)).toNat =1 from rfl]at x3);replace s3:=eq_true s3;replace t3:=eq_true t3;go_wp2
            go_roundg U2
            case measure=>have:=HK1.out;have:=R2.out;omega
            case rel=>exact⟨(c2),(wrap64 (d2+1)),(sd),(sd),H',⟨by have:=HK1.out;have:=R2.out;omega⟩,⟨kS e2⟩,⟨bl⟩⟩
        ·obtain rfl:=sj H;obtain⟨y3,A3,rfl⟩:=Kd.S_slice e2.out;go_wp2;go_ret;exact⟨z1_,bl⟩

def spec_NamedRow.l0:Nat→Int→List Int→Int→Option (List Int)
 |0,_,_,_=>none
 |k+1,a0,b0,c0=>if c0≤24 then((spec_l1In.f a0 0 7).bind fun d0=>(if d0=true then((spec_l2Named.f k a0 c0).bind fun e0=>(if b0.length<17592186044416 then(spec_NamedRow.l0 k a0 (b0++[e0]) (wrap64 (c0+1)))else(none)))else(some b0)))else(some b0)
def spec_NamedRow.f (k:Nat) (a0:Int):Option (List Int):=spec_NamedRow.l0 k a0 (([]:List Int)) 1
theorem spec_NamedRow.mono_l:∀k,(∀a0 b0 c0,LeO (spec_NamedRow.l0 k a0 b0 c0) (spec_NamedRow.l0 (k+1) a0 b0 c0))
 |0=>fun _ _ _ r h=>by simp[spec_NamedRow.l0]at h
 |k+1=>by
  have ih0:=spec_NamedRow.mono_l k
  ·intro a0 b0 c0;unfold spec_NamedRow.l0;have m0:= @spec_l2Named.mono;exact mz
theorem spec_NamedRow.mono:∀a0 k,LeO (spec_NamedRow.f k a0) (spec_NamedRow.f (k+1) a0):=by
 intro a0 k;have ih0:=spec_NamedRow.mono_l k;unfold spec_NamedRow.f;have m0:= @spec_l2Named.mono;exact mz
theorem spec_NamedRow.calls (k:Nat) (a0:Int) (r:List Int) (w:World) (h:spec_NamedRow.f k a0=some r):
  Calls Tryz.prog 122 #[.int .i64 a0] w fun e w'=>∃v0_:Value,e= .returned (v0_)∧Kd.R (Kd.int .i64) 3 w' w.heap.size (fun _=>True) v0_ r∧Below w.heap.size w w':=by
 have HB:=qa (Below.refl w.heap.size w);have H:=h;unfold spec_NamedRow.f at H;clear h;obtain⟨b0,hy_⟩:∃y_:List Int,y_=(([]:List Int)):=⟨_,rfl⟩;replace H:(spec_NamedRow.l0 k a0 b0 1)=some r:=yh;have c0:=qa hy_;clear hy_;have H':=qa H;clear H
 go_enter Tryz.func122,Tryz.ntmps122
 go_wp2_with(first|(refine rli .i64 3 5 c0.out fun d0 e0 g0 hb=>?_;have j0:=qa (Kd.R_lower g0 (below_size (bl)));replace HB:=bs hb;clear hb g0))
 go_loopg [3,4] k (fun kq n0 p0 w'=>∃(q0:List Int) (r0:Int),p0= .int .i64 r0∧Aside0 (spec_NamedRow.l0 kq a0 q0 r0=some r)∧Aside0 (kq≤k)∧Aside0 (Kd.R (Kd.int .i64) 3 w' w.heap.size (fun _=>True) n0 q0)∧Aside0 (Below w.heap.size w w'))
 case atStart=>exact⟨(b0),(1),(sd),H',⟨Nat.le_refl _⟩,⟨kR j0⟩,⟨bl⟩⟩
 case round=>
  clear H';obtain⟨q0,r0,rfl,HA,HK1,s0,HB⟩:=hrel;obtain⟨k1,rfl,H⟩:=kz gk HA;clear HA;simp only[spec_NamedRow.l0]at H;replace H:=qe H;obtain⟨t0,H⟩|⟨t0,H⟩:=H
  ·replace H:=qb H;obtain⟨v0,w0,H⟩:=H;replace H:=qc H;obtain⟨rfl,H⟩|⟨rfl,H⟩:=H
   ·replace H:=qb H;obtain⟨x0,y0,H⟩:=H;replace H:=qn H;obtain⟨A0,H⟩:=H;have B0:=qa A0;clear A0;obtain⟨C0,hy_⟩:∃y_:List Int,y_=(q0++[x0]):=⟨_,rfl⟩;replace H:(spec_NamedRow.l0 k1 a0 C0 (wrap64 (r0+1)))=some r:=yh;have D0:=qa hy_;clear hy_;have H':=qa H;clear H
    go_wp2_with(first|(go_at_call 84;(with_reducible refine gm (spec_l1In.calls a0 0 7 true _ w0.out) fun nd=>?_))|(refine gb 17 Tryz.func152 (spec_l2Named.calls k1 a0 r0 x0 _ y0.out) fun E0 hb=>?_;replace s0:=qa (Kd.R_below (kR s0) hb);replace HB:=bs hb)|((with_reducible refine gate_builtin (b:= .append) (xs:=#[.tmp 14,.tmp 18]) rfl ?_);at_builtin;refine Kd.R_append (Kd.int .i64) (w0:=w) w.heap.size rfl (.tmp 14) (.tmp 18) 22 3 (.int .i64 0) 8 rfl Tryz.underlying22 info3 rfl kd_ ko_ u3 q0 x0 [.int .i64 x0] (fun _=>True) (fun _=>False) rfl rfl ?aP (fun _ hk=>hk.elim) ?aF ?aO ?aB ?aS ?aL ?_;(case aP=>exact rfl);(case aB=>exact(bl));(case aF=>exact(fun _ _=>trivial));(case aO=>exact(kR s0));(case aS=>exact(below_size (bl)));(case aL=>have:=B0.out;omega);intro G0 J0 ho hb hg hat;rw[←D0.out]at ho;replace HB:=qa (hb);have K0:=qa (ho);clear s0;clear ho hb hg hat))
    go_roundg k1
    case measure=>have:=HK1.out;omega
    case rel=>exact⟨(C0),(wrap64 (r0+1)),(sd),H',⟨by have:=HK1.out;omega⟩,⟨kR K0⟩,⟨bl⟩⟩
   ·obtain rfl:=sj H
    go_wp2_with(first|(go_at_call 84;(with_reducible refine gm (spec_l1In.calls a0 0 7 false _ w0.out) fun nd=>?_)))
    go_ret;exact⟨_,z1_,kR s0,bl⟩
  ·obtain rfl:=sj H;go_wp2;go_ret;exact⟨_,z1_,kR s0,bl⟩
def spec_DividesOk.f (a0:Int) (b0:Int):Option (Bool):=(spec_l1In.f a0 1 10000).bind fun c0=>(if c0=true then((spec_l1In.f b0 1 10000).bind fun d0=>(if d0=true then(if a0=0 then(none)else(some ((Int.tmod b0 a0)==0)))else(some false)))else(some false))
theorem spec_DividesOk.calls (a0:Int) (b0:Int) (r:Bool) (w:World) (h:spec_DividesOk.f a0 b0=some r):
  Calls Tryz.prog 178 #[.int .i64 a0,.int .i64 b0] w fun e w'=>e= .returned (.bool r)∧Drawn0 w w':=by
 have H:=h;unfold spec_DividesOk.f at H;clear h;replace H:=qb H;obtain⟨c0,d0,H⟩:=H;replace H:=qc H;obtain⟨rfl,H⟩|⟨rfl,H⟩:=H
 ·replace H:=qb H;obtain⟨e0,g0,H⟩:=H;replace H:=qc H;obtain⟨rfl,H⟩|⟨rfl,H⟩:=H
  ·by_cases j0:a0=0
   ·rw[if_pos j0]at H;exact absurd H (by simp)
   ·rw[if_neg j0]at H;have l0:(a0==0)=false:=beq_eq_false_iff_ne.mpr j0;have n0:(a0 != 0)=true:=bne_iff_ne.mpr j0;obtain rfl:=sj H
    go_enter Tryz.func178,Tryz.ntmps178
    go_wp2_with(first|(refine gd 6 Tryz.func84 (spec_l1In.calls a0 1 10000 true _ d0.out) fun nd=>?_)|(go_at_call 84;(with_reducible refine gm (spec_l1In.calls b0 1 10000 true _ g0.out) fun nd=>?_)))
    go_ret;exact⟨sd,dr⟩
  ·obtain rfl:=sj H
   go_enter Tryz.func178,Tryz.ntmps178
   go_wp2_with(first|(refine gd 6 Tryz.func84 (spec_l1In.calls a0 1 10000 true _ d0.out) fun nd=>?_)|(go_at_call 84;(with_reducible refine gm (spec_l1In.calls b0 1 10000 false _ g0.out) fun nd=>?_)))
   go_ret;exact⟨sd,dr⟩
 ·obtain rfl:=sj H
  go_enter Tryz.func178,Tryz.ntmps178
  go_wp2_with(first|(refine gd 6 Tryz.func84 (spec_l1In.calls a0 1 10000 false _ d0.out) fun nd=>?_))
  go_ret;exact⟨sd,dr⟩

def spec_UnitaryOk.f (k:Nat) (a0:Int) (b0:Int):Option (Bool):=(spec_DividesOk.f a0 b0).bind fun c0=>(if c0=true then(if a0=0 then(none)else((spec_ApartOk.f k a0 (wrap64 (Int.tdiv b0 a0))).bind fun d0=>(some d0)))else(some false))
theorem spec_UnitaryOk.mono:∀a0 b0 k,LeO (spec_UnitaryOk.f k a0 b0) (spec_UnitaryOk.f (k+1) a0 b0):=by
 intro a0 b0 k;unfold spec_UnitaryOk.f;have m0:= @spec_ApartOk.mono;exact mz
theorem spec_UnitaryOk.calls (k:Nat) (a0:Int) (b0:Int) (r:Bool) (w:World) (h:spec_UnitaryOk.f k a0 b0=some r):
  Calls Tryz.prog 153 #[.int .i64 a0,.int .i64 b0] w fun e w'=>e= .returned (.bool r)∧Drawn0 w w':=by
 have H:=h;unfold spec_UnitaryOk.f at H;clear h;replace H:=qb H;obtain⟨c0,d0,H⟩:=H;replace H:=qc H;obtain⟨rfl,H⟩|⟨rfl,H⟩:=H
 ·by_cases e0:a0=0
  ·rw[if_pos e0]at H;exact absurd H (by simp)
  ·rw[if_neg e0]at H;have g0:(a0==0)=false:=beq_eq_false_iff_ne.mpr e0;have j0:(a0 != 0)=true:=bne_iff_ne.mpr e0;replace H:=qb H;obtain⟨l0,n0,H⟩:=H;obtain rfl:=sj H
   go_enter Tryz.func153,Tryz.ntmps153
   go_wp2_with(first|(refine gd 7 Tryz.func178 (spec_DividesOk.calls a0 b0 true _ d0.out) fun nd=>?_)|(go_at_call 83;(with_reducible refine gm (spec_ApartOk.calls k a0 (wrap64 (Int.tdiv b0 a0)) l0 _ n0.out) fun nd=>?_)))
   go_ret;exact⟨sd,dr⟩
 ·obtain rfl:=sj H
  go_enter Tryz.func153,Tryz.ntmps153
  go_wp2_with(first|(refine gd 7 Tryz.func178 (spec_DividesOk.calls a0 b0 false _ d0.out) fun nd=>?_))
  go_ret;exact⟨sd,dr⟩

mutual
def spec_UnitaryTimes.l0:Nat→List Int→List Int→Bool→List Int→Int→Option (List Int×Bool)
 |0,_,_,_,_,_=>none
 |k+1,a0,b0,c0,d0,e0=>if e0≤24 then(spec_UnitaryTimes.j1 k a0 b0 c0 d0 e0 c0)else(spec_UnitaryTimes.j1 k a0 b0 c0 d0 e0 false)
def spec_UnitaryTimes.j1:Nat→List Int→List Int→Bool→List Int→Int→Bool→Option (List Int×Bool)
 |0,_,_,_,_,_,_=>none
 |k+1,a0,b0,c0,d0,e0,g0=>if g0=true then(spec_UnitaryTimes.l1 k a0 b0 c0 d0 e0 0 1)else(some (d0,c0))
def spec_UnitaryTimes.l1:Nat→List Int→List Int→Bool→List Int→Int→Int→Int→Option (List Int×Bool)
 |0,_,_,_,_,_,_,_=>none
 |k+1,a0,b0,c0,d0,e0,j0,n0=>if n0≤e0 then((spec_UnitaryOk.f k n0 e0).bind fun p0=>(if p0=true then(if 0≤(wrap64 (n0-1))then(if(wrap64 (n0-1))<(a0.length:Int)then(if n0=0 then(none)else(if 0≤(wrap64 ((wrap64 (Int.tdiv e0 n0))-1))then(if(wrap64 ((wrap64 (Int.tdiv e0 n0))-1))<(b0.length:Int)then(spec_UnitaryTimes.l1 k a0 b0 c0 d0 e0 (wrap64 (j0+(wrap64 ((rd a0 (wrap64 (n0-1)))*(rd b0 (wrap64 ((wrap64 (Int.tdiv e0 n0))-1))))))) (wrap64 (n0+1)))else(none))else(none)))else(none))else(none))else(spec_UnitaryTimes.l1 k a0 b0 c0 d0 e0 j0 (wrap64 (n0+1)))))else(if d0.length<17592186044416 then(spec_UnitaryTimes.l0 k a0 b0 c0 (d0++[j0]) (wrap64 (e0+1)))else(none))
end

def spec_UnitaryTimes.f (k:Nat) (a0:List Int) (b0:List Int):Option (List Int×Bool):=(spec_TimesOf.f k a0 b0).bind fun c0=>(spec_UnitaryTimes.l0 k a0 b0 c0.2 (([]:List Int)) 1)
theorem spec_UnitaryTimes.mono_l:∀k,(∀a0 b0 c0 d0 e0,LeO (spec_UnitaryTimes.l0 k a0 b0 c0 d0 e0) (spec_UnitaryTimes.l0 (k+1) a0 b0 c0 d0 e0))∧(∀a0 b0 c0 d0 e0 g0,LeO (spec_UnitaryTimes.j1 k a0 b0 c0 d0 e0 g0) (spec_UnitaryTimes.j1 (k+1) a0 b0 c0 d0 e0 g0))∧(∀a0 b0 c0 d0 e0 g0 j0,LeO (spec_UnitaryTimes.l1 k a0 b0 c0 d0 e0 g0 j0) (spec_UnitaryTimes.l1 (k+1) a0 b0 c0 d0 e0 g0 j0))
 |0=>⟨fun _ _ _ _ _ r h=>by simp[spec_UnitaryTimes.l0]at h,fun _ _ _ _ _ _ r h=>by simp[spec_UnitaryTimes.j1]at h,fun _ _ _ _ _ _ _ r h=>by simp[spec_UnitaryTimes.l1]at h⟩
 |k+1=>by
  obtain⟨ih0,ih1,ih2⟩:=spec_UnitaryTimes.mono_l k;refine⟨?_,?_,?_⟩
  ·intro a0 b0 c0 d0 e0;unfold spec_UnitaryTimes.l0;have m0:= @spec_TimesOf.mono;have m1:= @spec_UnitaryOk.mono;exact mz
  ·intro a0 b0 c0 d0 e0 g0;unfold spec_UnitaryTimes.j1;have m0:= @spec_TimesOf.mono;have m1:= @spec_UnitaryOk.mono;exact mz
  ·intro a0 b0 c0 d0 e0 g0 j0;unfold spec_UnitaryTimes.l1;have m0:= @spec_TimesOf.mono;have m1:= @spec_UnitaryOk.mono;exact mz
theorem spec_UnitaryTimes.calls (k:Nat) (a0:Option Addr) (b0:Nat) (c0:List Int) (d0:Option Addr) (e0:Nat) (g0:List Int) (j0:List Int) (n0:Bool) (w:World) (p0:Kd.C (Kd.int .i64) w a0 c0.length c0) (q0:c0.length≤b0) (r0:Kd.C (Kd.int .i64) w d0 g0.length g0) (s0:g0.length≤e0) (h:spec_UnitaryTimes.f k c0 g0=some (j0,n0)):
  Calls Tryz.prog 123 #[.slice a0 c0.length b0,.slice d0 g0.length e0] w fun e w'=>∃v0_:Value,e= .returned (.tuple #[v0_,.bool n0])∧Kd.R (Kd.int .i64) 3 w' w.heap.size (fun _=>True) v0_ j0∧Below w.heap.size w w':=by
 have t0:=qa p0;have v0:=qa q0;clear p0 q0;have w0:=qa r0;have x0:=qa s0;clear r0 s0;have HB:=qa (Below.refl w.heap.size w);have H:=h;unfold spec_UnitaryTimes.f at H;clear h;replace H:=qb H;obtain⟨⟨y0,A0⟩,B0,H⟩:=H;(try dsimp only at H);obtain⟨C0,hy_⟩:∃y_:List Int,y_=(([]:List Int)):=⟨_,rfl⟩;replace H:(spec_UnitaryTimes.l0 k c0 g0 A0 C0 1)=some (j0,n0):=yh;have D0:=qa hy_;clear hy_;have H':=qa H;clear H
 go_enter Tryz.func123,Tryz.ntmps123
 go_wp2_with(first|(go_at_call 121;(with_reducible refine(spec_TimesOf.calls k _ _ c0 _ _ g0 y0 A0 _ ?E0 ?G0 ?J0 ?K0 B0.out).mono ?_);(case E0=>exact cx t0.out);(case G0=>exact v0.out);(case J0=>exact cx w0.out);(case K0=>exact x0.out);rintro e L0 ⟨M0,rfl,N0,hb⟩;have P0:=qa (Kd.R_lower N0 (below_size (bl)));replace HB:=bs hb)|(refine rli .i64 3 18 D0.out fun Q0 R0 U0 hb=>?_;have V0:=qa (Kd.R_lower (Kd.R_new' U0 (Kd.R_lt (kR P0))) (below_size (bl)));replace P0:=qa (Kd.R_elder' (kR P0) (Kd.R_base U0) hb);replace HB:=bs hb;clear hb U0))
 repeat(go_quiet(fail);try go_wp2_with(first|(go_at_call 121;(with_reducible refine(spec_TimesOf.calls k _ _ c0 _ _ g0 y0 A0 _ ?E0 ?G0 ?J0 ?K0 B0.out).mono ?_);(case E0=>exact cx t0.out);(case G0=>exact v0.out);(case J0=>exact cx w0.out);(case K0=>exact x0.out);rintro e L0 ⟨M0,rfl,N0,hb⟩;have P0:=qa (Kd.R_lower N0 (below_size (bl)));replace HB:=bs hb)|(refine rli .i64 3 18 D0.out fun Q0 R0 U0 hb=>?_;have V0:=qa (Kd.R_lower (Kd.R_new' U0 (Kd.R_lt (kR P0))) (below_size (bl)));replace P0:=qa (Kd.R_elder' (kR P0) (Kd.R_base U0) hb);replace HB:=bs hb;clear hb U0)))
 go_loopg [8,9] k (fun kq W0 X0 w'=>∃(Y0:List Int) (a1:Int),X0= .int .i64 a1∧Aside0 (spec_UnitaryTimes.l0 kq c0 g0 A0 Y0 a1=some (j0,n0))∧Aside0 (kq≤k)∧Aside0 (Kd.R (Kd.int .i64) 3 w' w.heap.size (fun _=>True) W0 Y0)∧Aside0 (Below w.heap.size w w'))
 case atStart=>exact⟨(C0),(1),(sd),H',⟨Nat.le_refl _⟩,⟨by(with_reducible repeat(first|apply Kd.R_alloc|apply Kd.R_drewN|apply Kd.R_drew));exact Kd.R_mono V0.out (fun _ hk=>trivial)⟩,⟨bl⟩⟩
 case round=>
  clear H';obtain⟨Y0,a1,rfl,HA,HK1,b1,HB⟩:=hrel;obtain⟨k1,rfl,H⟩:=kz gk HA;clear HA;simp only[spec_UnitaryTimes.l0]at H;have c1:=qa H;clear H
  go_upto_region 4 with(fail)
  repeat(go_quiet(fail);go_upto_region 4 with(fail))
  go_cut [23] (fun d1 wc=>∃(kq:Nat) (e1:Bool),d1= .bool e1∧Aside0 (spec_UnitaryTimes.j1 kq c0 g0 A0 Y0 a1 e1=some (j0,n0))∧Aside0 (kq≤k1)∧Aside0 (Kd.R (Kd.int .i64) 3 wc w.heap.size (fun _=>True) u8 Y0)∧Aside0 (Below w.heap.size w wc))
  case first=>
   have H:=c1.out;clear c1;replace H:=qe H;obtain⟨g1,H⟩|⟨g1,H⟩:=H
   ·(first|rw[g1]|(simp only[i64_w,i32_w];rw[g1])|skip);have H':=qa H;clear H;go_wp2
    repeat(go_quiet(fail);try go_wp2)
    go_meet
    case rel=>exact⟨_,(A0),(sd),H',⟨z23_⟩,⟨kR b1⟩,⟨bl⟩⟩
   ·(first|rw[g1]|(simp only[i64_w,i32_w];rw[g1])|skip);have H':=qa H;clear H;go_wp2
    repeat(go_quiet(fail);try go_wp2)
    go_meet
    case rel=>exact⟨_,(false),(sd),H',⟨z23_⟩,⟨kR b1⟩,⟨bl⟩⟩
  case rest=>
   clear c1;obtain⟨kq,e1,rfl,HA,n1,b1,HB⟩:=hcut;obtain⟨p1,rfl,H⟩:=kz kq HA;clear HA;simp only[spec_UnitaryTimes.j1]at H;replace H:=qc H;obtain⟨rfl,H⟩|⟨rfl,H⟩:=H
   ·have H':=qa H;clear H;go_wp2
    repeat(go_quiet(fail);try go_wp2)
    go_loopg [10,11] p1 (fun kq q1 r1 w'=>∃(s1:Int) (t1:Int),q1= .int .i64 s1∧r1= .int .i64 t1∧Aside0 (spec_UnitaryTimes.l1 kq c0 g0 A0 Y0 a1 s1 t1=some (j0,n0))∧Aside0 (kq≤p1)∧Aside0 (Kd.R (Kd.int .i64) 3 w' w.heap.size (fun _=>True) u8 Y0)∧Aside0 (Below w.heap.size w w'))
    case atStart=>exact⟨(0),(1),(sd),(sd),H',⟨Nat.le_refl _⟩,⟨kR b1⟩,⟨bl⟩⟩
    case round=>
     clear H';obtain⟨s1,t1,rfl,rfl,HA,HK3,b1,HB⟩:=hrel;obtain⟨k3,rfl,H⟩:=kz gk HA;clear HA;simp only[spec_UnitaryTimes.l1]at H;replace H:=qe H;obtain⟨v1,H⟩|⟨v1,H⟩:=H
     ·replace H:=qb H;obtain⟨w1,x1,H⟩:=H;replace H:=qc H;obtain⟨rfl,H⟩|⟨rfl,H⟩:=H
      ·obtain⟨y1,A1⟩:∃j_:Int,(wrap64 (t1-1))=j_:=⟨_,rfl⟩;(first|rw[A1]at H|(try simp only[A1]at H));(try rw[A1]at x1);have B1:(IntKind.i64.wrap (t1-1))=y1:=(i64_w _).trans A1;replace H:=qd H;obtain⟨C1,H⟩:=H;replace H:=qd H;obtain⟨D1,H⟩:=H
       by_cases E1:t1=0
       ·rw[if_pos E1]at H;exact absurd H (by simp)
       ·rw[if_neg E1]at H;have G1:(t1==0)=false:=beq_eq_false_iff_ne.mpr E1;have J1:(t1 != 0)=true:=bne_iff_ne.mpr E1;obtain⟨K1,L1⟩:∃j_:Int,(wrap64 ((wrap64 (Int.tdiv a1 t1))-1))=j_:=⟨_,rfl⟩;(first|rw[L1]at H|(try simp only[L1]at H));(try rw[L1]at x1);have M1:(IntKind.i64.wrap ((wrap64 (Int.tdiv a1 t1))-1))=K1:=(i64_w _).trans L1;replace H:=qd H;obtain⟨N1,H⟩:=H;replace H:=qd H;obtain⟨P1,H⟩:=H;have H':=qa H;clear H
        go_wp2_with(first|(go_at_call 153;(with_reducible refine gm (spec_UnitaryOk.calls k3 t1 a1 true _ x1.out) fun nd=>?_);(try exact dn);obtain⟨Q1,⟨⟩,R1,U1,V1⟩:=ai t0.out (y1);replace R1:=(HB.out.cell (World.block_lt_of_cell? w _ R1)).trans R1;obtain⟨W1,⟨⟩,X1,Y1,a2⟩:=ai w0.out (K1);replace X1:=(HB.out.cell (World.block_lt_of_cell? w _ X1)).trans X1))
        repeat(go_quiet(first|(go_at_call 153;(with_reducible refine gm (spec_UnitaryOk.calls k3 t1 a1 true _ x1.out) fun nd=>?_);(try exact dn);obtain⟨Q1,⟨⟩,R1,U1,V1⟩:=ai t0.out (y1);replace R1:=(HB.out.cell (World.block_lt_of_cell? w _ R1)).trans R1;obtain⟨W1,⟨⟩,X1,Y1,a2⟩:=ai w0.out (K1);replace X1:=(HB.out.cell (World.block_lt_of_cell? w _ X1)).trans X1));try go_wp2_with(first|(go_at_call 153;(with_reducible refine gm (spec_UnitaryOk.calls k3 t1 a1 true _ x1.out) fun nd=>?_);(try exact dn);obtain⟨Q1,⟨⟩,R1,U1,V1⟩:=ai t0.out (y1);replace R1:=(HB.out.cell (World.block_lt_of_cell? w _ R1)).trans R1;obtain⟨W1,⟨⟩,X1,Y1,a2⟩:=ai w0.out (K1);replace X1:=(HB.out.cell (World.block_lt_of_cell? w _ X1)).trans X1)))
        go_roundg k3
        case measure=>have:=HK1.out;have:=n1.out;have:=HK3.out;omega
        case rel=>exact⟨(wrap64 (s1+(wrap64 ((rd c0 (y1))*(rd g0 (K1)))))),(wrap64 (t1+1)),(by first|rfl|(simp;done)|(simp only[←A1,←L1] <;> (first|rfl|simp))|(simp[*];done)),(sd),H',⟨by have:=HK1.out;have:=n1.out;have:=HK3.out;omega⟩,⟨kR b1⟩,⟨bl⟩⟩
      ·have H':=qa H;clear H
       go_wp2_with(first|(go_at_call 153;(with_reducible refine gm (spec_UnitaryOk.calls k3 t1 a1 false _ x1.out) fun nd=>?_);(try exact dn)))
       repeat(go_quiet(first|(go_at_call 153;(with_reducible refine gm (spec_UnitaryOk.calls k3 t1 a1 false _ x1.out) fun nd=>?_);(try exact dn)));try go_wp2_with(first|(go_at_call 153;(with_reducible refine gm (spec_UnitaryOk.calls k3 t1 a1 false _ x1.out) fun nd=>?_);(try exact dn))))
       go_roundg k3
       case measure=>have:=HK1.out;have:=n1.out;have:=HK3.out;omega
       case rel=>exact⟨(s1),(wrap64 (t1+1)),(sd),(sd),H',⟨by have:=HK1.out;have:=n1.out;have:=HK3.out;omega⟩,⟨kR b1⟩,⟨bl⟩⟩
     ·replace H:=qn H;obtain⟨b2,H⟩:=H;have c2:=qa b2;clear b2;obtain⟨d2,hy_⟩:∃y_:List Int,y_=(Y0++[s1]):=⟨_,rfl⟩;replace H:(spec_UnitaryTimes.l0 k3 c0 g0 A0 d2 (wrap64 (a1+1)))=some (j0,n0):=yh;have e2:=qa hy_;clear hy_;have H':=qa H;clear H
      go_wp2_with(first|((with_reducible refine gate_builtin (b:= .append) (xs:=#[.tmp 49,.tmp 51]) rfl ?_);at_builtin;refine Kd.R_append (Kd.int .i64) (w0:=w) w.heap.size rfl (.tmp 49) (.tmp 51) 22 3 (.int .i64 0) 8 rfl Tryz.underlying22 info3 rfl kd_ ko_ u8 Y0 s1 [.int .i64 s1] (fun _=>True) (fun _=>False) rfl rfl ?aP (fun _ hk=>hk.elim) ?aF ?aO ?aB ?aS ?aL ?_;(case aP=>exact rfl);(case aB=>exact(bl));(case aF=>exact(fun _ _=>trivial));(case aO=>exact(kR b1));(case aS=>exact(below_size (bl)));(case aL=>have:=c2.out;omega);intro g2 j2 ho hb hg hat;rw[←e2.out]at ho;replace HB:=qa (hb);have l2:=qa (ho);clear b1;clear ho hb hg hat))
      repeat(go_quiet(fail);try go_wp2_with(first|((with_reducible refine gate_builtin (b:= .append) (xs:=#[.tmp 49,.tmp 51]) rfl ?_);at_builtin;refine Kd.R_append (Kd.int .i64) (w0:=w) w.heap.size rfl (.tmp 49) (.tmp 51) 22 3 (.int .i64 0) 8 rfl Tryz.underlying22 info3 rfl kd_ ko_ u8 Y0 s1 [.int .i64 s1] (fun _=>True) (fun _=>False) rfl rfl ?aP (fun _ hk=>hk.elim) ?aF ?aO ?aB ?aS ?aL ?_;(case aP=>exact rfl);(case aB=>exact(bl));(case aF=>exact(fun _ _=>trivial));(case aO=>exact(kR b1));(case aS=>exact(below_size (bl)));(case aL=>have:=c2.out;omega);intro g2 j2 ho hb hg hat;rw[←e2.out]at ho;replace HB:=qa (hb);have l2:=qa (ho);clear b1;clear ho hb hg hat)))
      go_roundg k3
      case measure=>have:=HK1.out;have:=n1.out;have:=HK3.out;omega
      case rel=>exact⟨(d2),(wrap64 (a1+1)),(sd),H',⟨by have:=HK1.out;have:=n1.out;have:=HK3.out;omega⟩,⟨kR l2⟩,⟨bl⟩⟩
   ·simp only[Option.some.injEq,Prod.mk.injEq]at H;obtain⟨rfl,rfl⟩:=H;go_wp2
    repeat(go_quiet(fail);try go_wp2)
    go_ret2;exact⟨_,z1_,kR b1,bl⟩

def spec_UnitOk.f (k:Nat) (a0:List Int):Option (Bool):=(spec_RowOk.f k a0).bind fun b0=>(if b0=true then(if 0<(a0.length:Int)then(if(rd a0 0)=1 then(some true)else(some ((rd a0 0)==(-1))))else(none))else(some false))
theorem spec_UnitOk.calls (k:Nat) (a0:Option Addr) (b0:Nat) (c0:List Int) (r:Bool) (w:World) (d0:Kd.C (Kd.int .i64) w a0 c0.length c0) (e0:c0.length≤b0) (h:spec_UnitOk.f k c0=some r):
  Calls Tryz.prog 179 #[.slice a0 c0.length b0] w fun e w'=>e= .returned (.bool r)∧Drawn0 w w':=by
 have g0:=qa d0;have j0:=qa e0;clear d0 e0;have H:=h;unfold spec_UnitOk.f at H;clear h;replace H:=qb H;obtain⟨l0,n0,H⟩:=H;replace H:=qc H;obtain⟨rfl,H⟩|⟨rfl,H⟩:=H
 ·replace H:=qL 0 H;obtain⟨p0,q0,H⟩:=H;replace H:=qq H;obtain⟨r0,s0,H⟩|⟨t0,r0,s0,H⟩:=H
  ·obtain rfl:=sj H
   go_enter Tryz.func179,Tryz.ntmps179
   go_wp2_with(first|(refine gd 4 Tryz.func69 (spec_RowOk.calls k _ _ c0 true _ (cx g0.out) j0.out n0.out) fun nd=>?_;obtain⟨v0,⟨⟩,w0,qi727,x0,y0⟩:=ain 0 g0.out 0;(try rw[Addr.add_zero']at w0)))
   go_ret;exact⟨sd,dr⟩
  ·obtain rfl:=sj H
   go_enter Tryz.func179,Tryz.ntmps179
   go_wp2_with(first|(refine gd 4 Tryz.func69 (spec_RowOk.calls k _ _ c0 true _ (cx g0.out) j0.out n0.out) fun nd=>?_;obtain⟨v0,⟨⟩,w0,qi727,x0,y0⟩:=ain 0 g0.out 0;(try rw[Addr.add_zero']at w0);obtain⟨A0,qi728,B0,C0⟩:=ajn 0 g0.out 0;(try rw[Addr.add_zero']at A0)))
   go_ret;exact⟨sd,dr⟩
 ·obtain rfl:=sj H
  go_enter Tryz.func179,Tryz.ntmps179
  go_wp2_with(first|(refine gd 4 Tryz.func69 (spec_RowOk.calls k _ _ c0 false _ (cx g0.out) j0.out n0.out) fun nd=>?_))
  go_ret;exact⟨sd,dr⟩

mutual
def spec_l3Divided.l0:Nat→List Int→List Int→List Int→Int→Option (List Int)
 |0,_,_,_,_=>none
 |k+1,a0,b0,c0,d0=>if d0≤24 then(if 0≤(wrap64 (d0-1))then(if(wrap64 (d0-1))<(a0.length:Int)then(spec_l3Divided.l1 k a0 b0 c0 d0 (rd a0 (wrap64 (d0-1))) 2)else(none))else(none))else(some c0)
def spec_l3Divided.l1:Nat→List Int→List Int→List Int→Int→Int→Int→Option (List Int)
 |0,_,_,_,_,_,_=>none
 |k+1,a0,b0,c0,d0,e0,g0=>if g0≤d0 then(if g0=0 then(none)else(if(Int.tmod d0 g0)=0 then(if 0≤(wrap64 (g0-1))then(if(wrap64 (g0-1))<(b0.length:Int)then(if 0≤(wrap64 ((wrap64 (Int.tdiv d0 g0))-1))then(if(wrap64 ((wrap64 (Int.tdiv d0 g0))-1))<(c0.length:Int)then(spec_l3Divided.l1 k a0 b0 c0 d0 (wrap64 (e0-(wrap64 ((rd b0 (wrap64 (g0-1)))*(rd c0 (wrap64 ((wrap64 (Int.tdiv d0 g0))-1))))))) (wrap64 (g0+1)))else(none))else(none))else(none))else(none))else(spec_l3Divided.l1 k a0 b0 c0 d0 e0 (wrap64 (g0+1)))))else(if 0<(b0.length:Int)then(if 0≤(wrap64 (d0-1))then(if(wrap64 (d0-1))<(c0.length:Int)then((some (c0.set ((wrap64 (d0-1)):Int).toNat (wrap64 (e0*(rd b0 0))):List Int)).bind fun j0=>((spec_l1In.f (rd j0 (wrap64 (d0-1))) (-1000000000) 1000000000).bind fun n0=>(if n0=true then(spec_l3Divided.l0 k a0 b0 j0 (wrap64 (d0+1)))else(some (([]:List Int))))))else(none))else(none))else(none))
end

def spec_l3Divided.f (k:Nat) (a0:List Int) (b0:List Int):Option (List Int):=if 24≤35184372088832 then(spec_l3Divided.l0 k a0 b0 (List.replicate 24 0) 1)else(none)
theorem spec_l3Divided.calls (k:Nat) (a0:Option Addr) (b0:Nat) (c0:List Int) (d0:Option Addr) (e0:Nat) (g0:List Int) (r:List Int) (w:World) (j0:Kd.C (Kd.int .i64) w a0 c0.length c0) (n0:c0.length≤b0) (p0:Kd.C (Kd.int .i64) w d0 g0.length g0) (q0:g0.length≤e0) (h:spec_l3Divided.f k c0 g0=some r):
  Calls Tryz.prog 180 #[.slice a0 c0.length b0,.slice d0 g0.length e0] w fun e w'=>∃v0_:Value,e= .returned (v0_)∧Kd.R (Kd.int .i64) 3 w' w.heap.size (fun _=>True) v0_ r∧Below w.heap.size w w':=by
 have r0:=qa j0;have s0:=qa n0;clear j0 n0;have t0:=qa p0;have v0:=qa q0;clear p0 q0;have HB:=qa (Below.refl w.heap.size w);have H:=h;unfold spec_l3Divided.f at H;clear h
 by_cases w0:24≤35184372088832
 ·rw[if_pos w0]at H;have x0:=eq_true w0;have y0:decide (24≤35184372088832)=true:=decide_eq_true w0;clear w0;obtain⟨A0,hy_⟩:∃y_:List Int,y_=(List.replicate 24 0):=⟨_,rfl⟩;replace H:(spec_l3Divided.l0 k c0 g0 A0 1)=some r:=yh;have B0:=qa hy_;clear hy_;have H':=qa H;clear H
  go_enter Tryz.func180,Tryz.ntmps180
  go_wp2_with(first|((with_reducible refine gate_dst (N:=9) rfl ?_);refine Kd.R_make (Kd.int .i64) _ 3 rfl (N:=9) rfl 22 _ _ rfl 24 rfl rfl Tryz.underlying22 (.int .i64 0) 8 info3 rfl kd_ ko_ 0 (ok:=fun _=>True) (okp:=fun _=>True) rfl (fun _ hk=>hk) trivial ko_ ko_ (Below.refl _ _) (Nat.le_refl _) ?_;intro C0 D0 E0 hb hg_ hnew_;clear hg_ hnew_;(first|rw[←B0.out]at E0|(simp only[Int.reduceToNat]at E0;rw[←B0.out]at E0));have G0:=qa (Kd.R_lower E0 (below_size (bl)));replace HB:=bs hb;clear hb E0))
  repeat(go_quiet(fail);try go_wp2_with(first|((with_reducible refine gate_dst (N:=9) rfl ?_);refine Kd.R_make (Kd.int .i64) _ 3 rfl (N:=9) rfl 22 _ _ rfl 24 rfl rfl Tryz.underlying22 (.int .i64 0) 8 info3 rfl kd_ ko_ 0 (ok:=fun _=>True) (okp:=fun _=>True) rfl (fun _ hk=>hk) trivial ko_ ko_ (Below.refl _ _) (Nat.le_refl _) ?_;intro C0 D0 E0 hb hg_ hnew_;clear hg_ hnew_;(first|rw[←B0.out]at E0|(simp only[Int.reduceToNat]at E0;rw[←B0.out]at E0));have G0:=qa (Kd.R_lower E0 (below_size (bl)));replace HB:=bs hb;clear hb E0)))
  go_loopg [6] k (fun kq J0 w'=>∃(K0:List Int) (L0:Int),J0= .int .i64 L0∧Aside0 (spec_l3Divided.l0 kq c0 g0 K0 L0=some r)∧Aside0 (kq≤k)∧Aside0 (Kd.R (Kd.int .i64) 3 w' w.heap.size (fun _=>True) C0 K0)∧Aside0 (Below w.heap.size w w'))
  case atStart=>exact⟨(A0),(1),(sd),H',⟨Nat.le_refl _⟩,⟨kR G0⟩,⟨bl⟩⟩
  case round=>
   clear H';obtain⟨K0,L0,rfl,HA,HK1,M0,HB⟩:=hrel;obtain⟨k1,rfl,H⟩:=kz gk HA;clear HA;simp only[spec_l3Divided.l0]at H;replace H:=qe H;obtain⟨N0,H⟩|⟨N0,H⟩:=H
   ·obtain⟨P0,Q0⟩:∃j_:Int,(wrap64 (L0-1))=j_:=⟨_,rfl⟩;(first|rw[Q0]at H|(try simp only[Q0]at H));have R0:(IntKind.i64.wrap (L0-1))=P0:=(i64_w _).trans Q0;replace H:=qd H;obtain⟨U0,H⟩:=H;replace H:=qd H;obtain⟨V0,H⟩:=H;have H':=qa H;clear H;obtain⟨W0,⟨⟩,X0,Y0,a1⟩:=ai r0.out (P0);(try replace X0:=(HB.out.cell (World.block_lt_of_cell? w _ X0)).trans X0);go_wp2
    repeat(go_quiet(fail);try go_wp2)
    go_loopg [7,8] k1 (fun kq b1 c1 w'=>∃(d1:Int) (e1:Int),b1= .int .i64 d1∧c1= .int .i64 e1∧Aside0 (spec_l3Divided.l1 kq c0 g0 K0 L0 d1 e1=some r)∧Aside0 (kq≤k1)∧Aside0 (Kd.R (Kd.int .i64) 3 w' w.heap.size (fun _=>True) C0 K0)∧Aside0 (Below w.heap.size w w'))
    case atStart=>exact⟨(rd c0 (P0)),(2),(by first|rfl|(simp;done)|(simp only[←Q0] <;> (first|rfl|simp))|(simp[*];done)),(sd),H',⟨Nat.le_refl _⟩,⟨kR M0⟩,⟨bl⟩⟩
    case round=>
     clear H';obtain⟨d1,e1,rfl,rfl,HA,HK2,M0,HB⟩:=hrel;obtain⟨k2,rfl,H⟩:=kz gk HA;clear HA;simp only[spec_l3Divided.l1]at H;replace H:=qe H;obtain⟨g1,H⟩|⟨g1,H⟩:=H
     ·by_cases j1:e1=0
      ·rw[if_pos j1]at H;exact absurd H (by simp)
      ·rw[if_neg j1]at H;have n1:(e1==0)=false:=beq_eq_false_iff_ne.mpr j1;have p1:(e1 != 0)=true:=bne_iff_ne.mpr j1;replace H:=qq H;obtain⟨q1,r1,H⟩|⟨s1,q1,r1,H⟩:=H
       ·obtain⟨t1,v1⟩:∃j_:Int,(wrap64 (e1-1))=j_:=⟨_,rfl⟩;(first|rw[v1]at H|(try simp only[v1]at H));have w1:(IntKind.i64.wrap (e1-1))=t1:=(i64_w _).trans v1;replace H:=qd H;obtain⟨x1,H⟩:=H;replace H:=qd H;obtain⟨y1,H⟩:=H;obtain⟨A1,B1⟩:∃j_:Int,(wrap64 ((wrap64 (Int.tdiv L0 e1))-1))=j_:=⟨_,rfl⟩;(first|rw[B1]at H|(try simp only[B1]at H));have C1:(IntKind.i64.wrap ((wrap64 (Int.tdiv L0 e1))-1))=A1:=(i64_w _).trans B1;replace H:=qd H;obtain⟨D1,H⟩:=H;replace H:=qd H;obtain⟨E1,H⟩:=H;have H':=qa H;clear H;obtain⟨G1,⟨⟩,J1,K1,L1⟩:=ai t0.out (t1);(try replace J1:=(HB.out.cell (World.block_lt_of_cell? w _ J1)).trans J1);obtain⟨M1,N1,rfl⟩:=Kd.R_slice M0.out;obtain⟨P1,⟨⟩,Q1,R1,U1⟩:=ai (Kd.R_reads' M0.out).2.2 (A1);go_wp2
        repeat(go_quiet(fail);try go_wp2)
        go_roundg k2
        case measure=>have:=HK1.out;have:=HK2.out;omega
        case rel=>exact⟨(wrap64 (d1-(wrap64 ((rd g0 (t1))*(rd K0 (A1)))))),(wrap64 (e1+1)),(by first|rfl|(simp;done)|(simp only[←v1,←B1] <;> (first|rfl|simp))|(simp[*];done)),(sd),H',⟨by have:=HK1.out;have:=HK2.out;omega⟩,⟨kR M0⟩,⟨bl⟩⟩
       ·have H':=qa H;clear H;go_wp2
        repeat(go_quiet(fail);try go_wp2)
        go_roundg k2
        case measure=>have:=HK1.out;have:=HK2.out;omega
        case rel=>exact⟨(d1),(wrap64 (e1+1)),(sd),(sd),H',⟨by have:=HK1.out;have:=HK2.out;omega⟩,⟨kR M0⟩,⟨bl⟩⟩
     ·replace H:=qL 0 H;obtain⟨V1,W1,H⟩:=H;obtain⟨X1,Y1⟩:∃j_:Int,(wrap64 (L0-1))=j_:=⟨_,rfl⟩;(try(have hq_:X1=P0:=Y1.symm.trans Q0;subst hq_));(first|rw[Y1]at H|(try simp only[Y1]at H));have a2:(IntKind.i64.wrap (L0-1))=X1:=(i64_w _).trans Y1;replace H:=qd H;obtain⟨b2,H⟩:=H;replace H:=qd H;obtain⟨c2,H⟩:=H;replace H:=qs H;obtain⟨d2,e2,H⟩:=H;replace H:=qb H;obtain⟨g2,j2,H⟩:=H;replace H:=qc H;obtain⟨rfl,H⟩|⟨rfl,H⟩:=H
      ·have H':=qa H;clear H;obtain⟨l2,⟨⟩,n2,qi735,p2,q2⟩:=ain 0 t0.out 0;(try rw[Addr.add_zero']at n2);(try replace n2:=(HB.out.cell (World.block_lt_of_cell? w _ n2)).trans n2);have r2:0≤((X1):Int):=qo;have s2:((X1):Int)<((K0.length:Int):Int):=qo;obtain⟨t2,v2,w2,x2,gl24,cl24,HG24⟩:=Kd.R_form M0.out ko_;(first|cases w2|(injection w2 with ea_ en_ ec_;(first|subst ea_|(injection ea_ with ea_;subst ea_));subst ec_;clear en_));have GB24:=qa x2;have GG24:=qa HG24;clear x2 gl24 HG24;obtain⟨y2,A2⟩:=Kd.R_celln 0 M0.out ((X1):Int) r2 s2;replace r2:=eq_true r2;replace s2:=eq_true s2;have HP27:=Kd.R_putg M0.out ((X1):Int) (wrap64 (d1*(rd g0 0)))
       go_wp2_with(first|((with_reducible refine gate_store (t:=3) (p:=51) rfl ?_);(try(rw[drewN_self wr];generalize hq_:World.drewN wr _=wr;have n0_:=qa (Kd.R_at hq_ M0.out);have n1_:=qa (below_at hq_ HB.out);clear hq_ M0 HB;have M0:=n0_;have HB:=n1_;clear n0_ n1_;(try(have HP27:=Kd.R_putg M0.out ((X1):Int) (wrap64 (d1*(rd g0 0)))))));refine store_event (t:=3) (p:=51) (v:=?vo_w28) (w1:=(wr.setCell ⟨t2,((X1):Int).toNat,none⟩ (.int .i64 (wrap64 (d1*(rd g0 0)))))) ?hg ?ho ?hn ?hr ?_;(case ho=>rfl);(case hg=>rfl);(case hn=>rfl);(case hr=>exact gr);intro B2 hw;have hg:wr.grownBy B2 (some t2):=(by rw[hw];exact HP27.2);have hp_:Kd.R (Kd.int .i64) 3 B2 w.heap.size (fun _=>True) (.slice (some ⟨t2,0,none⟩) K0.length v2) d2:=(by rw[hw,e2.out];exact HP27.1);clear HP27;replace M0:=qa (hp_);replace HB:=qa ((by rw[hw];exact below_set (HB.out) GB24.out:Below w.heap.size w B2));clear hg hw hp_;have ql737:(((X1):Int)<((K0.length:Int):Int))=True:=eq_true (qo);obtain⟨C2,D2,E2⟩:=aj (Kd.R_reads' M0.out).2.2 (X1) (q:=(by have h_:((X1):Int)<((K0.length:Int):Int):=qo;first|(have e_:=(Kd.R_reads' M0.out).1;omega)|simpa only[e2.out,List.length_set] using h_));(first|simp only[add_plain]at C2|simp only[add_at]at C2|simp only[Addr.add,Nat.zero_add]at C2|skip))|(go_at_call 84;(with_reducible refine gm (spec_l1In.calls (rd d2 (X1)) (-1000000000) 1000000000 true _ j2.out) fun nd=>?_);(try exact dn)))
       repeat(go_quiet(first|(go_at_call 84;(with_reducible refine gm (spec_l1In.calls (rd d2 (X1)) (-1000000000) 1000000000 true _ j2.out) fun nd=>?_);(try exact dn)));try go_wp2_with(first|((with_reducible refine gate_store (t:=3) (p:=51) rfl ?_);(try(rw[drewN_self wr];generalize hq_:World.drewN wr _=wr;have n0_:=qa (Kd.R_at hq_ M0.out);have n1_:=qa (below_at hq_ HB.out);clear hq_ M0 HB;have M0:=n0_;have HB:=n1_;clear n0_ n1_;(try(have HP27:=Kd.R_putg M0.out ((X1):Int) (wrap64 (d1*(rd g0 0)))))));refine store_event (t:=3) (p:=51) (v:=?vo_w28) (w1:=(wr.setCell ⟨t2,((X1):Int).toNat,none⟩ (.int .i64 (wrap64 (d1*(rd g0 0)))))) ?hg ?ho ?hn ?hr ?_;(case ho=>rfl);(case hg=>rfl);(case hn=>rfl);(case hr=>exact gr);intro B2 hw;have hg:wr.grownBy B2 (some t2):=(by rw[hw];exact HP27.2);have hp_:Kd.R (Kd.int .i64) 3 B2 w.heap.size (fun _=>True) (.slice (some ⟨t2,0,none⟩) K0.length v2) d2:=(by rw[hw,e2.out];exact HP27.1);clear HP27;replace M0:=qa (hp_);replace HB:=qa ((by rw[hw];exact below_set (HB.out) GB24.out:Below w.heap.size w B2));clear hg hw hp_;have ql737:(((X1):Int)<((K0.length:Int):Int))=True:=eq_true (qo);obtain⟨C2,D2,E2⟩:=aj (Kd.R_reads' M0.out).2.2 (X1) (q:=(by have h_:((X1):Int)<((K0.length:Int):Int):=qo;first|(have e_:=(Kd.R_reads' M0.out).1;omega)|simpa only[e2.out,List.length_set] using h_));(first|simp only[add_plain]at C2|simp only[add_at]at C2|simp only[Addr.add,Nat.zero_add]at C2|skip))|(go_at_call 84;(with_reducible refine gm (spec_l1In.calls (rd d2 (X1)) (-1000000000) 1000000000 true _ j2.out) fun nd=>?_);(try exact dn))))
       go_roundg k2
       case measure=>have:=HK1.out;have:=HK2.out;omega
       case rel=>exact⟨(d2),(wrap64 (L0+1)),(sd),H',⟨by have:=HK1.out;have:=HK2.out;omega⟩,⟨kR M0⟩,⟨bl⟩⟩
      ·obtain⟨G2,hy_⟩:∃y_:List Int,y_=(([]:List Int)):=⟨_,rfl⟩;replace H:(some G2)=some r:=yh;have J2:=qa hy_;clear hy_;obtain rfl:=sj H;obtain⟨l2,⟨⟩,n2,qi735,p2,q2⟩:=ain 0 t0.out 0;(try rw[Addr.add_zero']at n2);(try replace n2:=(HB.out.cell (World.block_lt_of_cell? w _ n2)).trans n2);have r2:0≤((X1):Int):=qo;have s2:((X1):Int)<((K0.length:Int):Int):=qo;obtain⟨t2,v2,w2,x2,gl24,cl24,HG24⟩:=Kd.R_form M0.out ko_;(first|cases w2|(injection w2 with ea_ en_ ec_;(first|subst ea_|(injection ea_ with ea_;subst ea_));subst ec_;clear en_));have GB24:=qa x2;have GG24:=qa HG24;clear x2 gl24 HG24;obtain⟨y2,A2⟩:=Kd.R_celln 0 M0.out ((X1):Int) r2 s2;replace r2:=eq_true r2;replace s2:=eq_true s2;have HP29:=Kd.R_putg M0.out ((X1):Int) (wrap64 (d1*(rd g0 0)))
       go_wp2_with(first|((with_reducible refine gate_store (t:=3) (p:=51) rfl ?_);(try(rw[drewN_self wr];generalize hq_:World.drewN wr _=wr;have n0_:=qa (Kd.R_at hq_ M0.out);have n1_:=qa (below_at hq_ HB.out);clear hq_ M0 HB;have M0:=n0_;have HB:=n1_;clear n0_ n1_;(try(have HP29:=Kd.R_putg M0.out ((X1):Int) (wrap64 (d1*(rd g0 0)))))));refine store_event (t:=3) (p:=51) (v:=?vo_w30) (w1:=(wr.setCell ⟨t2,((X1):Int).toNat,none⟩ (.int .i64 (wrap64 (d1*(rd g0 0)))))) ?hg ?ho ?hn ?hr ?_;(case ho=>rfl);(case hg=>rfl);(case hn=>rfl);(case hr=>exact gr);intro K2 hw;have hg:wr.grownBy K2 (some t2):=(by rw[hw];exact HP29.2);have hp_:Kd.R (Kd.int .i64) 3 K2 w.heap.size (fun _=>True) (.slice (some ⟨t2,0,none⟩) K0.length v2) d2:=(by rw[hw,e2.out];exact HP29.1);clear HP29;replace M0:=qa (hp_);replace HB:=qa ((by rw[hw];exact below_set (HB.out) GB24.out:Below w.heap.size w K2));clear hg hw hp_;have ql737:(((X1):Int)<((K0.length:Int):Int))=True:=eq_true (qo);obtain⟨C2,D2,E2⟩:=aj (Kd.R_reads' M0.out).2.2 (X1) (q:=(by have h_:((X1):Int)<((K0.length:Int):Int):=qo;first|(have e_:=(Kd.R_reads' M0.out).1;omega)|simpa only[e2.out,List.length_set] using h_));(first|simp only[add_plain]at C2|simp only[add_at]at C2|simp only[Addr.add,Nat.zero_add]at C2|skip))|(go_at_call 84;(with_reducible refine gm (spec_l1In.calls (rd d2 (X1)) (-1000000000) 1000000000 false _ j2.out) fun nd=>?_);(try exact dn))|(refine rli .i64 3 59 J2.out fun L2 M2 N2 hb=>?_;have P2:=qa (Kd.R_lower (Kd.R_new' N2 (Kd.R_lt (kR M0))) (below_size (bl)));replace M0:=qa (Kd.R_elder' (kR M0) (Kd.R_base N2) hb);replace HB:=bs hb;clear hb N2))
       repeat(go_quiet(first|(go_at_call 84;(with_reducible refine gm (spec_l1In.calls (rd d2 (X1)) (-1000000000) 1000000000 false _ j2.out) fun nd=>?_);(try exact dn)));try go_wp2_with(first|((with_reducible refine gate_store (t:=3) (p:=51) rfl ?_);(try(rw[drewN_self wr];generalize hq_:World.drewN wr _=wr;have n0_:=qa (Kd.R_at hq_ M0.out);have n1_:=qa (below_at hq_ HB.out);clear hq_ M0 HB;have M0:=n0_;have HB:=n1_;clear n0_ n1_;(try(have HP29:=Kd.R_putg M0.out ((X1):Int) (wrap64 (d1*(rd g0 0)))))));refine store_event (t:=3) (p:=51) (v:=?vo_w30) (w1:=(wr.setCell ⟨t2,((X1):Int).toNat,none⟩ (.int .i64 (wrap64 (d1*(rd g0 0)))))) ?hg ?ho ?hn ?hr ?_;(case ho=>rfl);(case hg=>rfl);(case hn=>rfl);(case hr=>exact gr);intro K2 hw;have hg:wr.grownBy K2 (some t2):=(by rw[hw];exact HP29.2);have hp_:Kd.R (Kd.int .i64) 3 K2 w.heap.size (fun _=>True) (.slice (some ⟨t2,0,none⟩) K0.length v2) d2:=(by rw[hw,e2.out];exact HP29.1);clear HP29;replace M0:=qa (hp_);replace HB:=qa ((by rw[hw];exact below_set (HB.out) GB24.out:Below w.heap.size w K2));clear hg hw hp_;have ql737:(((X1):Int)<((K0.length:Int):Int))=True:=eq_true (qo);obtain⟨C2,D2,E2⟩:=aj (Kd.R_reads' M0.out).2.2 (X1) (q:=(by have h_:((X1):Int)<((K0.length:Int):Int):=qo;first|(have e_:=(Kd.R_reads' M0.out).1;omega)|simpa only[e2.out,List.length_set] using h_));(first|simp only[add_plain]at C2|simp only[add_at]at C2|simp only[Addr.add,Nat.zero_add]at C2|skip))|(go_at_call 84;(with_reducible refine gm (spec_l1In.calls (rd d2 (X1)) (-1000000000) 1000000000 false _ j2.out) fun nd=>?_);(try exact dn))|(refine rli .i64 3 59 J2.out fun L2 M2 N2 hb=>?_;have P2:=qa (Kd.R_lower (Kd.R_new' N2 (Kd.R_lt (kR M0))) (below_size (bl)));replace M0:=qa (Kd.R_elder' (kR M0) (Kd.R_base N2) hb);replace HB:=bs hb;clear hb N2)))
       go_ret;exact⟨_,by first|rfl|(simp[errW_none,errW_some] <;> rfl)|(simp only[←Q0,←Y1];first|rfl|(simp[errW_none,errW_some] <;> rfl))|(simp[*,errW_none,errW_some] <;> rfl),by(with_reducible repeat(first|apply Kd.R_alloc|apply Kd.R_drewN|apply Kd.R_drew));exact Kd.R_mono P2.out (fun _ hk=>trivial),bl⟩
   ·obtain rfl:=sj H;go_wp2
    repeat(go_quiet(fail);try go_wp2)
    go_ret;exact⟨_,z1_,kR M0,bl⟩
 ·rw[if_neg w0]at H;exact absurd H (by simp)
end Go.Proofs.YtdmlkjjlgkdnlaaGreatDoor.PFnReadJournal
