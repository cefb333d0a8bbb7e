import Derived.Test.YtdmlkjjlgkdnlaaGreatDoorPFnExactDeskLinex0
import Derived.Lib.SmallJoins
import Derived.Lib.ItoaNum
import Derived.Test.YtdmlkjjlgkdnlaaGreatDoorShelf
namespace Go.Proofs.YtdmlkjjlgkdnlaaGreatDoor.PFnExactDeskLine
open Go.RowKit Go.Proofs.YtdmlkjjlgkdnlaaGreatDoorW.PrintWords Go.Proofs.YtdmlkjjlgkdnlaaGreatDoorW.PrintLast Go.Proofs.YtdmlkjjlgkdnlaaGreatDoorW.PrintMore
attribute [local go_sem] max2_int min2_int max_two min_two max_three min_three max_four min_four
set_option linter.unusedVariables false
set_option linter.unusedSimpArgs false
def laws_toIntS.l0:Nat→List Int→List Int→Int→Option (List Int)
 |0,_,_,_=>none
 |k+1,a0,b0,c0=>if c0<(a0.length:Int)then(if 0≤c0 then(if c0<(b0.length:Int)then(laws_toIntS.l0 k a0 (b0.set (c0:Int).toNat (rd a0 c0)) (wrap64 (c0+1)))else(none))else(none))else(some b0)
def laws_toIntS.f (k:Nat) (a0:List Int):Option (List Int):=if 0≤(a0.length:Int)then(if((a0.length:Int):Int).toNat ≤35184372088832 then(laws_toIntS.l0 k a0 (List.replicate ((a0.length:Int):Int).toNat 0) 0)else(none))else(none)
set_option maxHeartbeats 8000000 in
set_option maxRecDepth 100000 in
theorem laws_toIntS.calls (k:Nat) (a0:Option Addr) (b0:Nat) (c0:List Int) (r:List Int) (w:World) (d0:Kd.C (Kd.int .i64) w a0 c0.length c0) (e0:c0.length≤b0) (h:laws_toIntS.f k c0=some r):
  Calls Tryz.prog 50 #[.slice a0 c0.length b0] w fun e w'=>∃v0_:Value,e= .returned (v0_)∧Kd.R (Kd.int .i64) 3 w' w.heap.size (fun _=>True) v0_ r∧Below w.heap.size w w':=by
 have g0:=qa d0;have j0:=qa e0;clear d0 e0;have HB:=qa (Below.refl w.heap.size w);have H:=h;unfold laws_toIntS.f at H;clear h
 by_cases n0:0≤(c0.length:Int)
 ·rw[if_pos n0]at H;have p0:=eq_true n0;have q0:decide (0≤(c0.length:Int))=true:=decide_eq_true n0;clear n0;replace H:=qn H;obtain⟨r0,H⟩:=H;have s0:=eq_true r0;have t0:decide (((c0.length:Int):Int).toNat ≤35184372088832)=true:=decide_eq_true r0;clear r0;obtain⟨v0,hy_⟩:∃y_:List Int,y_=(List.replicate ((c0.length:Int):Int).toNat 0):=⟨_,rfl⟩;replace H:(laws_toIntS.l0 k c0 v0 0)=some r:=yh;have w0:=qa hy_;clear hy_;have H':=qa H;clear H
  go_enter Tryz.func50,Tryz.ntmps50
  go_wp2_with(first|((with_reducible refine gate_dst (N:=7) rfl ?_);refine Kd.R_make (Kd.int .i64) _ 3 rfl (N:=7) rfl 22 _ _ rfl (c0.length:Int) rfl rfl Tryz.underlying22 (.int .i64 0) 8 info3 rfl (by decide) (by omega) 0 (ok:=fun _=>True) (okp:=fun _=>True) rfl (fun _ hk=>hk) trivial (qo) (Nat.le_trans (Nat.mul_le_mul_right _ (qo:(c0.length:Int).toNat ≤35184372088832)) (by omega)) (Below.refl _ _) (Nat.le_refl _) ?_;intro x0 y0 A0 hb hg_ hnew_;clear hg_ hnew_;(first|rw[←w0.out]at A0|(simp only[Int.reduceToNat]at A0;rw[←w0.out]at A0));have B0:=qa (Kd.R_lower A0 (below_size (bl)));replace HB:=bs hb;clear hb A0))
  go_loopg [4] k (fun kq C0 w'=>∃(D0:List Int) (E0:Int),C0= .int .i64 E0∧Aside0 (laws_toIntS.l0 kq c0 D0 E0=some r)∧Aside0 (kq≤k)∧Aside0 (Kd.R (Kd.int .i64) 3 w' w.heap.size (fun _=>True) x0 D0)∧Aside0 (Below w.heap.size w w'))
  case atStart=>exact⟨(v0),(0),(sd),H',⟨Nat.le_refl _⟩,⟨kR B0⟩,⟨bl⟩⟩
  case round=>
   clear H';obtain⟨D0,E0,rfl,HA,HK1,G0,HB⟩:=hrel;obtain⟨k1,rfl,H⟩:=kz gk HA;clear HA;simp only[laws_toIntS.l0]at H;replace H:=qe H;obtain⟨J0,H⟩|⟨J0,H⟩:=H
   ·replace H:=qd H;obtain⟨K0,H⟩:=H;replace H:=qd H;obtain⟨L0,H⟩:=H;obtain⟨M0,hy_⟩:∃y_:List Int,y_=(D0.set (E0:Int).toNat (rd c0 E0)):=⟨_,rfl⟩;replace H:(laws_toIntS.l0 k1 c0 M0 (wrap64 (E0+1)))=some r:=yh;have N0:=qa hy_;clear hy_;have H':=qa H;clear H;obtain⟨P0,⟨⟩,Q0,R0,U0⟩:=ai g0.out E0;(try replace Q0:=(HB.out.cell (World.block_lt_of_cell? w _ Q0)).trans Q0);have V0:0≤(E0:Int):=qo;have W0:(E0:Int)<((D0.length:Int):Int):=qo;obtain⟨X0,Y0,a1,b1,gl9,cl9,HG9⟩:=Kd.R_form G0.out (by omega);(first|cases a1|(injection a1 with ea_ en_ ec_;(first|subst ea_|(injection ea_ with ea_;subst ea_));subst ec_;clear en_));have GB9:=qa b1;have GG9:=qa HG9;clear b1 gl9 HG9;obtain⟨c1,d1⟩:=Kd.R_celln 0 G0.out (E0:Int) V0 W0;replace V0:=eq_true V0;replace W0:=eq_true W0;have HP10:=Kd.R_putg G0.out (E0:Int) (rd c0 E0)
    go_wp2_with(first|((with_reducible refine gate_store (t:=3) (p:=20) rfl ?_);refine store_event (t:=3) (p:=20) (v:=?vo_w11) (w1:=(wr.setCell ⟨X0,(E0:Int).toNat,none⟩ (.int .i64 (rd c0 E0)))) ?hg ?ho ?hn ?hr ?_;(case ho=>rfl);(case hg=>rfl);(case hn=>rfl);(case hr=>exact gr);intro e1 hw;have hg:wr.grownBy e1 (some X0):=(by rw[hw];exact HP10.2);have hp_:Kd.R (Kd.int .i64) 3 e1 w.heap.size (fun _=>True) (.slice (some ⟨X0,0,none⟩) D0.length Y0) M0:=(by rw[hw,N0.out];exact HP10.1);clear HP10;replace G0:=qa (hp_);replace HB:=qa ((by rw[hw];exact below_set (HB.out) GB9.out:Below w.heap.size w e1));clear hg hw hp_))
    go_roundg k1
    case measure=>have:=HK1.out;omega
    case rel=>exact⟨(M0),(wrap64 (E0+1)),(sd),H',⟨by have:=HK1.out;omega⟩,⟨kR G0⟩,⟨bl⟩⟩
   ·obtain rfl:=sj H;go_wp2;go_ret;exact⟨_,er,kR G0,bl⟩
 ·rw[if_neg n0]at H;exact absurd H (by simp)

def laws_toIntSS.l0:Nat→List (List Int)→List (List Int)→Int→Option ((List (List Int)))
 |0,_,_,_=>none
 |k+1,a0,b0,c0=>if c0<(a0.length:Int)then(if 0≤c0 then((laws_toIntS.f k (rd_L1 a0 c0)).bind fun d0=>(if c0<(b0.length:Int)then(laws_toIntSS.l0 k a0 (b0.set (c0:Int).toNat d0) (wrap64 (c0+1)))else(none)))else(none))else(some b0)
def laws_toIntSS.f (k:Nat) (a0:List (List Int)):Option ((List (List Int))):=if 0≤(a0.length:Int)then(if((a0.length:Int):Int).toNat ≤11728124029610 then(laws_toIntSS.l0 k a0 (List.replicate ((a0.length:Int):Int).toNat []) 0)else(none))else(none)
set_option maxHeartbeats 8000000 in
set_option maxRecDepth 100000 in
theorem laws_toIntSS.calls (k:Nat) (a0:Option Addr) (b0:Nat) (c0:List (List Int)) (r:List (List Int)) (w:World) (d0:Kd.C (Kd.slice 3 (Kd.int .i64)) w a0 c0.length c0) (e0:c0.length≤b0) (h:laws_toIntSS.f k c0=some r):
  Calls Tryz.prog 51 #[.slice a0 c0.length b0] w fun e w'=>∃v0_:Value,e= .returned (v0_)∧Kd.S (Kd.slice 3 (Kd.int .i64)) 22 w' w.heap.size (fun _=>True) v0_ r∧Below w.heap.size w w':=by
 have g0:=qa d0;have j0:=qa e0;clear d0 e0;have HB:=qa (Below.refl w.heap.size w);have H:=h;unfold laws_toIntSS.f at H;clear h
 by_cases n0:0≤(c0.length:Int)
 ·rw[if_pos n0]at H;have p0:=eq_true n0;have q0:decide (0≤(c0.length:Int))=true:=decide_eq_true n0;clear n0;replace H:=qn H;obtain⟨r0,H⟩:=H;have s0:=eq_true r0;have t0:decide (((c0.length:Int):Int).toNat ≤11728124029610)=true:=decide_eq_true r0;clear r0;obtain⟨v0,hy_⟩:∃y_:List (List Int),y_=(List.replicate ((c0.length:Int):Int).toNat []):=⟨_,rfl⟩;replace H:(laws_toIntSS.l0 k c0 v0 0)=some r:=yh;have w0:=qa hy_;clear hy_;have H':=qa H;clear H
  go_enter Tryz.func51,Tryz.ntmps51
  go_wp2_with(first|((with_reducible refine gate_dst (N:=7) rfl ?_);refine Kd.S_make (Kd.slice 3 (Kd.int .i64)) _ 22 rfl (N:=7) rfl 23 _ _ rfl (c0.length:Int) rfl rfl Tryz.underlying23 (.slice none 0 0) 24 info22 rfl (by decide) (by omega) [] (ok:=fun _=>True) (okp:=fun _=>True) ⟨_,rfl,Kd.R_nil _ _ _ _ _⟩ (fun _ hk=>hk) trivial (qo) (Nat.le_trans (Nat.mul_le_mul_right _ (qo:(c0.length:Int).toNat ≤11728124029610)) (by omega)) (Below.refl _ _) (Nat.le_refl _) ?_;intro x0 y0 A0 hb hg_ hnew_;clear hg_ hnew_;(first|rw[←w0.out]at A0|(simp only[Int.reduceToNat]at A0;rw[←w0.out]at A0));have B0:=qa (Kd.S_lower A0 (below_size (bl)));replace HB:=bs hb;clear hb A0))
  go_loopg [4] k (fun kq C0 w'=>∃(D0:List (List Int)) (E0:Int),C0= .int .i64 E0∧Aside0 (laws_toIntSS.l0 kq c0 D0 E0=some r)∧Aside0 (kq≤k)∧Aside0 (Kd.S (Kd.slice 3 (Kd.int .i64)) 22 w' w.heap.size (fun _=>True) x0 D0)∧Aside0 (Below w.heap.size w w'))
  case atStart=>exact⟨(v0),(0),(sd),H',⟨Nat.le_refl _⟩,⟨kS B0⟩,⟨bl⟩⟩
  case round=>
   clear H';obtain⟨D0,E0,rfl,HA,HK1,G0,HB⟩:=hrel;obtain⟨k1,rfl,H⟩:=kz gk HA;clear HA;simp only[laws_toIntSS.l0]at H;replace H:=qe H;obtain⟨J0,H⟩|⟨J0,H⟩:=H
   ·replace H:=qd H;obtain⟨K0,H⟩:=H;replace H:=qb H;obtain⟨L0,M0,H⟩:=H;replace H:=qd H;obtain⟨N0,H⟩:=H;obtain⟨P0,hy_⟩:∃y_:List (List Int),y_=(D0.set (E0:Int).toNat L0):=⟨_,rfl⟩;replace H:(laws_toIntSS.l0 k1 c0 P0 (wrap64 (E0+1)))=some r:=yh;have Q0:=qa hy_;clear hy_;have H':=qa H;clear H;obtain⟨R0,U0,V0,⟨⟩,W0,X0,Y0,a1,b1⟩:=cg_L1 g0.out E0;(try replace W0:=(HB.out.cell (World.block_lt_of_cell? w _ W0)).trans W0)
    go_wp2_with(first|(refine ge_ 20 Tryz.func50 (laws_toIntS.calls k1 _ _ (rd_L1 c0 E0) L0 _ (cx (Kd.C_below X0.out HB.out)) Y0.out M0.out) fun c1 d1 e1 hb=>?_;replace G0:=qa (Kd.S_elder' (kS G0) (Kd.R_base e1) hb);have g1:=qa (Kd.R_lower e1 (below_size (bl)));replace HB:=bs hb;have j1:0≤(E0:Int):=qo;have l1:(E0:Int)<((D0.length:Int):Int):=qo;obtain⟨n1,p1,q1,r1,gl10,cl10,HG10⟩:=Kd.S_form G0.out (by omega);(first|cases q1|(injection q1 with ea_ en_ ec_;(first|subst ea_|(injection ea_ with ea_;subst ea_));subst ec_;clear en_));have GB10:=qa r1;have GG10:=qa HG10;clear r1 gl10 HG10;obtain⟨_,ce10,s1,hM10,t1,v1,_,_⟩:=Kd.S_elem G0.out [] (E0:Int) j1 l1;obtain⟨ve10_0,rfl,ge10_0⟩:=hM10;have w1:=t1 0 _ rfl;have x1:=v1 0;(try simp only[show((Kd.slice 3 (Kd.int .i64))).sz =1 from rfl,Nat.mul_one,Nat.add_zero]at w1);(try simp only[show((Kd.slice 3 (Kd.int .i64))).sz =1 from rfl,Nat.mul_one,Nat.add_zero]at x1);replace j1:=eq_true j1;replace l1:=eq_true l1;have n_:=qa (Kd.S_mono (ok':=(fun k_=>some k_≠(c1:Value).ownBlock)) G0.out (fun k_ hk=>hk.2));clear G0;have G0:=n_;clear n_;have HX12:=qa (show Kd.S (Kd.slice 3 (Kd.int .i64)) 22 d1 w.heap.size (fun k_=>((fun _=>True)) k_∧¬((fun k_=>some k_=(c1:Value).ownBlock)) k_) (.slice (some ⟨n1,0,none⟩) D0.length p1) D0 from(by(with_reducible repeat(first|apply Kd.S_alloc|apply Kd.S_drewN|apply Kd.S_drew));exact Kd.S_mono G0.out (fun k_ hk=>⟨trivial,fun e_=>hk e_⟩)));obtain⟨oki12,ce12,y1,hM12,A1,B1,C1,hH12⟩:=Kd.S_elem HX12.out [] (E0:Int) (qo) (by have h_:(E0:Int)<((D0.length:Int):Int):=qo;first|exact h_|(have e_:=(Kd.S_reads' G0.out).1;omega)|simpa using h_);obtain⟨ve12_0,rfl,ge12_0⟩:=hM12;have HP12:=Kd.S_seg hH12 (qo) (by have h_:(E0:Int)<((D0.length:Int):Int):=qo;first|exact h_|(have e_:=(Kd.S_reads' G0.out).1;omega)|simpa using h_) (seg:=[c1]) (j:=0) (show 1≤1 from by decide) (x':=L0) (Kd.M_row (Kd.R_mono (Kd.R_tight rfl (Kd.R_mono (ok':=fun k_=>((fun _=>True)) k_∧k_≠n1) (Kd.R_apart' (g1.out) (Kd.S_typed G0.out) (by decide)) (fun k_ hk=>⟨trivial,fun e_=>(hk.2) (by rw[e_];rfl)⟩))) (fun _ h_=>Or.inr (h_)))) (fun _ hk=>hk) (fun k_ hk_=>((Kd.R_mono (ok':=fun k_=>((fun _=>True)) k_∧k_≠n1) (Kd.R_apart' (g1.out) (Kd.S_typed G0.out) (by decide)) (fun k_ hk=>⟨trivial,fun e_=>(hk.2) (by rw[e_];rfl)⟩))).1 k_ hk_.symm);have D1:=A1 0 _ rfl;(try simp only[show((Kd.slice 3 (Kd.int .i64))).sz =1 from rfl,Nat.mul_one,Nat.add_zero]at D1);have E1:=B1 0;(try simp only[show((Kd.slice 3 (Kd.int .i64))).sz =1 from rfl,Nat.mul_one,Nat.add_zero]at E1);(try simp only[show((Kd.slice 3 (Kd.int .i64))).sz =1 from rfl,Nat.mul_one,Nat.add_zero]at HP12))|((with_reducible refine gate_store (t:=22) (p:=21) rfl ?_);refine store_event (t:=22) (p:=21) (v:=?vo_w13) (w1:=(d1.setCell ⟨n1,(E0:Int).toNat,none⟩ (c1))) ?hg ?ho ?hn ?hr ?_;(case ho=>rfl);(case hg=>rfl);(case hn=>rfl);(case hr=>first|(go_simp;done)|(go_simp;rfl)|(obtain⟨aq_,cq_,eq_⟩:=Kd.R_slice g1.out;(try subst eq_);first|(go_simp;done)|(go_simp;rfl)));intro G1 hw;have hg:d1.grownBy G1 (some n1):=(by rw[hw];exact HP12.2);have hp_:Kd.S (Kd.slice 3 (Kd.int .i64)) 22 G1 w.heap.size (fun _=>True) (.slice (some ⟨n1,0,none⟩) D0.length p1) P0:=(by rw[hw,Q0.out];exact HP12.1);clear HP12;replace G0:=qa (hp_);replace HB:=qa ((by rw[hw];exact below_set (HB.out) GB10.out:Below w.heap.size w G1));clear g1;clear hg hw hp_))
    go_roundg k1
    case measure=>have:=HK1.out;omega
    case rel=>exact⟨(P0),(wrap64 (E0+1)),(sd),H',⟨by have:=HK1.out;omega⟩,⟨kS G0⟩,⟨bl⟩⟩
   ·obtain rfl:=sj H;go_wp2;go_ret;exact⟨_,er,kS G0,bl⟩
 ·rw[if_neg n0]at H;exact absurd H (by simp)

def laws_toDesk.f (k:Nat) (a0:List Int) (b0:List (List Int)):Option (List Int×(List (List Int))):=(laws_toIntS.f k a0).bind fun c0=>((laws_toIntSS.f k b0).bind fun d0=>(some (c0,d0)))
set_option maxHeartbeats 8000000 in
set_option maxRecDepth 100000 in
theorem laws_toDesk.calls (k:Nat) (a0:Option Addr) (b0:Nat) (c0:List Int) (d0:Option Addr) (e0:Nat) (g0:List (List Int)) (j0:List Int) (l0:List (List Int)) (w:World) (n0:Kd.C (Kd.int .i64) w a0 c0.length c0) (p0:c0.length≤b0) (q0:Kd.C (Kd.slice 3 (Kd.int .i64)) w d0 g0.length g0) (r0:g0.length≤e0) (h:laws_toDesk.f k c0 g0=some (j0,l0)):
  Calls Tryz.prog 10 #[.agg #[.slice a0 c0.length b0,.slice d0 g0.length e0]] w fun e w'=>∃v0_ v1_:Value,e= .returned (.agg #[v0_,v1_])∧Kd.R (Kd.int .i64) 3 w' w.heap.size (fun _=>True) v0_ j0∧Kd.S (Kd.slice 3 (Kd.int .i64)) 22 w' w.heap.size (fun k_=>some k_≠(v0_:Value).ownBlock) v1_ l0∧Below w.heap.size w w':=by
 have s0:=Tryz.underlying25;have t0:=Tryz.underlying27;have v0:=qa n0;have w0:=qa p0;clear n0 p0;have x0:=qa q0;have y0:=qa r0;clear q0 r0;have HB:=qa (Below.refl w.heap.size w);have H:=h;unfold laws_toDesk.f at H;clear h;replace H:=qb H;obtain⟨A0,B0,H⟩:=H;replace H:=qb H;obtain⟨C0,D0,H⟩:=H;simp only[Option.some.injEq,Prod.mk.injEq]at H;obtain⟨rfl,rfl⟩:=H
 go_enter Tryz.func10,Tryz.ntmps10
 go_wp2_with(first|(refine bx 1 #[.slice a0 c0.length b0,.slice d0 g0.length e0] 25 ?_;intro E0 hg G0 hbox hb;have J0:=qa (hbox);have K0:=gw hg;have L0:=gw hg;replace HB:=bs hb;clear hb hbox hg)|(refine bx 2 #[.slice none 0 0,.slice none 0 0] 27 ?_;intro M0 hg N0 hbox hb;have P0:=qa (hbox);have Q0:=gw hg;have R0:=gw hg;replace HB:=bs hb;have U0:=qnl hg J0;have V0:=qng hg J0;replace J0:=qbb J0 hb;clear hb hbox hg)|(refine bx 3 #[.slice none 0 0,.slice none 0 0] 27 ?_;intro W0 hg X0 hbox hb;have Y0:=qa (hbox);have a1:=gw hg;have b1:=gw hg;replace HB:=bs hb;have c1:=qnl hg J0;have d1:=qng hg J0;replace J0:=qbb J0 hb;have e1:=qnl hg P0;have g1:=qng hg P0;replace P0:=qbb P0 hb;clear hb hbox hg;have j1:=U0.out;have l1:=V0.out;have n1:=c1.out;have p1:=d1.out;obtain⟨q1,r1,s1,t1⟩:=qk2 J0)|(refine ge_ 6 Tryz.func50 (laws_toIntS.calls k _ _ c0 A0 _ (cx (Kd.C_below v0.out HB.out)) w0.out B0.out) fun v1 w1 x1 hb=>?_;have y1:=qa (Kd.R_lower x1 (below_size (bl)));replace J0:=qbb J0 hb;replace P0:=qbb P0 hb;replace Y0:=qbb Y0 hb;replace HB:=bs hb;obtain⟨A1,B1,rfl⟩:=Kd.R_slice y1.out;have C1:=g1.out;have D1:=e1.out;obtain⟨E1,G1,J1,K1⟩:=qk2 Y0;obtain⟨L1,M1,N1,P1⟩:=qk2 J0)|(refine ge_ 10 Tryz.func51 (laws_toIntSS.calls k _ _ g0 C0 _ (Kd.C_below x0.out (bl)) y0.out D0.out) fun Q1 R1 x1 hb=>?_;have U1:=qa (Kd.S_lower (Kd.S_new' x1 (Kd.R_lt (kFR y1 Y0 (fun _ h_=>h_.1)))) (below_size (bl)));replace y1:=qa (Kd.R_below (kFR y1 Y0 (fun _ h_=>h_.1)) hb);replace J0:=qbb J0 hb;replace P0:=qbb P0 hb;replace Y0:=qa (blk_below (g:=W0) (o:= .cells #[.slice A1 A0.length B1,.slice none 0 0] 27 (0,0)) (kP Y0) hb);replace HB:=bs hb;obtain⟨V1,W1,rfl⟩:=Kd.S_slice U1.out;obtain⟨X1,Y1,a2,b2⟩:=qk2 Y0;obtain⟨c2,d2,e2,g2⟩:=qk2 P0))
 refine bodyPost_ret (results_cell_row rfl _ _ M0 27 #[.slice A1 A0.length B1,.slice V1 C0.length W1] (0,0) _ rfl (by(with_reducible repeat(first|refine blk_drewN ?_ _|refine blk_drew ?_|refine blk_alloc ?_ _));refine blk_put (cs:=#[.slice A1 A0.length B1,.slice none 0 0]) ?_ 1 _ rfl;(with_reducible repeat(first|refine blk_drewN ?_ _|refine blk_drew ?_|refine blk_alloc ?_ _));refine blk_put (cs:=#[.slice none 0 0,.slice none 0 0]) ?_ 0 _ rfl;(with_reducible repeat(first|refine blk_drewN ?_ _|refine blk_drew ?_|refine blk_alloc ?_ _));refine blk_far ?_ e1.out _;(with_reducible repeat(first|refine blk_drewN ?_ _|refine blk_drew ?_|refine blk_alloc ?_ _));exact P0.out) Tryz.underlying27 rfl (by kernel_rfl)) rfl ?_;exact⟨_,_,er,kGR y1.out Y0 P0 (fun _ hk=>trivial),kGS U1.out Y0 P0 (fun _ hk=>hk.1.1.2),bl⟩

def impl_within.l0:Nat→List Int→Int→List Int→Int→Int→Option (Bool)
 |0,_,_,_,_,_=>none
 |k+1,a0,b0,c0,d0,e0=>if e0<d0 then(if 0≤e0 then(if e0<(c0.length:Int)then(if(rd c0 e0)<(wrap64 (-b0))then(some false)else(if(rd c0 e0)>b0 then(some false)else(impl_within.l0 k a0 b0 c0 d0 (wrap64 (e0+1)))))else(none))else(none))else(some ((a0.length:Int)==24))
def impl_within.f (k:Nat) (a0:List Int) (b0:Int):Option (Bool):=impl_within.l0 k a0 b0 a0 (a0.length:Int) 0
set_option maxHeartbeats 8000000 in
set_option maxRecDepth 100000 in
theorem impl_within.calls (k:Nat) (a0:Option Addr) (b0:Nat) (c0:List Int) (d0:Int) (r:Bool) (w:World) (e0:Kd.C (Kd.int .i64) w a0 c0.length c0) (g0:c0.length≤b0) (h:impl_within.f k c0 d0=some r):
  Calls Tryz.prog 120 #[.slice a0 c0.length b0,.int .i64 d0] w fun e w'=>e= .returned (.bool r)∧Drawn0 w w':=by
 have j0:=qa e0;have n0:=qa g0;clear e0 g0;have H:=h;unfold impl_within.f at H;clear h;have H':=qa H;clear H
 go_enter Tryz.func120,Tryz.ntmps120
 go_wp2
 go_loopg [9] k (fun kq p0 w'=>∃(q0:Int),p0= .int .i64 q0∧Aside0 (impl_within.l0 kq c0 d0 c0 (c0.length:Int) q0=some r)∧Aside0 (kq≤k)∧Drawn0 w w')
 case atStart=>exact⟨(0),(sd),H',⟨Nat.le_refl _⟩,dr⟩
 case round=>
  clear H';obtain⟨q0,rfl,HA,HK1,⟨m1,rfl⟩⟩:=hrel;obtain⟨k1,rfl,H⟩:=kz gk HA;clear HA;simp only[impl_within.l0]at H;replace H:=qe H;obtain⟨r0,H⟩|⟨r0,H⟩:=H
  ·replace H:=qd H;obtain⟨s0,H⟩:=H;replace H:=qd H;obtain⟨t0,H⟩:=H;replace H:=qe H;obtain⟨v0,H⟩|⟨v0,H⟩:=H
   ·obtain rfl:=sj H;obtain⟨w0,⟨⟩,x0,y0,A0⟩:=ai j0.out q0;go_wp2;go_ret;exact⟨sd,dr⟩
   ·replace H:=qg H;obtain⟨B0,H⟩|⟨B0,H⟩:=H
    ·obtain rfl:=sj H;obtain⟨w0,⟨⟩,x0,y0,A0⟩:=ai j0.out q0;go_wp2;go_ret;exact⟨sd,dr⟩
    ·have H':=qa H;clear H;obtain⟨w0,⟨⟩,x0,y0,A0⟩:=ai j0.out q0;go_wp2
     go_roundg k1
     case measure=>have:=HK1.out;omega
     case rel=>exact⟨(wrap64 (q0+1)),(sd),H',⟨by have:=HK1.out;omega⟩,dr⟩
  ·obtain rfl:=sj H;go_wp2;go_ret;exact⟨sd,dr⟩

def impl_RowOk.f (k:Nat) (a0:List Int):Option (Bool):=(impl_within.f k a0 1000000000).bind fun b0=>(some b0)
set_option maxHeartbeats 8000000 in
set_option maxRecDepth 100000 in
theorem impl_RowOk.calls (k:Nat) (a0:Option Addr) (b0:Nat) (c0:List Int) (r:Bool) (w:World) (d0:Kd.C (Kd.int .i64) w a0 c0.length c0) (e0:c0.length≤b0) (h:impl_RowOk.f k c0=some r):
  Calls Tryz.prog 78 #[.slice a0 c0.length b0] w fun e w'=>e= .returned (.bool r)∧Drawn0 w w':=by
 have g0:=qa d0;have j0:=qa e0;clear d0 e0;have H:=h;unfold impl_RowOk.f at H;clear h;replace H:=qb H;obtain⟨l0,n0,H⟩:=H;obtain rfl:=sj H
 go_enter Tryz.func78,Tryz.ntmps78
 go_wp2_with(first|(refine gd 4 Tryz.func120 (impl_within.calls k _ _ c0 1000000000 l0 _ (cx g0.out) j0.out n0.out) fun nd=>?_))
 go_ret;exact⟨sd,dr⟩

def impl_DeskOk.l0:Nat→List (List Int)→Int→Int→List Int→List (List Int)→Option (Bool)
 |0,_,_,_,_,_=>none
 |k+1,a0,b0,c0,d0,e0=>if c0<b0 then(if 0≤c0 then(if c0<(a0.length:Int)then((impl_RowOk.f k (rd_L1 a0 c0)).bind fun g0=>(if g0=true then(impl_DeskOk.l0 k a0 b0 (wrap64 (c0+1)) d0 e0)else(some false)))else(none))else(none))else((impl_RowOk.f k d0).bind fun j0=>(if j0=true then(some (decide ((e0.length:Int)≤8)))else(some false)))
def impl_DeskOk.f (k:Nat) (a0:List Int) (b0:List (List Int)):Option (Bool):=impl_DeskOk.l0 k b0 (b0.length:Int) 0 a0 b0
set_option maxHeartbeats 8000000 in
set_option maxRecDepth 100000 in
theorem impl_DeskOk.calls (k:Nat) (a0:Option Addr) (b0:Nat) (c0:List Int) (d0:Option Addr) (e0:Nat) (g0:List (List Int)) (r:Bool) (w:World) (j0:Kd.C (Kd.int .i64) w a0 c0.length c0) (n0:c0.length≤b0) (p0:Kd.C (Kd.slice 3 (Kd.int .i64)) w d0 g0.length g0) (q0:g0.length≤e0) (h:impl_DeskOk.f k c0 g0=some r):
  Calls Tryz.prog 37 #[.agg #[.slice a0 c0.length b0,.slice d0 g0.length e0]] w fun e w'=>e= .returned (.bool r)∧Below w.heap.size w w':=by
 have r0:=Tryz.underlying27;have s0:=qa j0;have t0:=qa n0;clear j0 n0;have v0:=qa p0;have w0:=qa q0;clear p0 q0;have HB:=qa (Below.refl w.heap.size w);have H:=h;unfold impl_DeskOk.f at H;clear h;have H':=qa H;clear H
 go_enter Tryz.func37,Tryz.ntmps37
 go_wp2_with(first|((with_reducible refine gate_dst (N:=1) rfl ?_);(try(refine gate_guard (by rfl) ?_;dsimp only));refine bx 1 #[.slice a0 c0.length b0,.slice d0 g0.length e0] 27 ?_;intro x0 hg y0 hbox hb;have A0:=qa (hbox);have B0:=gw hg;have C0:=gw hg;replace HB:=bs hb;clear hb hbox hg;obtain⟨D0,E0,G0,J0⟩:=qk2 A0))
 go_loopg [8] k (fun kq K0 w'=>∃(L0:Int),K0= .int .i64 L0∧Aside0 (impl_DeskOk.l0 kq g0 (g0.length:Int) L0 c0 g0=some r)∧Aside0 (kq≤k)∧Aside0 (w'.heap[x0]? =some (.cells #[(.slice a0 c0.length b0),(.slice d0 g0.length e0)] 27 (0,0)))∧Aside0 (Below w.heap.size w w'))
 case atStart=>exact⟨(0),(sd),H',⟨Nat.le_refl _⟩,⟨bk⟩,⟨bl⟩⟩
 case round=>
  clear H';obtain⟨L0,rfl,HA,HK1,A0,HB⟩:=hrel;obtain⟨k1,rfl,H⟩:=kz gk HA;clear HA;simp only[impl_DeskOk.l0]at H;replace H:=qe H;obtain⟨M0,H⟩|⟨M0,H⟩:=H
  ·replace H:=qd H;obtain⟨N0,H⟩:=H;replace H:=qd H;obtain⟨P0,H⟩:=H;replace H:=qb H;obtain⟨Q0,R0,H⟩:=H;replace H:=qc H;obtain⟨rfl,H⟩|⟨rfl,H⟩:=H
   ·have H':=qa H;clear H;obtain⟨U0,V0,W0,⟨⟩,X0,Y0,a1,b1,c1⟩:=cg_L1 v0.out L0;(try replace X0:=(HB.out.cell (World.block_lt_of_cell? w _ X0)).trans X0)
    go_wp2_with(first|(refine gd 13 Tryz.func78 (impl_RowOk.calls k1 _ _ (rd_L1 g0 L0) true _ (cx (Kd.C_below Y0.out HB.out)) a1.out R0.out) fun nd=>?_))
    go_roundg k1
    case measure=>have:=HK1.out;omega
    case rel=>exact⟨(wrap64 (L0+1)),(sd),H',⟨by have:=HK1.out;omega⟩,⟨bk⟩,⟨bl⟩⟩
   ·obtain rfl:=sj H;obtain⟨U0,V0,W0,⟨⟩,X0,Y0,a1,b1,c1⟩:=cg_L1 v0.out L0;(try replace X0:=(HB.out.cell (World.block_lt_of_cell? w _ X0)).trans X0)
    go_wp2_with(first|(refine gd 13 Tryz.func78 (impl_RowOk.calls k1 _ _ (rd_L1 g0 L0) false _ (cx (Kd.C_below Y0.out HB.out)) a1.out R0.out) fun nd=>?_))
    go_ret;exact⟨er,bl⟩
  ·replace H:=qb H;obtain⟨d1,e1,H⟩:=H;replace H:=qc H;obtain⟨rfl,H⟩|⟨rfl,H⟩:=H
   ·obtain rfl:=sj H;obtain⟨g1,j1,l1,n1⟩:=qk2 A0
    go_wp2_with(first|(refine gd 18 Tryz.func78 (impl_RowOk.calls k1 _ _ c0 true _ (cx (Kd.C_below s0.out HB.out)) t0.out e1.out) fun nd=>?_))
    go_ret;exact⟨er,bl⟩
   ·obtain rfl:=sj H;obtain⟨p1,q1,r1,s1⟩:=qk2 A0
    go_wp2_with(first|(refine gd 18 Tryz.func78 (impl_RowOk.calls k1 _ _ c0 false _ (cx (Kd.C_below s0.out HB.out)) t0.out e1.out) fun nd=>?_))
    go_ret;exact⟨er,bl⟩

-- IMPORT Derived.Lib.SmallJoins
-- IMPORT Derived.Lib.ItoaNum
structure GL (w:World):Prop where
 tab:Lib.TabIs Tryz.prog w "internal/strconv.uint64pow10" .u64 Lib.pow10Tab
 maxlen:∃m,w.cell? ⟨0,0,none⟩=some (.int .i64 m)
 esyn:∃ev,w.cell? ⟨1,0,none⟩=some ev∧(ev= .nilIface ∨∃te pe,ev= .iface te pe)
 eran:∃ev,w.cell? ⟨2,0,none⟩=some ev∧(ev= .nilIface ∨∃te pe,ev= .iface te pe)
theorem gl_pow:Tryz.prog.globalNamed "internal/strconv.uint64pow10" =some 3:=by kernel_rfl
theorem gl_cell {w w':World} {a:Addr} {v:Value} (h:w.cell? a=some v) (hb:Below w.heap.size w w'):w'.cell? a=some v:=(hb.cell (World.block_lt_of_cell? w _ h)).trans h
theorem GL_below {w w':World} (h:GL w) (hb:Below w.heap.size w w'):GL w':=by
 obtain⟨m,hm⟩:=h.maxlen;obtain⟨a0,h1,b0⟩:=h.esyn;obtain⟨c0,h2,d0⟩:=h.eran;exact⟨Joins.tab_stays gl_pow h.tab hb (Nat.le_refl _),⟨m,gl_cell hm hb⟩,⟨a0,gl_cell h1 hb,b0⟩,⟨c0,gl_cell h2 hb,d0⟩⟩

-- GLOBAL
-- IMPORT Derived.Test.YtdmlkjjlgkdnlaaGreatDoorShelf
def strconv_Itoa.f (a0:Int):Option (ByteArray):=if-9223372036854775808≤a0 then(if a0≤9223372036854775807 then some ⟨(Lib.itoa a0).toArray⟩else none)else none
theorem below_grow_ (w:World) (k:Nat) (os:Array Obj):Below w.heap.size w (Go.Sort.grow (w.drewN k) os):=
 ⟨rfl,rfl,rfl,by show w.heap.size≤(w.heap++os).size;rw[Array.size_append];omega,fun j hj=>by show(w.heap++os)[j]? =w.heap[j]?;rw[Array.getElem?_append_left hj]⟩
theorem strconv_Itoa.calls (a0:Int) (r:ByteArray) (w:World) (h:strconv_Itoa.f a0=some r) (hG_:GL w):
  Calls Tryz.prog 77 #[.int .i64 a0] w fun e w'=>e= .returned (.string r)∧Below w.heap.size w w':=by
 unfold strconv_Itoa.f at h
 by_cases h0: -9223372036854775808≤a0
 ·rw[if_pos h0]at h
  by_cases h1:a0≤9223372036854775807
  ·rw[if_pos h1]at h;obtain rfl:=Option.some.inj h;refine(Tryz.strconv_Itoa a0 h0 h1 w hG_.tab).mono ?_;rintro e w' ⟨rfl,k,os,rfl⟩;exact⟨rfl,below_grow_ w k os⟩
  ·rw[if_neg h1]at h;cases h
 ·rw[if_neg h0]at h;cases h
mutual
def impl_DeedText.j0:Nat→Bool→Int→Int→Int→Option (ByteArray)
 |0,_,_,_,_=>none
 |k+1,a0,b0,c0,d0=>if a0=true then((strconv_Itoa.f c0).bind fun e0=>(if 4+e0.size≤9223372036854775807 then(if((⟨#[115,101,116,32]⟩:ByteArray)++e0).size +1≤9223372036854775807 then((strconv_Itoa.f d0).bind fun g0=>(if(((⟨#[115,101,116,32]⟩:ByteArray)++e0)++(⟨#[32]⟩:ByteArray)).size +g0.size≤9223372036854775807 then(some ((((⟨#[115,101,116,32]⟩:ByteArray)++e0)++(⟨#[32]⟩:ByteArray))++g0))else(none)))else(none))else(none)))else(if d0=0 then(if c0<0 then(impl_DeedText.j1 k true b0 c0 d0)else(impl_DeedText.j1 k (decide (c0>9)) b0 c0 d0))else(impl_DeedText.j1 k true b0 c0 d0))
def impl_DeedText.j1:Nat→Bool→Int→Int→Int→Option (ByteArray)
 |0,_,_,_,_=>none
 |k+1,l0,b0,c0,d0=>if l0=true then(some (⟨#[]⟩:ByteArray))else(if b0=0 then((strconv_Itoa.f c0).bind fun n0=>(if 6+n0.size≤9223372036854775807 then(some ((⟨#[116,105,109,101,115,32]⟩:ByteArray)++n0))else(none)))else(if b0=1 then((strconv_Itoa.f c0).bind fun p0=>(if 8+p0.size≤9223372036854775807 then(some ((⟨#[117,110,105,116,97,114,121,32]⟩:ByteArray)++p0))else(none)))else(if c0=0 then(if b0=2 then(some (⟨#[105,110,118,101,114,115,101]⟩:ByteArray))else(if b0=4 then(some (⟨#[98,97,99,107]⟩:ByteArray))else(some (⟨#[]⟩:ByteArray))))else(some (⟨#[]⟩:ByteArray)))))
end

def impl_DeedText.f (k:Nat) (a0:Int) (b0:Int) (c0:Int):Option (ByteArray):=if a0=3 then(if b0≥0 then(if b0≤99 then(if c0≥0 then(impl_DeedText.j0 k (decide (c0≤9999)) a0 b0 c0)else(impl_DeedText.j0 k false a0 b0 c0))else(impl_DeedText.j0 k false a0 b0 c0))else(impl_DeedText.j0 k false a0 b0 c0))else(impl_DeedText.j0 k false a0 b0 c0)
def impl_DeedText.T2:Bool×List (List Nat×List Nat):=(true,[([],[]),([0],[0]),([1],[1]),([2],[2]),([3],[3]),([],[]),([5],[5]),([6,2],[6]),([4,7],[4,7]),([8,7,0,1,2,3,4,5,6,7,8],[8])])
def impl_DeedText.B2:List Nat:=[0,1,3,7,15,0,32,103,255,511]
theorem impl_DeedText.tab2:rtab .any (opsOf Tryz.f33 2)=impl_DeedText.T2:=by kernel_rfl
theorem impl_DeedText.bits2:waitsOk impl_DeedText.T2.2 impl_DeedText.B2=true:=by kernel_rfl
set_option maxHeartbeats 8000000 in
set_option maxRecDepth 100000 in
theorem impl_DeedText.calls (k:Nat) (a0:Int) (b0:Int) (c0:Int) (r:ByteArray) (w:World) (h:impl_DeedText.f k a0 b0 c0=some r) (hG_:GL w):
  Calls Tryz.prog 33 #[.agg #[.int .i64 a0,.int .i64 b0,.int .i64 c0]] w fun e w'=>e= .returned (.string r)∧Below w.heap.size w w':=by
 have d0:=Tryz.underlying55;have HB:=qa (Below.refl w.heap.size w);have H:=h;unfold impl_DeedText.f at H;clear h;have e0:=qa H;clear H
 go_enter Tryz.func33,Tryz.ntmps33
 go_upto_region 1 with(go_big_may;first|(refine bx 1 #[.int .i64 a0,.int .i64 b0,.int .i64 c0] 55 ?_;intro g0 hg l0 hbox hb;have n0:=qa (hbox);have p0:=gw hg;have q0:=gw hg;replace HB:=bs hb;clear hb hbox hg))
 (try simp only[Act.put,List.setIfInBounds_toArray,List.set_cons_zero,List.set_cons_succ])
 go_cut [3] (fun r0 wc=>∃(kq:Nat) (t0:Bool),r0= .bool t0∧Aside0 (impl_DeedText.j0 kq t0 a0 b0 c0=some r)∧Aside0 (kq≤k)∧Aside0 (wc.heap[g0]? =some (.cells #[.int .i64 a0,.int .i64 b0,.int .i64 c0] 55 (0,0)))∧Aside0 (Below w.heap.size w wc))
 case first=>
  have H:=e0.out;clear e0;replace H:=qq H;obtain⟨v0,w0,H⟩|⟨x0,v0,w0,H⟩:=H
  ·(first|rw[v0]|(simp only[i64_w,i32_w];rw[v0])|skip);replace H:=qu H;obtain⟨y0,H⟩|⟨y0,H⟩:=H
   ·replace H:=qe H;obtain⟨A0,H⟩|⟨A0,H⟩:=H
    ·replace H:=qu H;obtain⟨B0,H⟩|⟨B0,H⟩:=H
     ·have H':=qa H;clear H;obtain⟨C0,D0,E0,G0,J0,K0⟩:=qk3 n0;go_wp2;go_meet
      case rel=>exact⟨_,(decide (c0≤9999)),(sd),H',⟨by first|omega|exact Nat.le_refl _⟩,⟨bk⟩,⟨bl⟩⟩
     ·have H':=qa H;clear H;obtain⟨L0,M0,N0,P0,Q0,R0⟩:=qk3 n0;go_wp2;go_meet
      case rel=>exact⟨_,(false),(sd),H',⟨by first|omega|exact Nat.le_refl _⟩,⟨bk⟩,⟨bl⟩⟩
    ·have H':=qa H;clear H;obtain⟨U0,V0,W0,X0,Y0,a1⟩:=qk3 n0;go_wp2;go_meet
     case rel=>exact⟨_,(false),(sd),H',⟨by first|omega|exact Nat.le_refl _⟩,⟨bk⟩,⟨bl⟩⟩
   ·have H':=qa H;clear H;obtain⟨b1,c1,d1,e1,g1,l1⟩:=qk3 n0;go_wp2;go_meet
    case rel=>exact⟨_,(false),(sd),H',⟨by first|omega|exact Nat.le_refl _⟩,⟨bk⟩,⟨bl⟩⟩
  ·(first|rw[v0]|(simp only[i64_w,i32_w];rw[v0])|skip);have H':=qa H;clear H;obtain⟨n1,p1,q1,r1,t1,v1⟩:=qk3 n0;go_wp2;go_meet
   case rel=>exact⟨_,(false),(sd),H',⟨by first|omega|exact Nat.le_refl _⟩,⟨bk⟩,⟨bl⟩⟩
 case rest=>
  clear e0;obtain⟨kq,t0,rfl,HA,w1,n0,HB⟩:=hcut;obtain⟨x1,rfl,H⟩:=kz kq HA;clear HA;simp only[impl_DeedText.j0]at H;replace H:=qc H;obtain⟨rfl,H⟩|⟨rfl,H⟩:=H
  ·replace H:=qb H;obtain⟨y1,A1,H⟩:=H;replace H:=qN H;obtain⟨B1,C1,D1,E1,H⟩:=H;replace H:=qN H;obtain⟨G1,J1,K1,L1,H⟩:=H
   try(have c16bq:=L1;simp only[ByteArray.size_append,show(⟨#[115,101,116,32]⟩:ByteArray).size =4 from rfl]at c16bq)
   replace H:=qb H;obtain⟨M1,N1,H⟩:=H;replace H:=qN H;obtain⟨P1,Q1,R1,U1,H⟩:=H
   try(have c18bq:=U1;simp only[ByteArray.size_append,show(⟨#[115,101,116,32]⟩:ByteArray).size =4 from rfl,show(⟨#[32]⟩:ByteArray).size =1 from rfl]at c18bq)
   obtain rfl:=sj H
   try go_wp2
   replace n0:=qa (blk_drew n0.out);replace HB:=qa (below_drew1 HB.out);refine start_ (n:=10) (S:=fun w'=>w'.cell? ⟨g0,0,none⟩=some (.int .i64 a0)∧w'.cell? ⟨g0,1,none⟩=some (.int .i64 b0)∧w'.cell? ⟨g0,2,none⟩=some (.int .i64 c0)) (ds:=[]) #[false,false,false,false,false,false,false,false,false,false] (by kernel_rfl) rfl rfl ⟨(blk_cell n0.out 0).trans rfl,(blk_cell n0.out 1).trans rfl,(blk_cell n0.out 2).trans rfl⟩ (fun hHeld=>?_);refine with_tabW impl_DeedText.tab2 impl_DeedText.bits2 (fun HT_ HW_=>?_);generalize wc.drew=V1 at n0 HB hHeld ⊢;refine pur 0 27 #[true,false,false,false,false,false,false,false,false,false] HT_ ?_;refine pur 5 32 #[true,false,false,false,false,true,false,false,false,false] HT_ ?_;refine take_ (i:=1) (N:=some 28) (v:=?_) (a':=?_) #[true,true,false,false,false,true,false,false,false,false] rfl rfl (take_ofW HT_.out HW_.out (by kernel_rfl)) (fun _ _ _ h=>h) (Or.inl ⟨by rfl,?_⟩) hHeld ?_ ?_;rotate_left
   ·rintro w' ⟨s0,s1,s2⟩
    go_simp
    with_reducible rfl
   rotate_left
   ·simp only[Act.put,List.setIfInBounds_toArray,List.set_cons_zero,List.set_cons_succ,i64_w,i32_w]
    rfl
   refine take_ (i:=6) (N:=some 33) (v:=?_) (a':=?_) #[true,true,false,false,false,true,true,false,false,false] rfl rfl (take_ofW HT_.out HW_.out (by kernel_rfl)) (fun _ _ _ h=>h) (Or.inl ⟨by rfl,?_⟩) hHeld ?_ ?_;rotate_left
   ·rintro w' ⟨s0,s1,s2⟩
    go_simp
    with_reducible rfl
   rotate_left
   ·simp only[Act.put,List.setIfInBounds_toArray,List.set_cons_zero,List.set_cons_succ,i64_w,i32_w]
    rfl
   refine one_ (i:=2) (N:=some 29) #[true,true,true,false,false,true,true,false,false,false] rfl rfl (one_of HT_.out (by kernel_rfl)) (by decide) (fun K hK=>?_);refine goes_ Tryz.func77 (by kernel_rfl) rfl #[.int .i64 b0] (by rfl) rfl rfl am ?_
   with_reducible refine(strconv_Itoa.calls b0 y1 _ A1.out ?W1).mono ?_
   (case W1=>exact GL_below hG_ (bl));rintro e X1 ⟨rfl,hb⟩;refine⟨_,rfl,?_⟩;replace n0:=qbb n0 hb;replace HB:=bs hb;(try clear hb);(try clear Y1);(try clear hk);(try clear hi);refine hK.out _ _ ⟨(blk_cell n0.out 0).trans rfl,(blk_cell n0.out 1).trans rfl,(blk_cell n0.out 2).trans rfl⟩ (fun hHeld=>?_);clear hK K;refine norm_ (a':=?_) ?_ ?_;rotate_left
   ·show Act.put _ (some 29) _=_;simp only[Act.put,List.setIfInBounds_toArray,List.set_cons_zero,List.set_cons_succ,i64_w,i32_w]
    rfl
   refine pur 3 30 #[true,true,true,true,false,true,true,false,false,false] HT_ ?_;refine pur 4 31 #[true,true,true,true,true,true,true,false,false,false] HT_ ?_;refine one_ (i:=7) (N:=some 34) #[true,true,true,true,true,true,true,true,false,false] rfl rfl (one_of HT_.out (by kernel_rfl)) (by decide) (fun K hK=>?_);refine goes_ Tryz.func77 (by kernel_rfl) rfl #[.int .i64 c0] (by rfl) rfl rfl am ?_
   with_reducible refine(strconv_Itoa.calls c0 M1 _ N1.out ?W1).mono ?_
   (case W1=>exact GL_below hG_ (bl));rintro e a2 ⟨rfl,hb⟩;refine⟨_,rfl,?_⟩;replace n0:=qbb n0 hb;replace HB:=bs hb;(try clear hb);(try clear Y1);(try clear hk);(try clear hi);refine hK.out _ _ ⟨(blk_cell n0.out 0).trans rfl,(blk_cell n0.out 1).trans rfl,(blk_cell n0.out 2).trans rfl⟩ (fun hHeld=>?_);clear hK K;refine norm_ (a':=?_) ?_ ?_;rotate_left
   ·show Act.put _ (some 34) _=_;simp only[Act.put,List.setIfInBounds_toArray,List.set_cons_zero,List.set_cons_succ,i64_w,i32_w]
    rfl
   refine pur 8 35 #[true,true,true,true,true,true,true,true,true,false] HT_ ?_;refine pur 9 2 #[true,true,true,true,true,true,true,true,true,true] HT_ ?_;refine done_ (done_of HT_.out (by kernel_rfl)) ?_
   try go_wp2
   go_ret;exact⟨er,bl⟩
  ·have b2:=qa H;clear H
   go_upto_region 3 with(fail)
   go_cut [36] (fun c2 wc=>∃(kq:Nat) (d2:Bool),c2= .bool d2∧Aside0 (impl_DeedText.j1 kq d2 a0 b0 c0=some r)∧Aside0 (kq≤x1)∧Aside0 (wc.heap[g0]? =some (.cells #[.int .i64 a0,.int .i64 b0,.int .i64 c0] 55 (0,0)))∧Aside0 (Below w.heap.size w wc))
   case first=>
    have H:=b2.out;clear b2;replace H:=qq H;obtain⟨e2,g2,H⟩|⟨j2,e2,g2,H⟩:=H
    ·(first|rw[e2]|(simp only[i64_w,i32_w];rw[e2])|skip);replace H:=qe H;obtain⟨l2,H⟩|⟨l2,H⟩:=H
     ·have H':=qa H;clear H;obtain⟨n2,p2,q2,r2,t2,v2⟩:=qk3 n0;go_wp2;go_meet
      case rel=>exact⟨_,(true),(sd),H',⟨by have:=w1.out;first|omega|exact Nat.le_refl _⟩,⟨bk⟩,⟨bl⟩⟩
     ·have H':=qa H;clear H;obtain⟨w2,x2,y2,A2,B2,C2⟩:=qk3 n0;go_wp2;go_meet
      case rel=>exact⟨_,(decide (b0>9)),(sd),H',⟨by have:=w1.out;first|omega|exact Nat.le_refl _⟩,⟨bk⟩,⟨bl⟩⟩
    ·(first|rw[e2]|(simp only[i64_w,i32_w];rw[e2])|skip);have H':=qa H;clear H;obtain⟨D2,E2,G2,J2,K2,L2⟩:=qk3 n0;go_wp2;go_meet
     case rel=>exact⟨_,(true),(sd),H',⟨by have:=w1.out;first|omega|exact Nat.le_refl _⟩,⟨bk⟩,⟨bl⟩⟩
   case rest=>
    clear b2;obtain⟨kq,d2,rfl,HA,M2,n0,HB⟩:=hcut;obtain⟨N2,rfl,H⟩:=kz kq HA;clear HA;simp only[impl_DeedText.j1]at H;replace H:=qc H;obtain⟨rfl,H⟩|⟨rfl,H⟩:=H
    ·obtain rfl:=sj H;go_wp2;go_ret;exact⟨er,bl⟩
    ·replace H:=qq H;obtain⟨P2,Q2,H⟩|⟨R2,P2,Q2,H⟩:=H
     ·replace H:=qb H;obtain⟨U2,V2,H⟩:=H;replace H:=qN H;obtain⟨W2,X2,Y2,a3,H⟩:=H;obtain rfl:=sj H;obtain⟨b3,c3,d3,e3,g3,j3⟩:=qk3 n0
      go_wp2_with(first|(refine gb 56 Tryz.func77 (strconv_Itoa.calls b0 U2 _ V2.out (GL_below hG_ (bl))) fun l3 hb=>?_;replace n0:=qbb n0 hb;replace HB:=bs hb))
      go_ret;exact⟨er,bl⟩
     ·replace H:=qq H;obtain⟨n3,p3,H⟩|⟨q3,n3,p3,H⟩:=H
      ·replace H:=qb H;obtain⟨r3,s3,H⟩:=H;replace H:=qN H;obtain⟨t3,v3,w3,x3,H⟩:=H;obtain rfl:=sj H;obtain⟨y3,A3,B3,C3,D3,E3⟩:=qk3 n0
       go_wp2_with(first|(refine gb 64 Tryz.func77 (strconv_Itoa.calls b0 r3 _ s3.out (GL_below hG_ (bl))) fun G3 hb=>?_;replace n0:=qbb n0 hb;replace HB:=bs hb))
       go_ret;exact⟨er,bl⟩
      ·replace H:=qq H;obtain⟨J3,K3,H⟩|⟨L3,J3,K3,H⟩:=H
       ·replace H:=qq H;obtain⟨M3,N3,H⟩|⟨P3,M3,N3,H⟩:=H
        ·obtain rfl:=sj H;obtain⟨Q3,R3,U3,V3,W3,X3⟩:=qk3 n0;go_wp2;go_ret;exact⟨er,bl⟩
        ·replace H:=qq H;obtain⟨Y3,a4,H⟩|⟨b4,Y3,a4,H⟩:=H
         ·obtain rfl:=sj H;obtain⟨c4,d4,e4,g4,j4,l4⟩:=qk3 n0;go_wp2;go_ret;exact⟨er,bl⟩
         ·obtain rfl:=sj H;obtain⟨n4,p4,q4,r4,s4,t4⟩:=qk3 n0;go_wp2;go_ret;exact⟨er,bl⟩
       ·obtain rfl:=sj H;obtain⟨v4,w4,x4,y4,A4,B4⟩:=qk3 n0;go_wp2;go_ret;exact⟨er,bl⟩

-- GLOBAL
-- IMPORT Derived.Test.YtdmlkjjlgkdnlaaGreatDoorShelf
def strings_Split.f (a0 b0:ByteArray):Option (List ByteArray):=if a0.size<4294967281 then(if 1≤b0.size then some (Lib.splitB b0 0 (Lib.countB a0 b0) a0)else none)else none
theorem strings_Split.calls (a0:ByteArray) (b0:ByteArray) (r:List ByteArray) (w:World) (h:strings_Split.f a0 b0=some r) (hG_:GL w):
  Calls Tryz.prog 92 #[.string a0,.string b0] w fun e w'=>∃v0_:Value,e= .returned (v0_)∧Kd.R Kd.string 9 w' w.heap.size (fun _=>True) v0_ r∧Below w.heap.size w w':=by
 unfold strings_Split.f at h
 by_cases h0:a0.size<4294967281
 ·rw[if_pos h0]at h
  by_cases h1:1≤b0.size
  ·rw[if_pos h1]at h;obtain rfl:=Option.some.inj h;obtain⟨m,hm⟩:=hG_.maxlen;refine(Tryz.strings_Split a0 b0 m w h0 hm h1).mono ?_;rintro e w' ⟨rfl,rfl⟩;have hl:=Lib.splitB_all b0 h1 0 _ a0 rfl;have hc:=Lib.countB_le b0 h1 a0.size a0 (Nat.le_refl _);refine⟨_,rfl,?_,below_alloc (Below.refl _ _) _⟩;refine Kd.R_of_own (enc:=Value.string) (h1:=fun _=>rfl) ⟨by rw[encs_length,Nat.mul_one],.inr ⟨w.heap.size,Lib.countB a0 b0+1,((Lib.splitB b0 0 (Lib.countB a0 b0) a0).map Value.string).toArray,by rw[hl],Nat.le_refl _,?_,by rw[hl];exact Nat.le_refl _,?_,?_,?_⟩⟩ (fun _ _=>trivial)
   ·show(w.heap.push _)[w.heap.size]? =_
    simp
   ·have:maxLen=9223372036854775807:=rfl
    omega
   ·simp[hl]
   ·rw[Nat.mul_one];unfold encs;exact List.take_of_length_le (by simp)
  ·rw[if_neg h1]at h;cases h
 ·rw[if_neg h0]at h;cases h

def slices_Index_string_string.l0:Nat→List ByteArray→ByteArray→Int→Int→Option (Int)
 |0,_,_,_,_=>none
 |k+1,a0,b0,c0,d0=>if d0<c0 then(if 0≤d0 then(if d0<(a0.length:Int)then(if b0.toList=(rdOf ByteArray.empty a0 d0).toList then(some d0)else(slices_Index_string_string.l0 k a0 b0 c0 (wrap64 (d0+1))))else(none))else(none))else(some (-1))
def slices_Index_string_string.f (k:Nat) (a0:List ByteArray) (b0:ByteArray):Option (Int):=slices_Index_string_string.l0 k a0 b0 (a0.length:Int) 0
set_option maxHeartbeats 8000000 in
set_option maxRecDepth 100000 in
theorem slices_Index_string_string.calls (k:Nat) (a0:Option Addr) (b0:Nat) (c0:List ByteArray) (d0:ByteArray) (r:Int) (w:World) (e0:Kd.C Kd.string w a0 c0.length c0) (g0:c0.length≤b0) (h:slices_Index_string_string.f k c0 d0=some r):
  Calls Tryz.prog 93 #[.slice a0 c0.length b0,.string d0] w fun e w'=>e= .returned (.int .i64 r)∧Drawn0 w w':=by
 have j0:=qa e0;have n0:=qa g0;clear e0 g0;have H:=h;unfold slices_Index_string_string.f at H;clear h;have H':=qa H;clear H
 go_enter Tryz.func93,Tryz.ntmps93
 go_wp2
 go_loopg [8] k (fun kq p0 w'=>∃(q0:Int),p0= .int .i64 q0∧Aside0 (slices_Index_string_string.l0 kq c0 d0 (c0.length:Int) q0=some r)∧Aside0 (kq≤k)∧Drawn0 w w')
 case atStart=>exact⟨(0),(sd),H',⟨Nat.le_refl _⟩,dr⟩
 case round=>
  clear H';obtain⟨q0,rfl,HA,HK1,⟨m1,rfl⟩⟩:=hrel;obtain⟨k1,rfl,H⟩:=kz gk HA;clear HA;simp only[slices_Index_string_string.l0]at H;replace H:=qe H;obtain⟨r0,H⟩|⟨r0,H⟩:=H
  ·replace H:=qd H;obtain⟨s0,H⟩:=H;replace H:=qd H;obtain⟨t0,H⟩:=H;replace H:=qq H;obtain⟨v0,w0,H⟩|⟨x0,v0,w0,H⟩:=H
   ·obtain rfl:=sj H;obtain⟨y0,⟨⟩,A0,B0,C0⟩:=as_ j0.out q0;go_wp2;go_ret;exact⟨sd,dr⟩
   ·have H':=qa H;clear H;obtain⟨y0,⟨⟩,A0,B0,C0⟩:=as_ j0.out q0;go_wp2
    go_roundg k1
    case measure=>have:=HK1.out;omega
    case rel=>exact⟨(wrap64 (q0+1)),(sd),H',⟨by have:=HK1.out;omega⟩,dr⟩
  ·obtain rfl:=sj H;go_wp2;go_ret;exact⟨sd,dr⟩

-- GLOBAL
-- IMPORT Derived.Test.YtdmlkjjlgkdnlaaGreatDoorShelf
def strconv_Atoi.val (s:ByteArray):Int:=match Lib.atoiAll s.data.toList with
 | .ok v => v
 | .range => Lib.atoiSat s.data.toList
 | _ => 0
def strconv_Atoi.err (s:ByteArray):Option Int:=match Lib.atoiAll s.data.toList with
 | .ok _=>none
 |_=>some 0
def strconv_Atoi.f (a0:ByteArray):Option (Int×Option Int):=if a0.size≤281474976710656 then some (strconv_Atoi.val a0,strconv_Atoi.err a0)else none
theorem strconv_Atoi.calls (a0:ByteArray) (b0:Int) (c0:Option Int) (w:World) (h:strconv_Atoi.f a0=some (b0,c0)) (hG_:GL w):
  Calls Tryz.prog 94 #[.string a0] w fun e w'=>∃ev:Value,((c0=none∧ev= .nilIface)∨(c0≠none∧∃te pe,ev= .iface te pe))∧e= .returned (.tuple #[.int .i64 b0,ev])∧Below w.heap.size w w':=by
 unfold strconv_Atoi.f at h
 by_cases h0:a0.size≤281474976710656
 ·rw[if_pos h0]at h;have d0:strconv_Atoi.val a0=b0:=congrArg (·.1) (Option.some.inj h);have e0:strconv_Atoi.err a0=c0:=congrArg (·.2) (Option.some.inj h);unfold strconv_Atoi.val at d0;unfold strconv_Atoi.err at e0
  rcases ha:Lib.atoiAll a0.data.toList with v|_|_
  ·rw[ha]at d0 e0;refine(Tryz.strconv_Atoi_ok a0 (by omega) v ha w).mono ?_;rintro e w' ⟨rfl,hw⟩;refine⟨_,.inl ⟨e0.symm,rfl⟩,by rw[←d0],?_⟩
   rcases hw with rfl|⟨t,rfl⟩
   ·exact Below.refl _ _
   ·exact Lib.bytesWorld_below _ _ _
  ·rw[ha]at d0 e0;obtain⟨ev,h1,h2⟩:=hG_.esyn;refine(Tryz.strconv_Atoi_syntax a0 h0 ha ev w h1 h2).mono ?_;rintro e w' ⟨N,rfl,_,_,hb⟩;exact⟨_,.inr ⟨by rw[←e0];simp,_,_,rfl⟩,by rw[←d0],hb⟩
  ·rw[ha]at d0 e0;obtain⟨ev,h1,h2⟩:=hG_.eran;refine(Tryz.strconv_Atoi_range a0 h0 ha ev w h1 h2).mono ?_;rintro e w' ⟨N,rfl,_,_,hb⟩;exact⟨_,.inr ⟨by rw[←e0];simp,_,_,rfl⟩,by rw[←d0],hb⟩
 ·rw[if_neg h0]at h;cases h
theorem ev0_ {ev:Value} (h:((none:Option Int)=none∧ev= .nilIface)∨((none:Option Int)≠none∧∃te pe,ev= .iface te pe)):ev= .nilIface :=h.elim (·.2) fun z=>absurd rfl z.1
theorem ev1_ {c:Int} {ev:Value} (h:(some c=none∧ev= .nilIface)∨(some c≠none∧∃te pe,ev= .iface te pe)):∃te pe,ev= .iface te pe:=h.elim (fun z=>by cases z.1) (·.2)
mutual
def impl_ReadDeed.j0:Nat→ByteArray→List ByteArray→Int→Bool→Option (Int×Int×Int×Bool)
 |0,_,_,_,_=>none
 |k+1,a0,b0,c0,d0=>if d0=true then(some (0,0,0,false))else((some (([0,1,2,3,4]:List Int):List Int)).bind fun e0=>(if 0≤c0 then(if c0<(e0.length:Int)then(if(b0.length:Int)>1 then(if 1<(b0.length:Int)then((strconv_Atoi.f (rdOf ByteArray.empty b0 1)).bind fun g0=>(impl_ReadDeed.j1 k a0 b0 (rd e0 c0) g0.1 0))else(none))else(impl_ReadDeed.j1 k a0 b0 (rd e0 c0) 0 0))else(none))else(none)))
def impl_ReadDeed.j1:Nat→ByteArray→List ByteArray→Int→Int→Int→Option (Int×Int×Int×Bool)
 |0,_,_,_,_,_=>none
 |k+1,a0,b0,l0,n0,p0=>if(b0.length:Int)>2 then(if 2<(b0.length:Int)then((strconv_Atoi.f (rdOf ByteArray.empty b0 2)).bind fun q0=>((impl_DeedText.f k l0 n0 q0.1).bind fun r0=>(if r0.toList=a0.toList then(some (l0,n0,q0.1,true))else(some (0,0,0,false)))))else(none))else((impl_DeedText.f k l0 n0 p0).bind fun s0=>(if s0.toList=a0.toList then(some (l0,n0,p0,true))else(some (0,0,0,false))))
end

def impl_ReadDeed.f (k:Nat) (a0:ByteArray):Option (Int×Int×Int×Bool):=(strings_Split.f a0 (⟨#[32]⟩:ByteArray)).bind fun b0=>(if 0<(b0.length:Int)then((slices_Index_string_string.f k (([(⟨#[116,105,109,101,115]⟩:ByteArray),(⟨#[117,110,105,116,97,114,121]⟩:ByteArray),(⟨#[105,110,118,101,114,115,101]⟩:ByteArray),(⟨#[115,101,116]⟩:ByteArray),(⟨#[98,97,99,107]⟩:ByteArray)]:List ByteArray)) (rdOf ByteArray.empty b0 0)).bind fun c0=>(if c0<0 then(impl_ReadDeed.j0 k a0 b0 c0 true)else(impl_ReadDeed.j0 k a0 b0 c0 (decide ((b0.length:Int)>3)))))else(none))
set_option maxHeartbeats 8000000 in
set_option maxRecDepth 100000 in
theorem impl_ReadDeed.calls (k:Nat) (a0:ByteArray) (b0:Int) (c0:Int) (d0:Int) (e0:Bool) (w:World) (h:impl_ReadDeed.f k a0=some (b0,c0,d0,e0)) (hG_:GL w):
  Calls Tryz.prog 52 #[.string a0] w fun e w'=>e= .returned (.tuple #[.agg #[.int .i64 b0,.int .i64 c0,.int .i64 d0],.bool e0])∧Below w.heap.size w w':=by
 have g0:=Tryz.underlying55;have HB:=qa (Below.refl w.heap.size w);have H:=h;unfold impl_ReadDeed.f at H;clear h;replace H:=qb H;obtain⟨l0,n0,H⟩:=H;obtain⟨p0,hy_⟩:∃y_:List ByteArray,y_=(([(⟨#[116,105,109,101,115]⟩:ByteArray),(⟨#[117,110,105,116,97,114,121]⟩:ByteArray),(⟨#[105,110,118,101,114,115,101]⟩:ByteArray),(⟨#[115,101,116]⟩:ByteArray),(⟨#[98,97,99,107]⟩:ByteArray)]:List ByteArray)):=⟨_,rfl⟩;replace H:(if 0<(l0.length:Int)then((slices_Index_string_string.f k p0 (rdOf ByteArray.empty l0 0)).bind fun q0=>(if q0<0 then(impl_ReadDeed.j0 k a0 l0 q0 true)else(impl_ReadDeed.j0 k a0 l0 q0 (decide ((l0.length:Int)>3)))))else(none))=some (b0,c0,d0,e0):=yh;have r0:=qa hy_;clear hy_
 by_cases s0:0<(l0.length:Int)
 ·rw[if_pos s0]at H;have t0:decide (0<(l0.length:Int))=true:=decide_eq_true s0;have v0:decide (0<l0.length)=true:=decide_eq_true (by omega);clear s0;replace H:=qb H;obtain⟨q0,w0,H⟩:=H;have x0:=qa H;clear H
  go_enter Tryz.func52,Tryz.ntmps52
  go_upto_region 3 with(go_big_may;first|((with_reducible refine gate_dst (N:=2) rfl ?_);(try(refine gate_guard (by rfl) ?_;dsimp only));refine bx 2 #[.int .i64 0,.int .i64 0,.int .i64 0] 55 ?_;intro y0 hg A0 hbox hb;have B0:=qa (hbox);have C0:=gw hg;have D0:=gw hg;replace HB:=bs hb;clear hb hbox hg)|(refine ge_ 8 Tryz.func92 (strings_Split.calls a0 (⟨#[32]⟩:ByteArray) l0 _ n0.out (GL_below hG_ (bl))) fun E0 G0 J0 hb=>?_;have K0:=qa (Kd.R_lower J0 (below_size (bl)));replace B0:=qbb B0 hb;replace HB:=bs hb)|((with_reducible refine gate_dst (N:=9) rfl ?_);(try(refine gate_guard (by rfl) ?_;dsimp only));refine Kd.R_lit Kd.string _ 9 ?hg (N:=9) ?hd (xs:=([(⟨#[116,105,109,101,115]⟩:ByteArray),(⟨#[117,110,105,116,97,114,121]⟩:ByteArray),(⟨#[105,110,118,101,114,115,101]⟩:ByteArray),(⟨#[115,101,116]⟩:ByteArray),(⟨#[98,97,99,107]⟩:ByteArray)]:List ByteArray)) (inner:=[.string (⟨#[116,105,109,101,115]⟩:ByteArray),.string (⟨#[117,110,105,116,97,114,121]⟩:ByteArray),.string (⟨#[105,110,118,101,114,115,101]⟩:ByteArray),.string (⟨#[115,101,116]⟩:ByteArray),.string (⟨#[98,97,99,107]⟩:ByteArray)]) (ok:=fun _=>True) (okp:=fun _=>True) ?hr ?hp (fun _ hk=>hk) trivial (Below.refl _ _) (Nat.le_refl _) (by simp) ?_;(case hd=>rfl);(case hg=>rfl);(case hr=>exact gr);(case hp=>exact(Reps.one (show Kd.M Kd.string _ _ _ (⟨#[116,105,109,101,115]⟩:ByteArray) [.string (⟨#[116,105,109,101,115]⟩:ByteArray)]from rfl) (Reps.one (show Kd.M Kd.string _ _ _ (⟨#[117,110,105,116,97,114,121]⟩:ByteArray) [.string (⟨#[117,110,105,116,97,114,121]⟩:ByteArray)]from rfl) (Reps.one (show Kd.M Kd.string _ _ _ (⟨#[105,110,118,101,114,115,101]⟩:ByteArray) [.string (⟨#[105,110,118,101,114,115,101]⟩:ByteArray)]from rfl) (Reps.one (show Kd.M Kd.string _ _ _ (⟨#[115,101,116]⟩:ByteArray) [.string (⟨#[115,101,116]⟩:ByteArray)]from rfl) (Reps.one (show Kd.M Kd.string _ _ _ (⟨#[98,97,99,107]⟩:ByteArray) [.string (⟨#[98,97,99,107]⟩:ByteArray)]from rfl) (Reps.none _ _)))))));intro L0 M0 N0 hb hg_ hnew_;clear hg_ hnew_;(first|rw[←r0.out]at N0|(simp only[Int.reduceToNat]at N0;rw[←r0.out]at N0));have P0:=qa (Kd.R_lower (Kd.R_new' N0 (Kd.R_lt (kR K0))) (below_size (bl)));replace K0:=qa (Kd.R_elder' (kR K0) (Kd.R_base N0) hb);replace B0:=qbb B0 hb;replace HB:=bs hb;clear hb N0;obtain⟨Q0,R0,rfl⟩:=Kd.R_slice K0.out;obtain⟨U0,⟨⟩,V0,qi532,W0,X0⟩:=asn 0 (Kd.R_reads' K0.out).2.2 0;(try rw[Addr.add_zero']at V0);obtain⟨Y0,a1,rfl⟩:=Kd.R_slice P0.out)|(refine gd 13 Tryz.func93 (slices_Index_string_string.calls k _ _ p0 (rdOf ByteArray.empty l0 0) q0 _ (cx (Kd.R_reads' P0.out).2.2) ((Kd.R_reads' P0.out).2.1) w0.out) fun nd=>?_))
  (try simp only[Act.put,List.setIfInBounds_toArray,List.set_cons_zero,List.set_cons_succ])
  go_cut [20] (fun b1 wc=>∃(kq:Nat) (c1:Bool),b1= .bool c1∧Aside0 (impl_ReadDeed.j0 kq a0 l0 q0 c1=some (b0,c0,d0,e0))∧Aside0 (kq≤k)∧Aside0 (Kd.R Kd.string 9 wc w.heap.size (fun _=>True) (.slice (some U0) l0.length R0) l0)∧Aside0 (wc.heap[y0]? =some (.cells #[.int .i64 0,.int .i64 0,.int .i64 0] 55 (0,0)))∧Aside0 (Below w.heap.size w wc))
  case first=>
   have H:=x0.out;clear x0;replace H:=qe H;obtain⟨d1,H⟩|⟨d1,H⟩:=H
   ·(first|rw[d1]|(simp only[i64_w,i32_w];rw[d1])|skip);have H':=qa H;clear H;go_wp2;go_meet
    case rel=>exact⟨_,(true),(sd),H',⟨by first|omega|exact Nat.le_refl _⟩,⟨by(with_reducible repeat(first|apply Kd.R_alloc|apply Kd.R_drewN|apply Kd.R_drew));exact Kd.R_mono K0.out (fun _ hk=>trivial)⟩,⟨bk⟩,⟨bl⟩⟩
   ·(first|rw[d1]|(simp only[i64_w,i32_w];rw[d1])|skip);have H':=qa H;clear H;go_wp2;go_meet
    case rel=>exact⟨_,(decide ((l0.length:Int)>3)),(sd),H',⟨by first|omega|exact Nat.le_refl _⟩,⟨by(with_reducible repeat(first|apply Kd.R_alloc|apply Kd.R_drewN|apply Kd.R_drew));exact Kd.R_mono K0.out (fun _ hk=>trivial)⟩,⟨bk⟩,⟨bl⟩⟩
  case rest=>
   clear x0;obtain⟨kq,c1,rfl,HA,e1,g1,B0,HB⟩:=hcut;obtain⟨l1,rfl,H⟩:=kz kq HA;clear HA;simp only[impl_ReadDeed.j0]at H;replace H:=qc H;obtain⟨rfl,H⟩|⟨rfl,H⟩:=H
   ·simp only[Option.some.injEq,Prod.mk.injEq]at H;obtain⟨rfl,rfl,rfl,rfl⟩:=H;obtain⟨n1,p1,q1,r1,s1,t1⟩:=qk3 B0;go_wp2;refine bodyPost_ret (results_ct rfl _ _ y0 55 #[.int .i64 0,.int .i64 0,.int .i64 0] (0,0) _ rfl (kP B0) Tryz.underlying55 rfl (by kernel_rfl)) rfl ?_;exact⟨er,bl⟩
   ·replace H:=qs H;obtain⟨v1,w1,H⟩:=H;replace H:=qd H;obtain⟨x1,H⟩:=H;replace H:=qd H;obtain⟨y1,H⟩:=H;have A1:=qa H;clear H
    go_upto_if 29 with(go_big_may;first|((with_reducible refine gate_dst (N:=22) rfl ?_);(try(refine gate_guard (by rfl) ?_;dsimp only));refine Kd.R_lit (Kd.int .i64) _ 3 ?hg (N:=22) ?hd (xs:=([0,1,2,3,4]:List Int)) (inner:=[.int .i64 0,.int .i64 1,.int .i64 2,.int .i64 3,.int .i64 4]) (ok:=fun _=>True) (okp:=fun _=>True) ?hr ?hp (fun _ hk=>hk) trivial (Below.refl _ _) (Nat.le_refl _) (by simp) ?_;(case hd=>rfl);(case hg=>rfl);(case hr=>exact gr);(case hp=>exact(Reps.one (show Kd.M (Kd.int .i64) _ _ _ 0 [.int .i64 0]from rfl) (Reps.one (show Kd.M (Kd.int .i64) _ _ _ 1 [.int .i64 1]from rfl) (Reps.one (show Kd.M (Kd.int .i64) _ _ _ 2 [.int .i64 2]from rfl) (Reps.one (show Kd.M (Kd.int .i64) _ _ _ 3 [.int .i64 3]from rfl) (Reps.one (show Kd.M (Kd.int .i64) _ _ _ 4 [.int .i64 4]from rfl) (Reps.none _ _)))))));intro B1 C1 D1 hb hg_ hnew_;clear hg_ hnew_;(first|rw[←w1.out]at D1|(simp only[Int.reduceToNat]at D1;rw[←w1.out]at D1));replace g1:=qa (Kd.R_below (kR g1) hb);have E1:=qa (Kd.R_lower D1 (below_size (bl)));replace B0:=qbb B0 hb;replace HB:=bs hb;clear hb D1;obtain⟨G1,J1,rfl⟩:=Kd.R_slice E1.out;obtain⟨K1,⟨⟩,L1,M1,N1⟩:=ai (Kd.R_reads' E1.out).2.2 q0)|((with_reducible refine gate_dst (N:=6) rfl ?_);(try(refine gate_guard (by rfl) ?_;dsimp only));refine bx 6 #[.int .i64 0,.int .i64 0,.int .i64 0] 55 ?_;intro P1 hg Q1 hbox hb;replace g1:=qa (Kd.R_below (kR g1) hb);replace E1:=qa (Kd.R_below (kR E1) hb);have R1:=qa (hbox);have U1:=gw hg;have V1:=gw hg;replace HB:=bs hb;have W1:=qnl hg B0;have X1:=qng hg B0;replace B0:=qbb B0 hb;clear hb hbox hg;have Y1:=X1.out;have a2:=W1.out;obtain⟨b2,c2,d2,e2,g2,j2⟩:=qk3 R1))
    (try simp only[Act.put,List.setIfInBounds_toArray,List.set_cons_zero,List.set_cons_succ])
    go_cut [] (fun wc=>∃(kq:Nat) (l2:Int),Aside0 (impl_ReadDeed.j1 kq a0 l0 (rd v1 q0) l2 0=some (b0,c0,d0,e0))∧Aside0 (kq≤l1)∧Aside0 (Kd.R Kd.string 9 wc w.heap.size (fun _=>True) (.slice (some U0) l0.length R0) l0)∧Aside0 (wc.heap[y0]? =some (.cells #[.int .i64 0,.int .i64 0,.int .i64 0] 55 (0,0)))∧Aside0 (wc.heap[P1]? =some (.cells #[.int .i64 (rd v1 q0),.int .i64 l2,.int .i64 0] 55 (0,0)))∧Aside0 (Below w.heap.size w wc))
    case first=>
     have H:=A1.out;clear A1
     by_cases n2:(l0.length:Int)>1
     ·rw[if_pos n2]at H;have p2:decide (1<(l0.length:Int))=true:=decide_eq_true n2;have q2:decide (1<l0.length)=true:=decide_eq_true (by omega);clear n2;(first|rw[p2]|(simp only[i64_w,i32_w];rw[p2])|skip);replace H:=qL 1 H;obtain⟨r2,s2,H⟩:=H;replace H:=qb H;obtain⟨⟨t2,v2⟩,w2,H⟩:=H;(try dsimp only at H);have H':=qa H;clear H;have x2:0≤(1:Int):=(by omega);have y2:1<(l0.length:Int):=qo;obtain⟨A2,B2,C2⟩:=Kd.at_string (Kd.R_reads' g1.out).2.2 1 x2 y2;obtain rfl:U0=A2:=(by injection B2);(try simp only[show(1:Int).toNat =1 from rfl,Nat.reduceMul,Nat.reduceEqDiff,Go.Addr.add,↓reduceIte]at C2);have qi539:(1<l0.length)=True:=eq_true (by omega);(try rw[show((1:Int)).toNat =1 from rfl]at C2);have D2:U0.block≠P1:=Kd.own_blk (Kd.R_ne g1.out R1.out (by decide));have E2:U0.block≠P1:=Kd.own_blk (Kd.R_ne g1.out R1.out (by decide));have G2:U0.block≠P1:=Kd.own_blk (Kd.R_ne g1.out R1.out (by decide));replace C2:=(cell_far (p:=⟨P1,0,none⟩) (by first|(rw[add_block];exact D2)|(show(Addr.add _ _).block ≠_;rw[add_block];exact D2)|exact D2) (.int .i64 (rd v1 q0))).trans C2;replace C2:=(cell_far (p:=⟨P1,1,none⟩) (by first|(rw[add_block];exact E2)|(show(Addr.add _ _).block ≠_;rw[add_block];exact E2)|exact E2) (.int .i64 0)).trans C2;replace C2:=(cell_far (p:=⟨P1,2,none⟩) (by first|(rw[add_block];exact G2)|(show(Addr.add _ _).block ≠_;rw[add_block];exact G2)|exact G2) (.int .i64 0)).trans C2;clear D2;clear E2;clear G2;replace x2:=eq_true x2;replace y2:=eq_true y2
      go_wp2_with(first|(refine gol (some 34) Tryz.func94 #[.string (rdOf ByteArray.empty l0 1)] ?_;(with_reducible refine(strconv_Atoi.calls (rdOf ByteArray.empty l0 1) t2 v2 _ w2.out ?J2).mono ?_);(case J2=>exact GL_below hG_ (bl));rintro e K2 ⟨ev_,hev_,rfl,hb⟩;refine⟨_,rfl,?_⟩;replace g1:=qa (Kd.R_below (kFR g1 R1 (fun _ h_=>h_.1)) hb);replace E1:=qa (Kd.R_below (kFR E1 R1 (fun _ h_=>h_.1)) hb);replace B0:=qbb B0 hb;replace R1:=qa (blk_below (g:=P1) (o:= .cells #[.int .i64 (rd v1 q0),.int .i64 0,.int .i64 0] 55 (0,0)) (kP R1) hb);replace HB:=bs hb;(try simp only[errW_none,errW_some]);have L2:=X1.out;have M2:=W1.out;obtain⟨N2,P2,Q2,R2,U2,V2⟩:=qk3 R1))
      go_meet
      case rel=>exact⟨_,(t2),H',⟨by have:=e1.out;first|omega|exact Nat.le_refl _⟩,⟨kFR g1 R1 (fun _ hk=>trivial)⟩,⟨kb B0⟩,⟨kP R1⟩,⟨bl⟩⟩
     ·rw[if_neg n2]at H;have p2:decide (1<(l0.length:Int))=false:=decide_eq_false n2;have q2:decide (1<l0.length)=false:=decide_eq_false (by omega);clear n2;(first|rw[p2]|(simp only[i64_w,i32_w];rw[p2])|skip);have H':=qa H;clear H;go_wp2;go_meet
      case rel=>exact⟨_,(0),H',⟨by have:=e1.out;first|omega|exact Nat.le_refl _⟩,⟨kFR g1 R1 (fun _ hk=>trivial)⟩,⟨kb B0⟩,⟨kP R1⟩,⟨bl⟩⟩
    case rest=>
     clear A1;obtain⟨kq,l2,HA,W2,g1,B0,R1,HB⟩:=hcut;obtain⟨X2,rfl,H⟩:=kz kq HA;clear HA;simp only[impl_ReadDeed.j1]at H
     by_cases Y2:(l0.length:Int)>2
     ·rw[if_pos Y2]at H;have a3:decide (2<(l0.length:Int))=true:=decide_eq_true Y2;have b3:decide (2<l0.length)=true:=decide_eq_true (by omega);clear Y2;replace H:=qL 2 H;obtain⟨c3,d3,H⟩:=H;replace H:=qb H;obtain⟨⟨e3,g3⟩,j3,H⟩:=H;(try dsimp only at H);replace H:=qb H;obtain⟨l3,n3,H⟩:=H;replace H:=qq H;obtain⟨p3,q3,H⟩|⟨r3,p3,q3,H⟩:=H
      ·simp only[Option.some.injEq,Prod.mk.injEq]at H;obtain⟨rfl,rfl,rfl,rfl⟩:=H;have s3:0≤(2:Int):=(by omega);have t3:2<(l0.length:Int):=qo;obtain⟨v3,w3,x3⟩:=Kd.at_string (Kd.R_reads' g1.out).2.2 2 s3 t3;obtain rfl:U0=v3:=(by injection w3);(try simp only[show(2:Int).toNat =2 from rfl,Nat.reduceMul,Nat.reduceEqDiff,Go.Addr.add,↓reduceIte]at x3);have qi542:(2<l0.length)=True:=eq_true (by omega);(try rw[show((2:Int)).toNat =2 from rfl]at x3);replace s3:=eq_true s3;replace t3:=eq_true t3
       go_wp2_with(first|(refine gol (some 45) Tryz.func94 #[.string (rdOf ByteArray.empty l0 2)] ?_;(with_reducible refine(strconv_Atoi.calls (rdOf ByteArray.empty l0 2) e3 g3 _ j3.out ?J2).mono ?_);(case J2=>exact GL_below hG_ (bl));rintro e y3 ⟨ev_,hev_,rfl,hb⟩;refine⟨_,rfl,?_⟩;replace g1:=qa (Kd.R_below (kR g1) hb);replace B0:=qbb B0 hb;replace R1:=qbb R1 hb;replace HB:=bs hb;(try simp only[errW_none,errW_some]);have A3:=X1.out;have B3:=W1.out;obtain⟨C3,D3,E3,G3,J3,K3⟩:=qk3 R1)|(refine gb 50 Tryz.func33 (impl_DeedText.calls X2 (rd v1 q0) l2 e3 l3 _ n3.out (GL_below hG_ (bl))) fun L3 hb=>?_;replace g1:=qa (Kd.R_below (kFR g1 R1 (fun _ h_=>h_.1)) hb);replace B0:=qbb B0 hb;replace R1:=qa (blk_below (g:=P1) (o:= .cells #[.int .i64 (rd v1 q0),.int .i64 l2,.int .i64 e3] 55 (0,0)) (kP R1) hb);replace HB:=bs hb;obtain⟨M3,N3,P3,Q3,R3,U3⟩:=qk3 R1;obtain⟨V3,W3,X3,Y3,a4,b4⟩:=qk3 B0))
       refine bodyPost_ret (results_ct rfl _ _ y0 55 #[.int .i64 (rd v1 q0),.int .i64 l2,.int .i64 e3] (0,0) _ rfl (kP B0) Tryz.underlying55 rfl (by kernel_rfl)) rfl ?_;exact⟨er,bl⟩
      ·simp only[Option.some.injEq,Prod.mk.injEq]at H;obtain⟨rfl,rfl,rfl,rfl⟩:=H;have s3:0≤(2:Int):=(by omega);have t3:2<(l0.length:Int):=qo;obtain⟨v3,w3,x3⟩:=Kd.at_string (Kd.R_reads' g1.out).2.2 2 s3 t3;obtain rfl:U0=v3:=(by injection w3);(try simp only[show(2:Int).toNat =2 from rfl,Nat.reduceMul,Nat.reduceEqDiff,Go.Addr.add,↓reduceIte]at x3);have qi542:(2<l0.length)=True:=eq_true (by omega);(try rw[show((2:Int)).toNat =2 from rfl]at x3);replace s3:=eq_true s3;replace t3:=eq_true t3
       go_wp2_with(first|(refine gol (some 45) Tryz.func94 #[.string (rdOf ByteArray.empty l0 2)] ?_;(with_reducible refine(strconv_Atoi.calls (rdOf ByteArray.empty l0 2) e3 g3 _ j3.out ?J2).mono ?_);(case J2=>exact GL_below hG_ (bl));rintro e c4 ⟨ev_,hev_,rfl,hb⟩;refine⟨_,rfl,?_⟩;replace g1:=qa (Kd.R_below (kR g1) hb);replace B0:=qbb B0 hb;replace R1:=qbb R1 hb;replace HB:=bs hb;(try simp only[errW_none,errW_some]);have d4:=X1.out;have e4:=W1.out;obtain⟨g4,j4,l4,n4,p4,q4⟩:=qk3 R1)|(refine gb 50 Tryz.func33 (impl_DeedText.calls X2 (rd v1 q0) l2 e3 l3 _ n3.out (GL_below hG_ (bl))) fun r4 hb=>?_;replace g1:=qa (Kd.R_below (kFR g1 R1 (fun _ h_=>h_.1)) hb);replace B0:=qbb B0 hb;replace R1:=qa (blk_below (g:=P1) (o:= .cells #[.int .i64 (rd v1 q0),.int .i64 l2,.int .i64 e3] 55 (0,0)) (kP R1) hb);replace HB:=bs hb;obtain⟨s4,t4,v4,w4,x4,y4⟩:=qk3 B0))
       refine bodyPost_ret (results_ct rfl _ _ y0 55 #[.int .i64 0,.int .i64 0,.int .i64 0] (0,0) _ rfl (kP B0) Tryz.underlying55 rfl (by kernel_rfl)) rfl ?_;exact⟨er,bl⟩
     ·rw[if_neg Y2]at H;have a3:decide (2<(l0.length:Int))=false:=decide_eq_false Y2;have b3:decide (2<l0.length)=false:=decide_eq_false (by omega);clear Y2;replace H:=qb H;obtain⟨A4,B4,H⟩:=H;replace H:=qq H;obtain⟨C4,D4,H⟩|⟨E4,C4,D4,H⟩:=H
      ·simp only[Option.some.injEq,Prod.mk.injEq]at H;obtain⟨rfl,rfl,rfl,rfl⟩:=H;have G4:=X1.out;have J4:=W1.out;obtain⟨K4,L4,M4,N4,P4,Q4⟩:=qk3 R1
       go_wp2_with(first|(refine gb 50 Tryz.func33 (impl_DeedText.calls X2 (rd v1 q0) l2 0 A4 _ B4.out (GL_below hG_ (bl))) fun R4 hb=>?_;replace g1:=qa (Kd.R_below (kR g1) hb);replace B0:=qbb B0 hb;replace R1:=qbb R1 hb;replace HB:=bs hb;obtain⟨U4,V4,W4,X4,Y4,a5⟩:=qk3 R1;obtain⟨b5,c5,d5,e5,g5,j5⟩:=qk3 B0))
       refine bodyPost_ret (results_ct rfl _ _ y0 55 #[.int .i64 (rd v1 q0),.int .i64 l2,.int .i64 0] (0,0) _ rfl (kP B0) Tryz.underlying55 rfl (by kernel_rfl)) rfl ?_;exact⟨er,bl⟩
      ·simp only[Option.some.injEq,Prod.mk.injEq]at H;obtain⟨rfl,rfl,rfl,rfl⟩:=H;have l5:=X1.out;have n5:=W1.out;obtain⟨p5,q5,r5,s5,t5,v5⟩:=qk3 R1
       go_wp2_with(first|(refine gb 50 Tryz.func33 (impl_DeedText.calls X2 (rd v1 q0) l2 0 A4 _ B4.out (GL_below hG_ (bl))) fun w5 hb=>?_;replace g1:=qa (Kd.R_below (kR g1) hb);replace B0:=qbb B0 hb;replace R1:=qbb R1 hb;replace HB:=bs hb;obtain⟨x5,y5,A5,B5,C5,D5⟩:=qk3 B0))
       refine bodyPost_ret (results_ct rfl _ _ y0 55 #[.int .i64 0,.int .i64 0,.int .i64 0] (0,0) _ rfl (kP B0) Tryz.underlying55 rfl (by kernel_rfl)) rfl ?_;exact⟨er,bl⟩
 ·rw[if_neg s0]at H;exact absurd H (by simp)

def slices_Clone_int_int.f (k:Nat) (a0:List Int):Option (List Int):=if 0<a0.length then(if a0.length<17592186044416 then some a0 else none)else none
theorem slices_Clone_int_int.nil_in (w:World) (d:Nat) (a:Option Addr) (l c:Nat):(Op.equalIn (d+1) 22 (.slice a l c) (.slice none 0 0)).run Tryz.prog w= .ok a.isNone w:=by
 cases a <;> simp[Op.equalIn,run_underlying Tryz.underlying22]
theorem slices_Clone_int_int.nil_eq (w:World) (a:Option Addr) (l c:Nat):(binOp .eql 22 (.slice a l c) (.slice none 0 0)).run Tryz.prog w= .ok (.bool a.isNone) w:=by
 have h:(Op.equal 22 (.slice a l c) (.slice none 0 0)).run Tryz.prog w= .ok a.isNone w:=slices_Clone_int_int.nil_in w 9999 a l c
 simp[binOp,h]
set_option maxHeartbeats 8000000 in
set_option maxRecDepth 100000 in
theorem slices_Clone_int_int.calls (k:Nat) (a0:Option Addr) (b0:Nat) (c0:List Int) (r:List Int) (w:World) (d0:Kd.C (Kd.int .i64) w a0 c0.length c0) (e0:c0.length≤b0) (h:slices_Clone_int_int.f k c0=some r):
  Calls Tryz.prog 99 #[.slice a0 c0.length b0] w fun e w'=>∃v0_:Value,e= .returned (v0_)∧Kd.R (Kd.int .i64) 3 w' w.heap.size (fun _=>True) v0_ r∧Below w.heap.size w w':=by
 unfold slices_Clone_int_int.f at h
 by_cases g0:0<c0.length
 ·rw[if_pos g0]at h
  by_cases j0:c0.length<17592186044416
  ·rw[if_pos j0]at h;obtain rfl:=Option.some.inj h;clear h;obtain⟨l0,hA,_⟩:=d0.2.2 g0;subst hA;have n0:=qa d0;have p0:=qa j0;clear d0 e0 g0 j0;have HB:=qa (Below.refl w.heap.size w);have hnilq:=slices_Clone_int_int.nil_eq
   go_enter Tryz.func99,Tryz.ntmps99
   go_wp2_with(first|((with_reducible refine gate_dst (N:=5) rfl ?_);refine Kd.R_lit (Kd.int .i64) _ 3 ?hg (N:=5) ?hd (xs:=([]:List Int)) (inner:=[]) (ok:=fun _=>True) (okp:=fun _=>True) ?hr ?hp (fun _ hk=>hk) trivial (Below.refl _ _) (Nat.le_refl _) (by simp) ?_;(case hd=>rfl);(case hg=>rfl);(case hr=>exact gr);(case hp=>exact(Reps.none _ _));intro q0 r0 s0 hb hg_ hnew_;clear hg_ hnew_;have n0_:=qa (Kd.R_lower s0 (below_size (bl)));have n3_:=qa (below_step (bl) hb);clear HB;have t0:=n0_;have HB:=n3_;clear n0_ n3_;clear hb s0)|((with_reducible refine gate_builtin (b:= .append) (xs:=#[.tmp 5,.tmp 6]) rfl ?_);at_builtin;refine Kd.R_append_rows (Kd.int .i64) (w0:=w) w.heap.size rfl (.tmp 5) (.tmp 6) 22 3 (.int .i64 0) 8 rfl Tryz.underlying22 info3 rfl (by decide) (by omega) q0 ([]:List Int) c0 _ _ _ (fun _=>True) (fun _=>False) rfl rfl ?aO ?aR (fun _ _ h=>h) (fun _ h=>h.elim) ?aF ?aB ?aS ?aL ?_;(case aR=>exact cx (Kd.C_below n0.out HB.out));(case aB=>exact(bl));(case aF=>exact(fun _ _=>trivial));(case aO=>exact(kR t0));(case aS=>exact(below_size (bl)));(case aL=>have:=p0.out;simp;omega);intro v0 w0 ho hb hg hat;rw[List.nil_append]at ho;have n2_:=qa (hb);have n3_:=qa (ho);clear HB;clear t0;have HB:=n2_;have x0:=n3_;clear n2_ n3_;clear ho hb hg hat))
   go_ret;exact⟨_,sd,kR x0,bl⟩
  ·rw[if_neg j0]at h;cases h
 ·rw[if_neg g0]at h;cases h

def impl_copyDesk.l0:Nat→List (List Int)→Int→Int→List Int→List (List Int)→Option (List Int×(List (List Int)))
 |0,_,_,_,_,_=>none
 |k+1,a0,b0,c0,d0,e0=>if c0<b0 then(if 0≤c0 then(if c0<(a0.length:Int)then((slices_Clone_int_int.f k (rd_L1 a0 c0)).bind fun g0=>(if e0.length<5864062014805 then(impl_copyDesk.l0 k a0 b0 (wrap64 (c0+1)) d0 (e0++[g0]))else(none)))else(none))else(none))else(some (d0,e0))
def impl_copyDesk.f (k:Nat) (a0:List Int) (b0:List (List Int)):Option (List Int×(List (List Int))):=(slices_Clone_int_int.f k a0).bind fun c0=>(impl_copyDesk.l0 k b0 (b0.length:Int) 0 c0 ([]:List (List Int)))
def impl_copyDesk.T5:Bool×List (List Nat×List Nat):=(true,[([],[]),([0],[0]),([],[]),([2],[2]),([3],[3]),([1,4,3],[1,4]),([0,1,2,3,4,5],[]),([6,5,5,0,1,2,3,4,5],[5,6])])
def impl_copyDesk.B5:List Nat:=[0,1,0,4,12,31,63,127]
theorem impl_copyDesk.tab5:rtab .any (opsOf Tryz.f54 5)=impl_copyDesk.T5:=by kernel_rfl
theorem impl_copyDesk.bits5:waitsOk impl_copyDesk.T5.2 impl_copyDesk.B5=true:=by kernel_rfl
set_option maxHeartbeats 8000000 in
set_option maxRecDepth 100000 in
theorem impl_copyDesk.calls (k:Nat) (a0:Option Addr) (b0:Nat) (c0:List Int) (d0:Option Addr) (e0:Nat) (g0:List (List Int)) (j0:List Int) (n0:List (List Int)) (w:World) (p0:Kd.C (Kd.int .i64) w a0 c0.length c0) (q0:c0.length≤b0) (r0:Kd.C (Kd.slice 3 (Kd.int .i64)) w d0 g0.length g0) (t0:g0.length≤e0) (h:impl_copyDesk.f k c0 g0=some (j0,n0)):
  Calls Tryz.prog 54 #[.agg #[.slice a0 c0.length b0,.slice d0 g0.length e0]] w fun e w'=>∃v0_ v1_:Value,e= .returned (.agg #[v0_,v1_])∧Kd.R (Kd.int .i64) 3 w' w.heap.size (fun _=>True) v0_ j0∧Kd.S (Kd.slice 3 (Kd.int .i64)) 22 w' w.heap.size (fun k_=>some k_≠(v0_:Value).ownBlock) v1_ n0∧Below w.heap.size w w':=by
 have v0:=Tryz.underlying27;have w0:=qa p0;have x0:=qa q0;clear p0 q0;have y0:=qa r0;have A0:=qa t0;clear r0 t0;have HB:=qa (Below.refl w.heap.size w);have H:=h;unfold impl_copyDesk.f at H;clear h;replace H:=qb H;obtain⟨B0,C0,H⟩:=H;have H':=qa H;clear H
 go_enter Tryz.func54,Tryz.ntmps54
 go_wp2_with(first|(refine bx 1 #[.slice a0 c0.length b0,.slice d0 g0.length e0] 27 ?_;intro D0 hg E0 hbox hb;have G0:=qa (hbox);have J0:=gw hg;have K0:=gw hg;replace HB:=bs hb;clear hb hbox hg)|(refine bx 2 #[.slice none 0 0,.slice none 0 0] 27 ?_;intro L0 hg M0 hbox hb;have N0:=qa (hbox);have P0:=gw hg;have Q0:=gw hg;replace HB:=bs hb;have R0:=qnl hg G0;have U0:=qng hg G0;replace G0:=qbb G0 hb;clear hb hbox hg;have V0:=R0.out;have W0:=U0.out;obtain⟨X0,Y0,a1,b1⟩:=qk2 G0)|(refine ge_ 8 Tryz.func99 (slices_Clone_int_int.calls k _ _ c0 B0 _ (cx (Kd.C_below w0.out HB.out)) x0.out C0.out) fun c1 d1 e1 hb=>?_;have g1:=qa (Kd.R_lower e1 (below_size (bl)));replace G0:=qbb G0 hb;replace N0:=qbb N0 hb;replace HB:=bs hb;obtain⟨j1,l1,rfl⟩:=Kd.R_slice g1.out)|(refine bx 3 #[.slice none 0 0,.slice none 0 0] 27 ?_;intro n1 hg p1 hbox hb;replace g1:=qa (Kd.R_below (kR g1) hb);have q1:=qa (hbox);have r1:=gw hg;have t1:=gw hg;replace HB:=bs hb;have v1:=qnl hg G0;have w1:=qng hg G0;replace G0:=qbb G0 hb;have x1:=qnl hg N0;have y1:=qng hg N0;replace N0:=qbb N0 hb;clear hb hbox hg;have A1:=w1.out;have B1:=v1.out;have C1:=y1.out;have D1:=x1.out;obtain⟨E1,G1,J1,K1⟩:=qk2 q1;obtain⟨L1,M1,N1,P1⟩:=qk2 G0))
 go_loopg [13] k (fun kq Q1 w'=>∃(R1:Int) (U1:List (List Int)) (V1:Value),Q1= .int .i64 R1∧Aside0 (impl_copyDesk.l0 kq g0 (g0.length:Int) R1 B0 U1=some (j0,n0))∧Aside0 (kq≤k)∧Aside0 (Kd.R (Kd.int .i64) 3 w' w.heap.size (fun _=>True) (.slice j1 B0.length l1) B0)∧Aside0 (Kd.S (Kd.slice 3 (Kd.int .i64)) 22 w' w.heap.size (fun k_=>some k_≠((.slice j1 B0.length l1):Value).ownBlock) V1 U1)∧Aside0 (w'.heap[D0]? =some (.cells #[(.slice a0 c0.length b0),(.slice d0 g0.length e0)] 27 (0,0)))∧Aside0 (w'.heap[L0]? =some (.cells #[(.slice none 0 0),(.slice none 0 0)] 27 (0,0)))∧Aside0 (w'.heap[n1]? =some (.cells #[(.slice j1 B0.length l1),V1] 27 (0,0)))∧Aside0 (Below w.heap.size w w'))
 case atStart=>exact⟨(0),(([]:List (List Int))),(.slice none 0 0),(sd),H',⟨Nat.le_refl _⟩,⟨kFR g1 q1 (fun _ hk=>trivial)⟩,⟨z19_⟩,⟨kb G0⟩,⟨kb N0⟩,⟨kP q1⟩,⟨bl⟩⟩
 case round=>
  clear H';obtain⟨R1,U1,V1,rfl,HA,HK1,W1,X1,G0,N0,q1,HB⟩:=hrel;obtain⟨k1,rfl,H⟩:=kz gk HA;clear HA;simp only[impl_copyDesk.l0]at H;replace H:=qe H;obtain⟨Y1,H⟩|⟨Y1,H⟩:=H
  ·replace H:=qd H;obtain⟨a2,H⟩:=H;replace H:=qd H;obtain⟨b2,H⟩:=H;replace H:=qb H;obtain⟨c2,d2,H⟩:=H;replace H:=qn H;obtain⟨e2,H⟩:=H;have g2:=qa e2;clear e2;obtain⟨j2,hy_⟩:∃y_:List (List Int),y_=(U1++[c2]):=⟨_,rfl⟩;replace H:(impl_copyDesk.l0 k1 g0 (g0.length:Int) (wrap64 (R1+1)) B0 j2)=some (j0,n0):=yh;have l2:=qa hy_;clear hy_;have H':=qa H;clear H;obtain⟨n2,p2,q2,⟨⟩,r2,s2,t2,v2,w2⟩:=cg_L1 y0.out R1;(try replace r2:=(HB.out.cell (World.block_lt_of_cell? w _ r2)).trans r2)
   try go_wp2
   replace W1:=qa (Kd.R_drew W1.out);replace X1:=qa (Kd.S_drew X1.out);replace G0:=qa (blk_drew G0.out);replace N0:=qa (blk_drew N0.out);replace q1:=qa (blk_drew q1.out);replace HB:=qa (below_drew1 HB.out);refine start_ (n:=8) (S:=fun w'=>w'.cell? ⟨n1,0,none⟩=some (.slice j1 B0.length l1)∧w'.cell? ⟨n1,1,none⟩=some (V1)) (ds:=[7]) #[false,false,false,false,false,false,false,false] (by kernel_rfl) rfl rfl ⟨(blk_cell q1.out 0).trans rfl,(blk_cell q1.out 1).trans rfl⟩ (fun hHeld=>?_);refine with_tabW impl_copyDesk.tab5 impl_copyDesk.bits5 (fun HT_ HW_=>?_);generalize wr.drew=x2 at W1 X1 G0 N0 q1 HB hHeld ⊢;refine pur 0 17 #[true,false,false,false,false,false,false,false] HT_ ?_;refine pur 2 19 #[true,false,true,false,false,false,false,false] HT_ ?_;refine take_ (i:=1) (N:=some 18) (v:=?_) (a':=?_) #[true,true,true,false,false,false,false,false] rfl rfl (take_ofW HT_.out HW_.out (by kernel_rfl)) (fun _ _ _ h=>h) (Or.inl ⟨by rfl,?_⟩) hHeld ?_ ?_;rotate_left
   ·rintro w' ⟨s0,s1⟩
    go_simp
    with_reducible rfl
   rotate_left
   ·simp only[Act.put,List.setIfInBounds_toArray,List.set_cons_zero,List.set_cons_succ,i64_w,i32_w]
    rfl
   refine one_ (i:=3) (N:=some 20) #[true,true,true,true,false,false,false,false] rfl rfl (one_of HT_.out (by kernel_rfl)) (by decide) (fun K hK=>?_);refine goes_ Tryz.func99 (by kernel_rfl) rfl #[.slice p2 (rd_L1 g0 R1).length q2] (by rfl) rfl rfl am ?_
   with_reducible refine(slices_Clone_int_int.calls k1 _ _ (rd_L1 g0 R1) c2 _ ?y2 ?A2 d2.out).mono ?_
   (case y2=>exact cx (Kd.C_below s2.out HB.out));(case A2=>exact t2.out);rintro e B2 ⟨C2,rfl,e1,hb⟩;refine⟨_,rfl,?_⟩;replace X1:=qa (Kd.S_elder' (kS X1) (Kd.R_base e1) hb);have D2:=qa (Kd.R_lower (Kd.R_new' e1 (Kd.R_lt (kR W1))) (below_size (bl)));replace W1:=qa (Kd.R_elder' (kR W1) (Kd.R_base e1) hb);replace G0:=qbb G0 hb;replace N0:=qbb N0 hb;replace q1:=qbb q1 hb;replace HB:=bs hb;(try clear hb);(try clear E2);(try clear hk);(try clear hi);(try clear e1);obtain⟨G2,J2,K2⟩:=Kd.R_slice D2.out;(first|subst K2|(injection K2 with f1_ f2_ f3_;have f4_:=f1_.symm;have f5_:=f3_.symm;clear f1_ f2_ f3_;subst f4_;subst f5_));refine hK.out _ _ ⟨(blk_cell q1.out 0).trans rfl,(blk_cell q1.out 1).trans rfl⟩ (fun hHeld=>?_);clear hK K;refine norm_ (a':=?_) ?_ ?_;rotate_left
   ·show Act.put _ (some 20) _=_;simp only[Act.put,List.setIfInBounds_toArray,List.set_cons_zero,List.set_cons_succ,i64_w,i32_w]
    rfl
   refine one_ (i:=4) (N:=some 21) #[true,true,true,true,true,false,false,false] rfl rfl (one_of HT_.out (by kernel_rfl)) (by decide) (fun K hK=>?_);refine value_ (w1:=?_) (v:=?_) (by rfl) rfl ?_ ?_;rotate_left 2
   ·go_simp
    constructor
    ·rfl
    ·rfl
   refine hK.out _ _ ⟨(blk_cell (blk_alloc q1.out _) 0).trans rfl,(blk_cell (blk_alloc q1.out _) 1).trans rfl⟩ (fun hHeld=>?_);clear hK K;refine norm_ (a':=?_) ?_ ?_;rotate_left
   ·show Act.put _ (some 21) _=_;simp only[Act.put,List.setIfInBounds_toArray,List.set_cons_zero,List.set_cons_succ,i64_w,i32_w]
    rfl
   refine one_ (i:=5) (N:=some 22) #[true,true,true,true,true,true,false,false] rfl rfl (one_of HT_.out (by kernel_rfl)) (by decide) (fun K hK=>?_);refine Kd.S_append_step (Kd.slice 3 (Kd.int .i64)) (w0:=w) w.heap.size (by rfl) (.tmp 18) (.tmp 21) 23 22 (.slice none 0 0) 24 rfl Tryz.underlying23 info22 rfl (by decide) (by omega) V1 U1 c2 [.slice G2 c2.length J2] (fun k_=>some k_≠(.slice j1 B0.length l1:Value).ownBlock) (fun k_=>some k_=(.slice G2 c2.length J2:Value).ownBlock) rfl rfl ?aP (fun k_ hk_=>((Kd.R_mono (ok':=fun k_=>((fun k_=>some k_≠(.slice j1 B0.length l1:Value).ownBlock)) k_∧some k_≠(V1:Value).ownBlock) (Kd.R_apart' (D2.out) (Kd.S_typed X1.out) (by decide)) (fun k_ hk=>⟨hk.1.2,hk.2⟩))).1 k_ hk_.symm) ?aF ?aO ?aB ?aS ?aL ?_;(case aP=>exact Kd.M_row (Kd.R_mono (Kd.R_tight rfl (Kd.R_mono (ok':=fun k_=>((fun k_=>some k_≠(.slice j1 B0.length l1:Value).ownBlock)) k_∧some k_≠(V1:Value).ownBlock) (Kd.R_apart' (D2.out) (Kd.S_typed X1.out) (by decide)) (fun k_ hk=>⟨hk.1.2,hk.2⟩))) (fun _ h_=>h_)));(case aB=>exact(bl));(case aF=>exact(fun k_ hk=>Kd.fresh' (Kd.R_lt (kR W1)) k_ hk));(case aO=>exact(by(with_reducible repeat(first|apply Kd.S_alloc|apply Kd.S_drewN|apply Kd.S_drew));exact Kd.S_mono X1.out (fun k_ hk=>⟨hk.1,fun e_=>hk.2 e_⟩)));(case aS=>exact(below_size (bl)));(case aL=>have:=g2.out;omega);intro L2 M2 ho hb hg hat;rw[←l2.out]at ho;replace W1:=qa (Kd.R_over' (kR W1) (Kd.S_typed (kS X1)) (by decide) hg);replace G0:=qa (blk_grown (g:=D0) (o:= .cells #[.slice a0 c0.length b0,.slice (some n2) g0.length e0] 27 (0,0)) (bk) hg (Kd.S_ne X1.out G0.out (by decide)));replace N0:=qa (blk_grown (g:=L0) (o:= .cells #[.slice none 0 0,.slice none 0 0] 27 (0,0)) (bk) hg (Kd.S_ne X1.out N0.out (by decide)));replace q1:=qa (blk_grown (g:=n1) (o:= .cells #[.slice j1 B0.length l1,V1] 27 (0,0)) (bk) hg (Kd.S_ne X1.out q1.out (by decide)));replace HB:=qa (hb);have N2:=qa (ho);clear X1 D2;clear ho hb hg hat;obtain⟨P2,Q2,R2⟩:=Kd.S_slice N2.out;(first|subst R2|(injection R2 with f1_ f2_ f3_;have f4_:=f1_.symm;have f5_:=f3_.symm;clear f1_ f2_ f3_;subst f4_;subst f5_));refine hK.out _ _ ⟨(blk_cell q1.out 0).trans rfl,(blk_cell q1.out 1).trans rfl⟩ (fun hHeld=>?_);clear hK K;refine norm_ (a':=?_) ?_ ?_;rotate_left
   ·show Act.put _ (some 22) _=_;simp only[Act.put,List.setIfInBounds_toArray,List.set_cons_zero,List.set_cons_succ,i64_w,i32_w]
    rfl
   refine pur 6 23 #[true,true,true,true,true,true,true,false] HT_ ?_;refine last_ (i:=7) (N:=none) #[true,true,true,true,true,true,true,true] rfl rfl (one_of HT_.out (by kernel_rfl)) (by decide) (fun K hK=>?_);have U2:M2.cell? ⟨n1,1,none⟩=some (V1):=(blk_cell q1.out 1).trans rfl;have V2:=blk_frozen q1.out 1;have W2:=v1.out;have X2:=x1.out;have Y2:=w1.out;have a3:=y1.out;refine skip_ (w1:=?_) (by rfl) rfl ?_ ?_;rotate_left
   ·go_simp
    rfl
   refine hK.out _ _ ?_;clear hK K;refine done_ (done_of HT_.out (by kernel_rfl)) ?_
   try go_wp2
   go_roundg k1
   case measure=>have:=HK1.out;omega
   case rel=>exact⟨(wrap64 (R1+1)),(j2),(.slice P2 j2.length Q2),(sd),H',⟨by have:=HK1.out;omega⟩,⟨kFR W1 q1 (fun _ hk=>trivial)⟩,⟨kFS N2 q1 (fun _ hk=>hk.1)⟩,⟨kb G0⟩,⟨kb N0⟩,⟨kP q1⟩,⟨bl⟩⟩
  ·simp only[Option.some.injEq,Prod.mk.injEq]at H;obtain⟨rfl,rfl⟩:=H;have b3:=w1.out;have c3:=v1.out;have d3:=y1.out;have e3:=x1.out;obtain⟨g3,j3,l3,n3⟩:=qk2 q1;have p3:=U0.out;have q3:=R0.out;obtain⟨r3,s3,t3,v3⟩:=qk2 N0;obtain⟨w3,x3,rfl⟩:=Kd.S_slice X1.out;go_wp2;refine bodyPost_ret (results_cell_row rfl _ _ L0 27 #[.slice j1 B0.length l1,.slice w3 U1.length x3] (0,0) _ rfl (kP N0) Tryz.underlying27 rfl (by kernel_rfl)) rfl ?_;exact⟨_,_,er,kFR W1 N0 (fun _ hk=>trivial),kFS X1 N0 (fun _ hk=>hk.1),bl⟩
end Go.Proofs.YtdmlkjjlgkdnlaaGreatDoor.PFnExactDeskLine
