import Derived.Test.YtdmlkjjlgkdnlaaGreatDoorPFnExactDeskSayx0
import Derived.Lib.SmallJoins
import Derived.Lib.ItoaNum
import Derived.Test.YtdmlkjjlgkdnlaaGreatDoorShelf
namespace Go.Proofs.YtdmlkjjlgkdnlaaGreatDoor.PFnExactDeskSay
open Go.RowKit Go.Proofs.YtdmlkjjlgkdnlaaGreatDoorW.PrintWords Go.Proofs.YtdmlkjjlgkdnlaaGreatDoorW.PrintLast Go.Proofs.YtdmlkjjlgkdnlaaGreatDoorW.PrintMore
attribute [local go_sem] max2_int min2_int max_two min_two max_three min_three max_four min_four
set_option linter.unusedVariables false
set_option linter.unusedSimpArgs false
set_option maxHeartbeats 8000000
set_option maxRecDepth 100000
theorem eqA55 (d:Nat) (w:World) (a0 b0:Int) (c0 d0:Int) (e0 g0:Int):
  (Op.equalIn (d+2) 55 (.agg #[.int .i64 a0,.int .i64 c0,.int .i64 e0]) (.agg #[.int .i64 b0,.int .i64 d0,.int .i64 g0])).run Tryz.prog w= .ok (a0==b0&&(c0==d0&&(e0==g0))) w:=by
 refine eqA_of Tryz.underlying55 kr_ ?_;refine eqf_cons (by rfl) (by go_simp;rfl) (by go_simp;rfl) (by go_simp) ?_;refine eqf_cons (by rfl) (by go_simp;rfl) (by go_simp;rfl) (by go_simp) ?_;exact eqf_last (by rfl) (by go_simp;rfl) (by go_simp;rfl) (by go_simp)
def laws_szIntS.f (a0:List Int) (b0:Int):Option (Int):=if(wrap64 (b0-(a0.length:Int)))<0 then(some (-1))else(some (wrap64 (b0-(a0.length:Int))))
theorem laws_szIntS.calls (a0:Option Addr) (b0:Nat) (c0:List Int) (d0:Int) (r:Int) (w:World) (e0:Kd.C (Kd.int .i64) w a0 c0.length c0) (g0:c0.length≤b0) (h:laws_szIntS.f c0 d0=some r):
  Calls Tryz.prog 38 #[.slice a0 c0.length b0,.int .i64 d0] w fun e w'=>e= .returned (.int .i64 r)∧Drawn0 w w':=by
 have j0:=qa e0;have l0:=qa g0;clear e0 g0;have H:=h;unfold laws_szIntS.f at H;clear h;replace H:=qe H;obtain⟨n0,H⟩|⟨n0,H⟩:=H
 ·obtain rfl:=sj H
  go_enter Tryz.func38,Tryz.ntmps38
  go_wp2;go_ret;exact⟨sd,dr⟩
 ·obtain rfl:=sj H
  go_enter Tryz.func38,Tryz.ntmps38
  go_wp2;go_ret;exact⟨sd,dr⟩

def laws_szIntSS.l0:Nat→List (List Int)→Int→Int→Option (Int)
 |0,_,_,_=>none
 |k+1,a0,b0,c0=>if c0<(a0.length:Int)then(if 0≤c0 then((laws_szIntS.f (rd_L1 a0 c0) b0).bind fun d0=>(if d0<0 then(some (-1))else(laws_szIntSS.l0 k a0 d0 (wrap64 (c0+1)))))else(none))else(some b0)
def laws_szIntSS.f (k:Nat) (a0:List (List Int)) (b0:Int):Option (Int):=if(wrap64 (b0-(a0.length:Int)))<0 then(some (-1))else(laws_szIntSS.l0 k a0 (wrap64 (b0-(a0.length:Int))) 0)
theorem laws_szIntSS.calls (k:Nat) (a0:Option Addr) (b0:Nat) (c0:List (List Int)) (d0:Int) (r:Int) (w:World) (e0:Kd.C (Kd.slice 3 (Kd.int .i64)) w a0 c0.length c0) (g0:c0.length≤b0) (h:laws_szIntSS.f k c0 d0=some r):
  Calls Tryz.prog 39 #[.slice a0 c0.length b0,.int .i64 d0] w fun e w'=>e= .returned (.int .i64 r)∧Drawn0 w w':=by
 have j0:=qa e0;have n0:=qa g0;clear e0 g0;have H:=h;unfold laws_szIntSS.f at H;clear h;replace H:=qe H;obtain⟨p0,H⟩|⟨p0,H⟩:=H
 ·obtain rfl:=sj H
  go_enter Tryz.func39,Tryz.ntmps39
  go_wp2;go_ret;exact⟨sd,dr⟩
 ·have H':=qa H;clear H
  go_enter Tryz.func39,Tryz.ntmps39
  go_wp2
  go_loopg [1,5] k (fun kq q0 r0 w'=>∃(s0:Int) (t0:Int),q0= .int .i64 s0∧r0= .int .i64 t0∧Aside0 (laws_szIntSS.l0 kq c0 s0 t0=some r)∧Aside0 (kq≤k)∧Drawn0 w w')
  case atStart=>exact⟨(wrap64 (d0-(c0.length:Int))),(0),(sd),(sd),H',⟨Nat.le_refl _⟩,dr⟩
  case round=>
   clear H';obtain⟨s0,t0,rfl,rfl,HA,HK1,⟨m1,rfl⟩⟩:=hrel;obtain⟨k1,rfl,H⟩:=kz gk HA;clear HA;simp only[laws_szIntSS.l0]at H;replace H:=qe H;obtain⟨v0,H⟩|⟨v0,H⟩:=H
   ·replace H:=qd H;obtain⟨w0,H⟩:=H;replace H:=qb H;obtain⟨x0,y0,H⟩:=H;replace H:=qe H;obtain⟨A0,H⟩|⟨A0,H⟩:=H
    ·obtain rfl:=sj H;obtain⟨B0,C0,D0,⟨⟩,E0,G0,J0,K0,L0⟩:=cg_L1 j0.out t0
     go_wp2_with(first|(refine gd 23 Tryz.func38 (laws_szIntS.calls _ _ (rd_L1 c0 t0) s0 x0 _ (cx G0.out) J0.out y0.out) fun nd=>?_))
     go_ret;exact⟨sd,dr⟩
    ·have H':=qa H;clear H;obtain⟨B0,C0,D0,⟨⟩,E0,G0,J0,K0,L0⟩:=cg_L1 j0.out t0
     go_wp2_with(first|(refine gd 23 Tryz.func38 (laws_szIntS.calls _ _ (rd_L1 c0 t0) s0 x0 _ (cx G0.out) J0.out y0.out) fun nd=>?_))
     go_roundg k1
     case measure=>have:=HK1.out;omega
     case rel=>exact⟨(x0),(wrap64 (t0+1)),(sd),(sd),H',⟨by have:=HK1.out;omega⟩,dr⟩
   ·obtain rfl:=sj H;go_wp2;go_ret;exact⟨sd,dr⟩

def laws_szDesk.f (k:Nat) (a0:List Int) (b0:List (List Int)) (c0:Int):Option (Int):=(laws_szIntS.f a0 c0).bind fun d0=>(if d0<0 then(some (-1))else((laws_szIntSS.f k b0 d0).bind fun e0=>(if e0<0 then(some (-1))else(some e0))))
theorem laws_szDesk.calls (k:Nat) (a0:Option Addr) (b0:Nat) (c0:List Int) (d0:Option Addr) (e0:Nat) (g0:List (List Int)) (j0:Int) (r:Int) (w:World) (l0:Kd.C (Kd.int .i64) w a0 c0.length c0) (n0:c0.length≤b0) (p0:Kd.C (Kd.slice 3 (Kd.int .i64)) w d0 g0.length g0) (q0:g0.length≤e0) (h:laws_szDesk.f k c0 g0 j0=some r):
  Calls Tryz.prog 8 #[.agg #[.slice a0 c0.length b0,.slice d0 g0.length e0],.int .i64 j0] w fun e w'=>e= .returned (.int .i64 r)∧Below w.heap.size w w':=by
 have r0:=Tryz.underlying25;have s0:=qa l0;have t0:=qa n0;clear l0 n0;have v0:=qa p0;have w0:=qa q0;clear p0 q0;have HB:=qa (Below.refl w.heap.size w);have H:=h;unfold laws_szDesk.f at H;clear h;replace H:=qb H;obtain⟨x0,y0,H⟩:=H;replace H:=qe H;obtain⟨A0,H⟩|⟨A0,H⟩:=H
 ·obtain rfl:=sj H
  go_enter Tryz.func8,Tryz.ntmps8
  go_wp2_with(first|(refine bx 2 #[.slice a0 c0.length b0,.slice d0 g0.length e0] 25 ?_;intro B0 hg C0 hbox hb;have D0:=qa (hbox);have E0:=gw hg;have G0:=gw hg;replace HB:=bs hb;clear hb hbox hg;obtain⟨J0,K0,L0,M0⟩:=qk2 D0)|(refine gd 8 Tryz.func38 (laws_szIntS.calls _ _ c0 j0 x0 _ (cx (Kd.C_below s0.out HB.out)) t0.out y0.out) fun nd=>?_))
  go_ret;exact⟨er,bl⟩
 ·replace H:=qb H;obtain⟨N0,P0,H⟩:=H;replace H:=qe H;obtain⟨Q0,H⟩|⟨Q0,H⟩:=H
  ·obtain rfl:=sj H
   go_enter Tryz.func8,Tryz.ntmps8
   go_wp2_with(first|(refine bx 2 #[.slice a0 c0.length b0,.slice d0 g0.length e0] 25 ?_;intro B0 hg R0 hbox hb;have D0:=qa (hbox);have E0:=gw hg;have G0:=gw hg;replace HB:=bs hb;clear hb hbox hg;obtain⟨U0,V0,W0,X0⟩:=qk2 D0)|(refine gd 8 Tryz.func38 (laws_szIntS.calls _ _ c0 j0 x0 _ (cx (Kd.C_below s0.out HB.out)) t0.out y0.out) fun nd=>?_)|(refine gd 14 Tryz.func39 (laws_szIntSS.calls k _ _ g0 x0 N0 _ (cx (Kd.C_below v0.out (bl))) w0.out P0.out) fun nd=>?_))
   go_ret;exact⟨er,bl⟩
  ·obtain rfl:=sj H
   go_enter Tryz.func8,Tryz.ntmps8
   go_wp2_with(first|(refine bx 2 #[.slice a0 c0.length b0,.slice d0 g0.length e0] 25 ?_;intro B0 hg Y0 hbox hb;have D0:=qa (hbox);have E0:=gw hg;have G0:=gw hg;replace HB:=bs hb;clear hb hbox hg;obtain⟨a1,b1,c1,d1⟩:=qk2 D0)|(refine gd 8 Tryz.func38 (laws_szIntS.calls _ _ c0 j0 x0 _ (cx (Kd.C_below s0.out HB.out)) t0.out y0.out) fun nd=>?_)|(refine gd 14 Tryz.func39 (laws_szIntSS.calls k _ _ g0 x0 N0 _ (cx (Kd.C_below v0.out (bl))) w0.out P0.out) fun nd=>?_))
   go_ret;exact⟨er,bl⟩

def laws_toIntS.l0:Nat→List Int→List Int→Int→Option (List Int)
 |0,_,_,_=>none
 |k+1,a0,b0,c0=>if c0<(a0.length:Int)then(if 0≤c0 then(if c0<(b0.length:Int)then(laws_toIntS.l0 k a0 (b0.set (c0:Int).toNat (rd a0 c0)) (wrap64 (c0+1)))else(none))else(none))else(some b0)
def laws_toIntS.f (k:Nat) (a0:List Int):Option (List Int):=if 0≤(a0.length:Int)then(if((a0.length:Int):Int).toNat ≤35184372088832 then(laws_toIntS.l0 k a0 (List.replicate ((a0.length:Int):Int).toNat 0) 0)else(none))else(none)
theorem laws_toIntS.calls (k:Nat) (a0:Option Addr) (b0:Nat) (c0:List Int) (r:List Int) (w:World) (d0:Kd.C (Kd.int .i64) w a0 c0.length c0) (e0:c0.length≤b0) (h:laws_toIntS.f k c0=some r):
  Calls Tryz.prog 50 #[.slice a0 c0.length b0] w fun e w'=>∃v0_:Value,e= .returned (v0_)∧Kd.R (Kd.int .i64) 3 w' w.heap.size (fun _=>True) v0_ r∧Below w.heap.size w w':=by
 have g0:=qa d0;have j0:=qa e0;clear d0 e0;have HB:=qa (Below.refl w.heap.size w);have H:=h;unfold laws_toIntS.f at H;clear h
 by_cases n0:0≤(c0.length:Int)
 ·rw[if_pos n0]at H;have p0:=eq_true n0;have q0:decide (0≤(c0.length:Int))=true:=decide_eq_true n0;clear n0;replace H:=qn H;obtain⟨r0,H⟩:=H;have s0:=eq_true r0;have t0:decide (((c0.length:Int):Int).toNat ≤35184372088832)=true:=decide_eq_true r0;clear r0;obtain⟨v0,hy_⟩:∃y_:List Int,y_=(List.replicate ((c0.length:Int):Int).toNat 0):=⟨_,rfl⟩;replace H:(laws_toIntS.l0 k c0 v0 0)=some r:=yh;have w0:=qa hy_;clear hy_;have H':=qa H;clear H
  go_enter Tryz.func50,Tryz.ntmps50
  go_wp2_with(first|((with_reducible refine gate_dst (N:=7) rfl ?_);refine Kd.R_make (Kd.int .i64) _ 3 rfl (N:=7) rfl 22 _ _ rfl (c0.length:Int) rfl rfl Tryz.underlying22 (.int .i64 0) 8 info3 rfl kd_ ko_ 0 (ok:=fun _=>True) (okp:=fun _=>True) rfl (fun _ hk=>hk) trivial (qo) (Nat.le_trans (Nat.mul_le_mul_right _ (qo:(c0.length:Int).toNat ≤35184372088832)) ko_) (Below.refl _ _) (Nat.le_refl _) ?_;intro x0 y0 A0 hb hg_ hnew_;clear hg_ hnew_;(first|rw[←w0.out]at A0|(simp only[Int.reduceToNat]at A0;rw[←w0.out]at A0));have B0:=qa (Kd.R_lower A0 (below_size (bl)));replace HB:=bs hb;clear hb A0))
  go_loopg [4] k (fun kq C0 w'=>∃(D0:List Int) (E0:Int),C0= .int .i64 E0∧Aside0 (laws_toIntS.l0 kq c0 D0 E0=some r)∧Aside0 (kq≤k)∧Aside0 (Kd.R (Kd.int .i64) 3 w' w.heap.size (fun _=>True) x0 D0)∧Aside0 (Below w.heap.size w w'))
  case atStart=>exact⟨(v0),(0),(sd),H',⟨Nat.le_refl _⟩,⟨kR B0⟩,⟨bl⟩⟩
  case round=>
   clear H';obtain⟨D0,E0,rfl,HA,HK1,G0,HB⟩:=hrel;obtain⟨k1,rfl,H⟩:=kz gk HA;clear HA;simp only[laws_toIntS.l0]at H;replace H:=qe H;obtain⟨J0,H⟩|⟨J0,H⟩:=H
   ·replace H:=qd H;obtain⟨K0,H⟩:=H;replace H:=qd H;obtain⟨L0,H⟩:=H;obtain⟨M0,hy_⟩:∃y_:List Int,y_=(D0.set (E0:Int).toNat (rd c0 E0)):=⟨_,rfl⟩;replace H:(laws_toIntS.l0 k1 c0 M0 (wrap64 (E0+1)))=some r:=yh;have N0:=qa hy_;clear hy_;have H':=qa H;clear H;obtain⟨P0,⟨⟩,Q0,R0,U0⟩:=ai g0.out E0;(try replace Q0:=(HB.out.cell (World.block_lt_of_cell? w _ Q0)).trans Q0);have V0:0≤(E0:Int):=qo;have W0:(E0:Int)<((D0.length:Int):Int):=qo;obtain⟨X0,Y0,a1,b1,gl9,cl9,HG9⟩:=Kd.R_form G0.out ko_;(first|cases a1|(injection a1 with ea_ en_ ec_;(first|subst ea_|(injection ea_ with ea_;subst ea_));subst ec_;clear en_));have GB9:=qa b1;have GG9:=qa HG9;clear b1 gl9 HG9;obtain⟨c1,d1⟩:=Kd.R_celln 0 G0.out (E0:Int) V0 W0;replace V0:=eq_true V0;replace W0:=eq_true W0;have HP10:=Kd.R_putg G0.out (E0:Int) (rd c0 E0)
    go_wp2_with(first|((with_reducible refine gate_store (t:=3) (p:=20) rfl ?_);refine store_event (t:=3) (p:=20) (v:=?vo_w11) (w1:=(wr.setCell ⟨X0,(E0:Int).toNat,none⟩ (.int .i64 (rd c0 E0)))) ?hg ?ho ?hn ?hr ?_;(case ho=>rfl);(case hg=>rfl);(case hn=>rfl);(case hr=>exact gr);intro e1 hw;have hg:wr.grownBy e1 (some X0):=(by rw[hw];exact HP10.2);have hp_:Kd.R (Kd.int .i64) 3 e1 w.heap.size (fun _=>True) (.slice (some ⟨X0,0,none⟩) D0.length Y0) M0:=(by rw[hw,N0.out];exact HP10.1);clear HP10;replace G0:=qa (hp_);replace HB:=qa ((by rw[hw];exact below_set (HB.out) GB9.out:Below w.heap.size w e1));clear hg hw hp_))
    go_roundg k1
    case measure=>have:=HK1.out;omega
    case rel=>exact⟨(M0),(wrap64 (E0+1)),(sd),H',⟨by have:=HK1.out;omega⟩,⟨kR G0⟩,⟨bl⟩⟩
   ·obtain rfl:=sj H;go_wp2;go_ret;exact⟨_,er,kR G0,bl⟩
 ·rw[if_neg n0]at H;exact absurd H (by simp)

def laws_toIntSS.l0:Nat→List (List Int)→List (List Int)→Int→Option ((List (List Int)))
 |0,_,_,_=>none
 |k+1,a0,b0,c0=>if c0<(a0.length:Int)then(if 0≤c0 then((laws_toIntS.f k (rd_L1 a0 c0)).bind fun d0=>(if c0<(b0.length:Int)then(laws_toIntSS.l0 k a0 (b0.set (c0:Int).toNat d0) (wrap64 (c0+1)))else(none)))else(none))else(some b0)
def laws_toIntSS.f (k:Nat) (a0:List (List Int)):Option ((List (List Int))):=if 0≤(a0.length:Int)then(if((a0.length:Int):Int).toNat ≤11728124029610 then(laws_toIntSS.l0 k a0 (List.replicate ((a0.length:Int):Int).toNat []) 0)else(none))else(none)
theorem laws_toIntSS.calls (k:Nat) (a0:Option Addr) (b0:Nat) (c0:List (List Int)) (r:List (List Int)) (w:World) (d0:Kd.C (Kd.slice 3 (Kd.int .i64)) w a0 c0.length c0) (e0:c0.length≤b0) (h:laws_toIntSS.f k c0=some r):
  Calls Tryz.prog 51 #[.slice a0 c0.length b0] w fun e w'=>∃v0_:Value,e= .returned (v0_)∧Kd.S (Kd.slice 3 (Kd.int .i64)) 22 w' w.heap.size (fun _=>True) v0_ r∧Below w.heap.size w w':=by
 have g0:=qa d0;have j0:=qa e0;clear d0 e0;have HB:=qa (Below.refl w.heap.size w);have H:=h;unfold laws_toIntSS.f at H;clear h
 by_cases n0:0≤(c0.length:Int)
 ·rw[if_pos n0]at H;have p0:=eq_true n0;have q0:decide (0≤(c0.length:Int))=true:=decide_eq_true n0;clear n0;replace H:=qn H;obtain⟨r0,H⟩:=H;have s0:=eq_true r0;have t0:decide (((c0.length:Int):Int).toNat ≤11728124029610)=true:=decide_eq_true r0;clear r0;obtain⟨v0,hy_⟩:∃y_:List (List Int),y_=(List.replicate ((c0.length:Int):Int).toNat []):=⟨_,rfl⟩;replace H:(laws_toIntSS.l0 k c0 v0 0)=some r:=yh;have w0:=qa hy_;clear hy_;have H':=qa H;clear H
  go_enter Tryz.func51,Tryz.ntmps51
  go_wp2_with(first|((with_reducible refine gate_dst (N:=7) rfl ?_);refine Kd.S_make (Kd.slice 3 (Kd.int .i64)) _ 22 rfl (N:=7) rfl 23 _ _ rfl (c0.length:Int) rfl rfl Tryz.underlying23 (.slice none 0 0) 24 info22 rfl kd_ ko_ [] (ok:=fun _=>True) (okp:=fun _=>True) ⟨_,rfl,Kd.R_nil _ _ _ _ _⟩ (fun _ hk=>hk) trivial (qo) (Nat.le_trans (Nat.mul_le_mul_right _ (qo:(c0.length:Int).toNat ≤11728124029610)) ko_) (Below.refl _ _) (Nat.le_refl _) ?_;intro x0 y0 A0 hb hg_ hnew_;clear hg_ hnew_;(first|rw[←w0.out]at A0|(simp only[Int.reduceToNat]at A0;rw[←w0.out]at A0));have B0:=qa (Kd.S_lower A0 (below_size (bl)));replace HB:=bs hb;clear hb A0))
  go_loopg [4] k (fun kq C0 w'=>∃(D0:List (List Int)) (E0:Int),C0= .int .i64 E0∧Aside0 (laws_toIntSS.l0 kq c0 D0 E0=some r)∧Aside0 (kq≤k)∧Aside0 (Kd.S (Kd.slice 3 (Kd.int .i64)) 22 w' w.heap.size (fun _=>True) x0 D0)∧Aside0 (Below w.heap.size w w'))
  case atStart=>exact⟨(v0),(0),(sd),H',⟨Nat.le_refl _⟩,⟨kS B0⟩,⟨bl⟩⟩
  case round=>
   clear H';obtain⟨D0,E0,rfl,HA,HK1,G0,HB⟩:=hrel;obtain⟨k1,rfl,H⟩:=kz gk HA;clear HA;simp only[laws_toIntSS.l0]at H;replace H:=qe H;obtain⟨J0,H⟩|⟨J0,H⟩:=H
   ·replace H:=qd H;obtain⟨K0,H⟩:=H;replace H:=qb H;obtain⟨L0,M0,H⟩:=H;replace H:=qd H;obtain⟨N0,H⟩:=H;obtain⟨P0,hy_⟩:∃y_:List (List Int),y_=(D0.set (E0:Int).toNat L0):=⟨_,rfl⟩;replace H:(laws_toIntSS.l0 k1 c0 P0 (wrap64 (E0+1)))=some r:=yh;have Q0:=qa hy_;clear hy_;have H':=qa H;clear H;obtain⟨R0,U0,V0,⟨⟩,W0,X0,Y0,a1,b1⟩:=cg_L1 g0.out E0;(try replace W0:=(HB.out.cell (World.block_lt_of_cell? w _ W0)).trans W0)
    go_wp2_with(first|(refine ge_ 20 Tryz.func50 (laws_toIntS.calls k1 _ _ (rd_L1 c0 E0) L0 _ (cx (Kd.C_below X0.out HB.out)) Y0.out M0.out) fun c1 d1 e1 hb=>?_;replace G0:=qa (Kd.S_elder' (kS G0) (Kd.R_base e1) hb);have g1:=qa (Kd.R_lower e1 (below_size (bl)));replace HB:=bs hb;have j1:0≤(E0:Int):=qo;have l1:(E0:Int)<((D0.length:Int):Int):=qo;obtain⟨n1,p1,q1,r1,gl10,cl10,HG10⟩:=Kd.S_form G0.out ko_;(first|cases q1|(injection q1 with ea_ en_ ec_;(first|subst ea_|(injection ea_ with ea_;subst ea_));subst ec_;clear en_));have GB10:=qa r1;have GG10:=qa HG10;clear r1 gl10 HG10;obtain⟨_,ce10,s1,hM10,t1,v1,_,_⟩:=Kd.S_elem G0.out [] (E0:Int) j1 l1;obtain⟨ve10_0,rfl,ge10_0⟩:=hM10;have w1:=t1 0 _ rfl;have x1:=v1 0;(try simp only[show((Kd.slice 3 (Kd.int .i64))).sz =1 from rfl,Nat.mul_one,Nat.add_zero]at w1);(try simp only[show((Kd.slice 3 (Kd.int .i64))).sz =1 from rfl,Nat.mul_one,Nat.add_zero]at x1);replace j1:=eq_true j1;replace l1:=eq_true l1;have n_:=qa (Kd.S_mono (ok':=(fun k_=>some k_≠(c1:Value).ownBlock)) G0.out (fun k_ hk=>hk.2));clear G0;have G0:=n_;clear n_;have HX12:=qa (show Kd.S (Kd.slice 3 (Kd.int .i64)) 22 d1 w.heap.size (fun k_=>((fun _=>True)) k_∧¬((fun k_=>some k_=(c1:Value).ownBlock)) k_) (.slice (some ⟨n1,0,none⟩) D0.length p1) D0 from(by(with_reducible repeat(first|apply Kd.S_alloc|apply Kd.S_drewN|apply Kd.S_drew));exact Kd.S_mono G0.out (fun k_ hk=>⟨trivial,fun e_=>hk e_⟩)));obtain⟨oki12,ce12,y1,hM12,A1,B1,C1,hH12⟩:=Kd.S_elem HX12.out [] (E0:Int) (qo) (by have h_:(E0:Int)<((D0.length:Int):Int):=qo;first|exact h_|(have e_:=(Kd.S_reads' G0.out).1;omega)|simpa using h_);obtain⟨ve12_0,rfl,ge12_0⟩:=hM12;have HP12:=Kd.S_seg hH12 (qo) (by have h_:(E0:Int)<((D0.length:Int):Int):=qo;first|exact h_|(have e_:=(Kd.S_reads' G0.out).1;omega)|simpa using h_) (seg:=[c1]) (j:=0) (show 1≤1 from by decide) (x':=L0) (Kd.M_row (Kd.R_mono (Kd.R_tight rfl (Kd.R_mono (ok':=fun k_=>((fun _=>True)) k_∧k_≠n1) (Kd.R_apart' (g1.out) (Kd.S_typed G0.out) kd_) (fun k_ hk=>⟨trivial,fun e_=>(hk.2) (by rw[e_];rfl)⟩))) (fun _ h_=>Or.inr (h_)))) (fun _ hk=>hk) (fun k_ hk_=>((Kd.R_mono (ok':=fun k_=>((fun _=>True)) k_∧k_≠n1) (Kd.R_apart' (g1.out) (Kd.S_typed G0.out) kd_) (fun k_ hk=>⟨trivial,fun e_=>(hk.2) (by rw[e_];rfl)⟩))).1 k_ hk_.symm);have D1:=A1 0 _ rfl;(try simp only[show((Kd.slice 3 (Kd.int .i64))).sz =1 from rfl,Nat.mul_one,Nat.add_zero]at D1);have E1:=B1 0;(try simp only[show((Kd.slice 3 (Kd.int .i64))).sz =1 from rfl,Nat.mul_one,Nat.add_zero]at E1);(try simp only[show((Kd.slice 3 (Kd.int .i64))).sz =1 from rfl,Nat.mul_one,Nat.add_zero]at HP12))|((with_reducible refine gate_store (t:=22) (p:=21) rfl ?_);refine store_event (t:=22) (p:=21) (v:=?vo_w13) (w1:=(d1.setCell ⟨n1,(E0:Int).toNat,none⟩ (c1))) ?hg ?ho ?hn ?hr ?_;(case ho=>rfl);(case hg=>rfl);(case hn=>rfl);(case hr=>first|(go_simp;done)|(go_simp;rfl)|(obtain⟨aq_,cq_,eq_⟩:=Kd.R_slice g1.out;(try subst eq_);first|(go_simp;done)|(go_simp;rfl)));intro G1 hw;have hg:d1.grownBy G1 (some n1):=(by rw[hw];exact HP12.2);have hp_:Kd.S (Kd.slice 3 (Kd.int .i64)) 22 G1 w.heap.size (fun _=>True) (.slice (some ⟨n1,0,none⟩) D0.length p1) P0:=(by rw[hw,Q0.out];exact HP12.1);clear HP12;replace G0:=qa (hp_);replace HB:=qa ((by rw[hw];exact below_set (HB.out) GB10.out:Below w.heap.size w G1));clear g1;clear hg hw hp_))
    go_roundg k1
    case measure=>have:=HK1.out;omega
    case rel=>exact⟨(P0),(wrap64 (E0+1)),(sd),H',⟨by have:=HK1.out;omega⟩,⟨kS G0⟩,⟨bl⟩⟩
   ·obtain rfl:=sj H;go_wp2;go_ret;exact⟨_,er,kS G0,bl⟩
 ·rw[if_neg n0]at H;exact absurd H (by simp)

def laws_toDesk.f (k:Nat) (a0:List Int) (b0:List (List Int)):Option (List Int×(List (List Int))):=(laws_toIntS.f k a0).bind fun c0=>((laws_toIntSS.f k b0).bind fun d0=>(some (c0,d0)))
theorem laws_toDesk.calls (k:Nat) (a0:Option Addr) (b0:Nat) (c0:List Int) (d0:Option Addr) (e0:Nat) (g0:List (List Int)) (j0:List Int) (l0:List (List Int)) (w:World) (n0:Kd.C (Kd.int .i64) w a0 c0.length c0) (p0:c0.length≤b0) (q0:Kd.C (Kd.slice 3 (Kd.int .i64)) w d0 g0.length g0) (r0:g0.length≤e0) (h:laws_toDesk.f k c0 g0=some (j0,l0)):
  Calls Tryz.prog 10 #[.agg #[.slice a0 c0.length b0,.slice d0 g0.length e0]] w fun e w'=>∃v0_ v1_:Value,e= .returned (.agg #[v0_,v1_])∧Kd.R (Kd.int .i64) 3 w' w.heap.size (fun _=>True) v0_ j0∧Kd.S (Kd.slice 3 (Kd.int .i64)) 22 w' w.heap.size (fun k_=>some k_≠(v0_:Value).ownBlock) v1_ l0∧Below w.heap.size w w':=by
 have s0:=Tryz.underlying25;have t0:=Tryz.underlying27;have v0:=qa n0;have w0:=qa p0;clear n0 p0;have x0:=qa q0;have y0:=qa r0;clear q0 r0;have HB:=qa (Below.refl w.heap.size w);have H:=h;unfold laws_toDesk.f at H;clear h;replace H:=qb H;obtain⟨A0,B0,H⟩:=H;replace H:=qb H;obtain⟨C0,D0,H⟩:=H;simp only[Option.some.injEq,Prod.mk.injEq]at H;obtain⟨rfl,rfl⟩:=H
 go_enter Tryz.func10,Tryz.ntmps10
 go_wp2_with(first|(refine bx 1 #[.slice a0 c0.length b0,.slice d0 g0.length e0] 25 ?_;intro E0 hg G0 hbox hb;have J0:=qa (hbox);have K0:=gw hg;have L0:=gw hg;replace HB:=bs hb;clear hb hbox hg)|(refine bx 2 #[.slice none 0 0,.slice none 0 0] 27 ?_;intro M0 hg N0 hbox hb;have P0:=qa (hbox);have Q0:=gw hg;have R0:=gw hg;replace HB:=bs hb;have U0:=qnl hg J0;have V0:=qng hg J0;replace J0:=qbb J0 hb;clear hb hbox hg)|(refine bx 3 #[.slice none 0 0,.slice none 0 0] 27 ?_;intro W0 hg X0 hbox hb;have Y0:=qa (hbox);have a1:=gw hg;have b1:=gw hg;replace HB:=bs hb;have c1:=qnl hg J0;have d1:=qng hg J0;replace J0:=qbb J0 hb;have e1:=qnl hg P0;have g1:=qng hg P0;replace P0:=qbb P0 hb;clear hb hbox hg;have j1:=U0.out;have l1:=V0.out;have n1:=c1.out;have p1:=d1.out;obtain⟨q1,r1,s1,t1⟩:=qk2 J0)|(refine ge_ 6 Tryz.func50 (laws_toIntS.calls k _ _ c0 A0 _ (cx (Kd.C_below v0.out HB.out)) w0.out B0.out) fun v1 w1 x1 hb=>?_;have y1:=qa (Kd.R_lower x1 (below_size (bl)));replace J0:=qbb J0 hb;replace P0:=qbb P0 hb;replace Y0:=qbb Y0 hb;replace HB:=bs hb;obtain⟨A1,B1,rfl⟩:=Kd.R_slice y1.out;have C1:=g1.out;have D1:=e1.out;obtain⟨E1,G1,J1,K1⟩:=qk2 Y0;obtain⟨L1,M1,N1,P1⟩:=qk2 J0)|(refine ge_ 10 Tryz.func51 (laws_toIntSS.calls k _ _ g0 C0 _ (Kd.C_below x0.out (bl)) y0.out D0.out) fun Q1 R1 x1 hb=>?_;have U1:=qa (Kd.S_lower (Kd.S_new' x1 (Kd.R_lt (kFR y1 Y0 (fun _ h_=>h_.1)))) (below_size (bl)));replace y1:=qa (Kd.R_below (kFR y1 Y0 (fun _ h_=>h_.1)) hb);replace J0:=qbb J0 hb;replace P0:=qbb P0 hb;replace Y0:=qa (blk_below (g:=W0) (o:= .cells #[.slice A1 A0.length B1,.slice none 0 0] 27 (0,0)) (kP Y0) hb);replace HB:=bs hb;obtain⟨V1,W1,rfl⟩:=Kd.S_slice U1.out;obtain⟨X1,Y1,a2,b2⟩:=qk2 Y0;obtain⟨c2,d2,e2,g2⟩:=qk2 P0))
 refine bodyPost_ret (results_cell_row rfl _ _ M0 27 #[.slice A1 A0.length B1,.slice V1 C0.length W1] (0,0) _ rfl (by(with_reducible repeat(first|refine blk_drewN ?_ _|refine blk_drew ?_|refine blk_alloc ?_ _));refine blk_put (cs:=#[.slice A1 A0.length B1,.slice none 0 0]) ?_ 1 _ rfl;(with_reducible repeat(first|refine blk_drewN ?_ _|refine blk_drew ?_|refine blk_alloc ?_ _));refine blk_put (cs:=#[.slice none 0 0,.slice none 0 0]) ?_ 0 _ rfl;(with_reducible repeat(first|refine blk_drewN ?_ _|refine blk_drew ?_|refine blk_alloc ?_ _));refine blk_far ?_ e1.out _;(with_reducible repeat(first|refine blk_drewN ?_ _|refine blk_drew ?_|refine blk_alloc ?_ _));exact P0.out) Tryz.underlying27 rfl kr_) rfl ?_;exact⟨_,_,er,kGR y1.out Y0 P0 (fun _ hk=>trivial),kGS U1.out Y0 P0 (fun _ hk=>hk.1.1.2),bl⟩

def laws_eqIntS.l0:Nat→List Int→List Int→Int→Option (Bool)
 |0,_,_,_=>none
 |k+1,a0,b0,c0=>if c0<(a0.length:Int)then(if 0≤c0 then(if c0<(b0.length:Int)then(if(rd a0 c0)=(rd b0 c0)then(laws_eqIntS.l0 k a0 b0 (wrap64 (c0+1)))else(some false))else(none))else(none))else(some true)
def laws_eqIntS.f (k:Nat) (a0:List Int) (b0:List Int):Option (Bool):=if(a0.length:Int)=(b0.length:Int)then(laws_eqIntS.l0 k a0 b0 0)else(some false)
theorem laws_eqIntS.calls (k:Nat) (a0:Option Addr) (b0:Nat) (c0:List Int) (d0:Option Addr) (e0:Nat) (g0:List Int) (r:Bool) (w:World) (j0:Kd.C (Kd.int .i64) w a0 c0.length c0) (n0:c0.length≤b0) (p0:Kd.C (Kd.int .i64) w d0 g0.length g0) (q0:g0.length≤e0) (h:laws_eqIntS.f k c0 g0=some r):
  Calls Tryz.prog 56 #[.slice a0 c0.length b0,.slice d0 g0.length e0] w fun e w'=>e= .returned (.bool r)∧Drawn0 w w':=by
 have r0:=qa j0;have s0:=qa n0;clear j0 n0;have t0:=qa p0;have v0:=qa q0;clear p0 q0;have H:=h;unfold laws_eqIntS.f at H;clear h
 by_cases w0:(c0.length:Int)=(g0.length:Int)
 ·rw[if_pos w0]at H;have x0:((c0.length:Int)==(g0.length:Int))=true:=beq_iff_eq.mpr w0;have y0:((c0.length:Int) != (g0.length:Int))=false:=bne_eq_false_iff_eq.mpr w0;(have A0:(c0.length==g0.length)=true:=by first|simpa using w0|(simp at w0 ⊢;omega));clear w0;have H':=qa H;clear H
  go_enter Tryz.func56,Tryz.ntmps56
  go_wp2
  repeat(go_quiet(fail);try go_wp2)
  go_loopg [5] k (fun kq B0 w'=>∃(C0:Int),B0= .int .i64 C0∧Aside0 (laws_eqIntS.l0 kq c0 g0 C0=some r)∧Aside0 (kq≤k)∧Drawn0 w w')
  case atStart=>exact⟨(0),(sd),H',⟨Nat.le_refl _⟩,dr⟩
  case round=>
   clear H';obtain⟨C0,rfl,HA,HK1,⟨m1,rfl⟩⟩:=hrel;obtain⟨k1,rfl,H⟩:=kz gk HA;clear HA;simp only[laws_eqIntS.l0]at H;replace H:=qe H;obtain⟨D0,H⟩|⟨D0,H⟩:=H
   ·replace H:=qd H;obtain⟨E0,H⟩:=H;replace H:=qd H;obtain⟨G0,H⟩:=H;replace H:=qq H;obtain⟨J0,K0,H⟩|⟨L0,J0,K0,H⟩:=H
    ·have H':=qa H;clear H;obtain⟨M0,⟨⟩,N0,P0,Q0⟩:=ai r0.out C0;obtain⟨R0,⟨⟩,U0,V0,W0⟩:=ai t0.out C0;go_wp2
     repeat(go_quiet(fail);try go_wp2)
     go_roundg k1
     case measure=>have:=HK1.out;omega
     case rel=>exact⟨(wrap64 (C0+1)),(sd),H',⟨by have:=HK1.out;omega⟩,dr⟩
    ·obtain rfl:=sj H;obtain⟨M0,⟨⟩,N0,P0,Q0⟩:=ai r0.out C0;obtain⟨R0,⟨⟩,U0,V0,W0⟩:=ai t0.out C0;go_wp2
     repeat(go_quiet(fail);try go_wp2)
     go_ret;exact⟨sd,dr⟩
   ·obtain rfl:=sj H;go_wp2
    repeat(go_quiet(fail);try go_wp2)
    go_ret;exact⟨sd,dr⟩
 ·rw[if_neg w0]at H;have x0:((c0.length:Int)==(g0.length:Int))=false:=beq_eq_false_iff_ne.mpr w0;have y0:((c0.length:Int) != (g0.length:Int))=true:=bne_iff_ne.mpr w0;(have A0:(c0.length==g0.length)=false:=by first|simpa using w0|(simp at w0 ⊢;omega));obtain rfl:=sj H
  go_enter Tryz.func56,Tryz.ntmps56
  go_wp2
  repeat(go_quiet(fail);try go_wp2)
  go_ret;exact⟨sd,dr⟩

def laws_eqIntSS.l0:Nat→List (List Int)→List (List Int)→Int→Option (Bool)
 |0,_,_,_=>none
 |k+1,a0,b0,c0=>if c0<(a0.length:Int)then(if 0≤c0 then(if c0<(b0.length:Int)then((laws_eqIntS.f k (rd_L1 a0 c0) (rd_L1 b0 c0)).bind fun d0=>(if d0=true then(laws_eqIntSS.l0 k a0 b0 (wrap64 (c0+1)))else(some false)))else(none))else(none))else(some true)
def laws_eqIntSS.f (k:Nat) (a0:List (List Int)) (b0:List (List Int)):Option (Bool):=if(a0.length:Int)=(b0.length:Int)then(laws_eqIntSS.l0 k a0 b0 0)else(some false)
theorem laws_eqIntSS.calls (k:Nat) (a0:Option Addr) (b0:Nat) (c0:List (List Int)) (d0:Option Addr) (e0:Nat) (g0:List (List Int)) (r:Bool) (w:World) (j0:Kd.C (Kd.slice 3 (Kd.int .i64)) w a0 c0.length c0) (n0:c0.length≤b0) (p0:Kd.C (Kd.slice 3 (Kd.int .i64)) w d0 g0.length g0) (q0:g0.length≤e0) (h:laws_eqIntSS.f k c0 g0=some r):
  Calls Tryz.prog 57 #[.slice a0 c0.length b0,.slice d0 g0.length e0] w fun e w'=>e= .returned (.bool r)∧Drawn0 w w':=by
 have r0:=qa j0;have s0:=qa n0;clear j0 n0;have t0:=qa p0;have v0:=qa q0;clear p0 q0;have H:=h;unfold laws_eqIntSS.f at H;clear h
 by_cases w0:(c0.length:Int)=(g0.length:Int)
 ·rw[if_pos w0]at H;have x0:((c0.length:Int)==(g0.length:Int))=true:=beq_iff_eq.mpr w0;have y0:((c0.length:Int) != (g0.length:Int))=false:=bne_eq_false_iff_eq.mpr w0;(have A0:(c0.length==g0.length)=true:=by first|simpa using w0|(simp at w0 ⊢;omega));clear w0;have H':=qa H;clear H
  go_enter Tryz.func57,Tryz.ntmps57
  go_wp2
  repeat(go_quiet(fail);try go_wp2)
  go_loopg [5] k (fun kq B0 w'=>∃(C0:Int),B0= .int .i64 C0∧Aside0 (laws_eqIntSS.l0 kq c0 g0 C0=some r)∧Aside0 (kq≤k)∧Drawn0 w w')
  case atStart=>exact⟨(0),(sd),H',⟨Nat.le_refl _⟩,dr⟩
  case round=>
   clear H';obtain⟨C0,rfl,HA,HK1,⟨m1,rfl⟩⟩:=hrel;obtain⟨k1,rfl,H⟩:=kz gk HA;clear HA;simp only[laws_eqIntSS.l0]at H;replace H:=qe H;obtain⟨D0,H⟩|⟨D0,H⟩:=H
   ·replace H:=qd H;obtain⟨E0,H⟩:=H;replace H:=qd H;obtain⟨G0,H⟩:=H;replace H:=qb H;obtain⟨J0,K0,H⟩:=H;replace H:=qc H;obtain⟨rfl,H⟩|⟨rfl,H⟩:=H
    ·have H':=qa H;clear H;obtain⟨L0,M0,N0,⟨⟩,P0,Q0,R0,U0,V0⟩:=cg_L1 r0.out C0;obtain⟨W0,X0,Y0,⟨⟩,a1,b1,c1,d1,e1⟩:=cg_L1 t0.out C0
     go_wp2_with(first|(go_at_call 56;(with_reducible refine(laws_eqIntS.calls k1 _ _ (rd_L1 c0 C0) _ _ (rd_L1 g0 C0) true _ ?g1 ?j1 ?l1 ?n1 K0.out).mono ?_);(case g1=>exact cx Q0.out);(case j1=>exact R0.out);(case l1=>exact cx b1.out);(case n1=>exact c1.out);rintro e w' ⟨rfl,⟨nd,rfl⟩⟩;(try exact dn)))
     repeat(go_quiet(first|(go_at_call 56;(with_reducible refine(laws_eqIntS.calls k1 _ _ (rd_L1 c0 C0) _ _ (rd_L1 g0 C0) true _ ?g1 ?j1 ?l1 ?n1 K0.out).mono ?_);(case g1=>exact cx Q0.out);(case j1=>exact R0.out);(case l1=>exact cx b1.out);(case n1=>exact c1.out);rintro e w' ⟨rfl,⟨nd,rfl⟩⟩;(try exact dn)));try go_wp2_with(first|(go_at_call 56;(with_reducible refine(laws_eqIntS.calls k1 _ _ (rd_L1 c0 C0) _ _ (rd_L1 g0 C0) true _ ?g1 ?j1 ?l1 ?n1 K0.out).mono ?_);(case g1=>exact cx Q0.out);(case j1=>exact R0.out);(case l1=>exact cx b1.out);(case n1=>exact c1.out);rintro e w' ⟨rfl,⟨nd,rfl⟩⟩;(try exact dn))))
     go_roundg k1
     case measure=>have:=HK1.out;omega
     case rel=>exact⟨(wrap64 (C0+1)),(sd),H',⟨by have:=HK1.out;omega⟩,dr⟩
    ·obtain rfl:=sj H;obtain⟨L0,M0,N0,⟨⟩,P0,Q0,R0,U0,V0⟩:=cg_L1 r0.out C0;obtain⟨W0,X0,Y0,⟨⟩,a1,b1,c1,d1,e1⟩:=cg_L1 t0.out C0
     go_wp2_with(first|(go_at_call 56;(with_reducible refine(laws_eqIntS.calls k1 _ _ (rd_L1 c0 C0) _ _ (rd_L1 g0 C0) false _ ?g1 ?j1 ?l1 ?n1 K0.out).mono ?_);(case g1=>exact cx Q0.out);(case j1=>exact R0.out);(case l1=>exact cx b1.out);(case n1=>exact c1.out);rintro e w' ⟨rfl,⟨nd,rfl⟩⟩;(try exact dn)))
     repeat(go_quiet(first|(go_at_call 56;(with_reducible refine(laws_eqIntS.calls k1 _ _ (rd_L1 c0 C0) _ _ (rd_L1 g0 C0) false _ ?g1 ?j1 ?l1 ?n1 K0.out).mono ?_);(case g1=>exact cx Q0.out);(case j1=>exact R0.out);(case l1=>exact cx b1.out);(case n1=>exact c1.out);rintro e w' ⟨rfl,⟨nd,rfl⟩⟩;(try exact dn)));try go_wp2_with(first|(go_at_call 56;(with_reducible refine(laws_eqIntS.calls k1 _ _ (rd_L1 c0 C0) _ _ (rd_L1 g0 C0) false _ ?g1 ?j1 ?l1 ?n1 K0.out).mono ?_);(case g1=>exact cx Q0.out);(case j1=>exact R0.out);(case l1=>exact cx b1.out);(case n1=>exact c1.out);rintro e w' ⟨rfl,⟨nd,rfl⟩⟩;(try exact dn))))
     go_ret;exact⟨sd,dr⟩
   ·obtain rfl:=sj H;go_wp2
    repeat(go_quiet(fail);try go_wp2)
    go_ret;exact⟨sd,dr⟩
 ·rw[if_neg w0]at H;have x0:((c0.length:Int)==(g0.length:Int))=false:=beq_eq_false_iff_ne.mpr w0;have y0:((c0.length:Int) != (g0.length:Int))=true:=bne_iff_ne.mpr w0;(have A0:(c0.length==g0.length)=false:=by first|simpa using w0|(simp at w0 ⊢;omega));obtain rfl:=sj H
  go_enter Tryz.func57,Tryz.ntmps57
  go_wp2
  repeat(go_quiet(fail);try go_wp2)
  go_ret;exact⟨sd,dr⟩
def laws_eqDesk.f (k:Nat) (a0:List Int) (b0:List (List Int)) (c0:List Int) (d0:List (List Int)):Option (Bool):=(laws_eqIntS.f k a0 c0).bind fun e0=>(if e0=true then((laws_eqIntSS.f k b0 d0).bind fun g0=>(if g0=true then(some true)else(some false)))else(some false))
theorem laws_eqDesk.calls (k:Nat) (a0:Option Addr) (b0:Nat) (c0:List Int) (d0:Option Addr) (e0:Nat) (g0:List (List Int)) (j0:Option Addr) (l0:Nat) (n0:List Int) (p0:Option Addr) (q0:Nat) (r0:List (List Int)) (r:Bool) (w:World) (s0:Kd.C (Kd.int .i64) w a0 c0.length c0) (t0:c0.length≤b0) (v0:Kd.C (Kd.slice 3 (Kd.int .i64)) w d0 g0.length g0) (w0:g0.length≤e0) (x0:Kd.C (Kd.int .i64) w j0 n0.length n0) (y0:n0.length≤l0) (A0:Kd.C (Kd.slice 3 (Kd.int .i64)) w p0 r0.length r0) (B0:r0.length≤q0) (h:laws_eqDesk.f k c0 g0 n0 r0=some r):
  Calls Tryz.prog 12 #[.agg #[.slice a0 c0.length b0,.slice d0 g0.length e0],.agg #[.slice j0 n0.length l0,.slice p0 r0.length q0]] w fun e w'=>e= .returned (.bool r)∧Below w.heap.size w w':=by
 have C0:=Tryz.underlying27;have D0:=qa s0;have E0:=qa t0;clear s0 t0;have G0:=qa v0;have J0:=qa w0;clear v0 w0;have K0:=qa x0;have L0:=qa y0;clear x0 y0;have M0:=qa A0;have N0:=qa B0;clear A0 B0;have HB:=qa (Below.refl w.heap.size w);have H:=h;unfold laws_eqDesk.f at H;clear h;replace H:=qb H;obtain⟨P0,Q0,H⟩:=H;replace H:=qc H;obtain⟨rfl,H⟩|⟨rfl,H⟩:=H
 ·replace H:=qb H;obtain⟨R0,U0,H⟩:=H;replace H:=qc H;obtain⟨rfl,H⟩|⟨rfl,H⟩:=H
  ·obtain rfl:=sj H
   go_enter Tryz.func12,Tryz.ntmps12
   go_wp2_with(first|(refine bx 2 #[.slice a0 c0.length b0,.slice d0 g0.length e0] 27 ?_;intro V0 hg W0 hbox hb;have X0:=qa (hbox);have Y0:=gw hg;have a1:=gw hg;replace HB:=bs hb;clear hb hbox hg)|(refine bx 3 #[.slice j0 n0.length l0,.slice p0 r0.length q0] 27 ?_;intro b1 hg c1 hbox hb;have d1:=qa (hbox);have e1:=gw hg;have g1:=gw hg;replace HB:=bs hb;have j1:=qnl hg X0;have l1:=qng hg X0;replace X0:=qbb X0 hb;clear hb hbox hg;have n1:=j1.out;have p1:=l1.out;obtain⟨q1,r1,s1,t1⟩:=qk2 X0;obtain⟨v1,w1,x1,y1⟩:=qk2 d1)|(refine gd 9 Tryz.func56 (laws_eqIntS.calls k _ _ c0 _ _ n0 true _ (cx (Kd.C_below D0.out HB.out)) E0.out (cx (Kd.C_below K0.out HB.out)) L0.out Q0.out) fun nd=>?_)|(refine gd 15 Tryz.func57 (laws_eqIntSS.calls k _ _ g0 _ _ r0 true _ (cx (Kd.C_below G0.out (bl))) J0.out (cx (Kd.C_below M0.out (bl))) N0.out U0.out) fun nd=>?_))
   go_ret;exact⟨er,bl⟩
  ·obtain rfl:=sj H
   go_enter Tryz.func12,Tryz.ntmps12
   go_wp2_with(first|(refine bx 2 #[.slice a0 c0.length b0,.slice d0 g0.length e0] 27 ?_;intro V0 hg A1 hbox hb;have X0:=qa (hbox);have Y0:=gw hg;have a1:=gw hg;replace HB:=bs hb;clear hb hbox hg)|(refine bx 3 #[.slice j0 n0.length l0,.slice p0 r0.length q0] 27 ?_;intro b1 hg B1 hbox hb;have d1:=qa (hbox);have e1:=gw hg;have g1:=gw hg;replace HB:=bs hb;have j1:=qnl hg X0;have l1:=qng hg X0;replace X0:=qbb X0 hb;clear hb hbox hg;have C1:=j1.out;have D1:=l1.out;obtain⟨E1,G1,J1,K1⟩:=qk2 X0;obtain⟨L1,M1,N1,P1⟩:=qk2 d1)|(refine gd 9 Tryz.func56 (laws_eqIntS.calls k _ _ c0 _ _ n0 true _ (cx (Kd.C_below D0.out HB.out)) E0.out (cx (Kd.C_below K0.out HB.out)) L0.out Q0.out) fun nd=>?_)|(refine gd 15 Tryz.func57 (laws_eqIntSS.calls k _ _ g0 _ _ r0 false _ (cx (Kd.C_below G0.out (bl))) J0.out (cx (Kd.C_below M0.out (bl))) N0.out U0.out) fun nd=>?_))
   go_ret;exact⟨er,bl⟩
 ·obtain rfl:=sj H
  go_enter Tryz.func12,Tryz.ntmps12
  go_wp2_with(first|(refine bx 2 #[.slice a0 c0.length b0,.slice d0 g0.length e0] 27 ?_;intro V0 hg Q1 hbox hb;have X0:=qa (hbox);have Y0:=gw hg;have a1:=gw hg;replace HB:=bs hb;clear hb hbox hg)|(refine bx 3 #[.slice j0 n0.length l0,.slice p0 r0.length q0] 27 ?_;intro b1 hg R1 hbox hb;have d1:=qa (hbox);have e1:=gw hg;have g1:=gw hg;replace HB:=bs hb;have j1:=qnl hg X0;have l1:=qng hg X0;replace X0:=qbb X0 hb;clear hb hbox hg;have U1:=j1.out;have V1:=l1.out;obtain⟨W1,X1,Y1,a2⟩:=qk2 X0;obtain⟨b2,c2,d2,e2⟩:=qk2 d1)|(refine gd 9 Tryz.func56 (laws_eqIntS.calls k _ _ c0 _ _ n0 false _ (cx (Kd.C_below D0.out HB.out)) E0.out (cx (Kd.C_below K0.out HB.out)) L0.out Q0.out) fun nd=>?_))
  go_ret;exact⟨er,bl⟩

def laws_markIntS.l0:Nat→List Int→Int→Int→Option (Int×List Int)
 |0,_,_,_=>none
 |k+1,a0,b0,c0=>if c0<(a0.length:Int)then(if 0≤c0 then(laws_markIntS.l0 k (a0.set (c0:Int).toNat b0) (wrap64 (b0+1)) (wrap64 (c0+1)))else(none))else(some (b0,a0))
def laws_markIntS.f (k:Nat) (a0:List Int) (b0:Int):Option (Int×List Int):=laws_markIntS.l0 k a0 b0 0
theorem laws_markIntS.calls (k:Nat) (P0_:Nat→Prop) (a0:Value) (b0:List Int) (c0:Int) (d0:Int) (e0:List Int) (g0 w:World) (hB:Below g0.heap.size g0 w) (j0:Kd.R (Kd.int .i64) 3 w g0.heap.size P0_ a0 b0) (h:laws_markIntS.f k b0 c0=some (d0,e0)):
  Calls Tryz.prog 58 #[a0,.int .i64 c0] w fun e w'=>e= .returned (.int .i64 d0)∧Kd.R (Kd.int .i64) 3 w' g0.heap.size (fun k_=>(P0_ k_∨w.heap.size≤k_)) a0 e0∧Below g0.heap.size g0 w'∧Kept w w' (fun k_=>P0_ k_):=by
 have n0:=qa (show Kd.R (Kd.int .i64) 3 w g0.heap.size (fun k_=>(P0_ k_∨w.heap.size≤k_)) a0 b0 from Kd.R_mono j0 (fun k_ hk=>(.inl hk)));have HK:=qa (Kept.refl w (fun k_=>P0_ k_));have HW0:=qa hB.size;have HB:=qa hB;clear hB;have H:=h;unfold laws_markIntS.f at H;clear h;have H':=qa H;clear H
 go_enter Tryz.func58,Tryz.ntmps58
 go_wp2
 go_loopg [1,5] k (fun kq p0 q0 w'=>∃(r0:List Int) (s0:Int) (t0:Int),p0= .int .i64 s0∧q0= .int .i64 t0∧Aside0 (laws_markIntS.l0 kq r0 s0 t0=some (d0,e0))∧Aside0 (kq≤k)∧Aside0 (Kd.R (Kd.int .i64) 3 w' g0.heap.size (fun k_=>(P0_ k_∨w.heap.size≤k_)) a0 r0)∧Aside0 (Kept w w' (fun k_=>P0_ k_))∧Aside0 (Below g0.heap.size g0 w'))
 case atStart=>exact⟨(b0),(c0),(0),(sd),(sd),H',⟨Nat.le_refl _⟩,⟨kR n0⟩,⟨z1_⟩,⟨bl⟩⟩
 case round=>
  clear H';obtain⟨r0,s0,t0,rfl,rfl,HA,HK1,v0,HK,HB⟩:=hrel;obtain⟨k1,rfl,H⟩:=kz gk HA;clear HA;simp only[laws_markIntS.l0]at H;replace H:=qe H;obtain⟨w0,H⟩|⟨w0,H⟩:=H
  ·replace H:=qd H;obtain⟨x0,H⟩:=H;obtain⟨y0,hy_⟩:∃y_:List Int,y_=(r0.set (t0:Int).toNat s0):=⟨_,rfl⟩;replace H:(laws_markIntS.l0 k1 y0 (wrap64 (s0+1)) (wrap64 (t0+1)))=some (d0,e0):=yh;have A0:=qa hy_;clear hy_;have H':=qa H;clear H;obtain⟨B0,C0,rfl⟩:=Kd.R_slice v0.out;have D0:0≤(t0:Int):=qo;have E0:(t0:Int)<((r0.length:Int):Int):=qo;obtain⟨G0,J0,K0,L0,gl5,cl5,HG5⟩:=Kd.R_form v0.out ko_;(first|cases K0|(injection K0 with ea_ en_ ec_;(first|subst ea_|(injection ea_ with ea_;subst ea_));subst ec_;clear en_));have GB5:=qa L0;have GG5:=qa HG5;clear L0 gl5 HG5;have HMgo5:=qa (show(P0_ G0∨w.heap.size≤G0)from(v0.out.1 _ rfl));obtain⟨M0,N0⟩:=Kd.R_celln 0 v0.out (t0:Int) D0 E0;replace D0:=eq_true D0;replace E0:=eq_true E0;have HP7:=Kd.R_putg v0.out (t0:Int) s0
   go_wp2_with(first|((with_reducible refine gate_store (t:=3) (p:=15) rfl ?_);refine store_event (t:=3) (p:=15) (v:=?vo_w8) (w1:=(wr.setCell ⟨G0,(t0:Int).toNat,none⟩ (.int .i64 s0))) ?hg ?ho ?hn ?hr ?_;(case ho=>rfl);(case hg=>rfl);(case hn=>rfl);(case hr=>exact gr);intro P0 hw;have hg:wr.grownBy P0 (some G0):=(by rw[hw];exact HP7.2);have hp_:Kd.R (Kd.int .i64) 3 P0 g0.heap.size (fun k_=>(P0_ k_∨w.heap.size≤k_)) (.slice (some ⟨G0,0,none⟩) r0.length C0) y0:=(by rw[hw,A0.out];exact HP7.1);clear HP7;replace HB:=qa ((by rw[hw];exact below_set (HB.out) GB5.out:Below g0.heap.size g0 P0));replace HK:=qa (Kept.of_grown (S:=(fun k_=>P0_ k_)) hg z1_ (fun k_ e_=>(v0.out.1 k_ e_)));replace v0:=qa (hp_);clear hg hw hp_))
   go_roundg k1
   case measure=>have:=HK1.out;omega
   case rel=>exact⟨(y0),(wrap64 (s0+1)),(wrap64 (t0+1)),(sd),(sd),H',⟨by have:=HK1.out;omega⟩,⟨kR v0⟩,⟨z1_⟩,⟨bl⟩⟩
  ·simp only[Option.some.injEq,Prod.mk.injEq]at H;obtain⟨rfl,rfl⟩:=H;obtain⟨Q0,R0,rfl⟩:=Kd.R_slice v0.out;go_wp2;go_ret;exact⟨er,kR v0,bl,z1_⟩

def laws_markIntSS.l0:Nat→List (List Int)→Int→Int→Option (Int×List (List Int))
 |0,_,_,_=>none
 |k+1,a0,b0,c0=>if c0<(a0.length:Int)then(if 0≤c0 then((laws_markIntS.f k (a0.getD c0.toNat []) b0).bind fun bt=>laws_markIntSS.l0 k (a0.set c0.toNat bt.2) bt.1 (wrap64 (c0+1)))else none)else some (b0,a0)
def laws_markIntSS.f (k:Nat) (a0:List (List Int)) (b0:Int):Option (Int×List (List Int)):=laws_markIntSS.l0 k a0 b0 0
theorem laws_markIntSS.calls (k:Nat) (P0_:Nat→Prop) (a0:Value) (b0:List (List Int)) (c0:Int) (d0:Int) (e0:List (List Int)) (g0 w:World) (hB:Below g0.heap.size g0 w) (j0:Kd.Z (Kd.slice 3 (Kd.int .i64)) 22 w g0.heap.size P0_ a0 b0) (h:laws_markIntSS.f k b0 c0=some (d0,e0)):
  Calls Tryz.prog 59 #[a0,.int .i64 c0] w fun e w'=>e= .returned (.int .i64 d0)∧Kd.Z (Kd.slice 3 (Kd.int .i64)) 22 w' g0.heap.size P0_ a0 e0∧Below g0.heap.size g0 w'∧Kept w w' (fun k_=>P0_ k_):=by
 obtain⟨Au,nu,cs,cu,rfl,hz1_,hz2_,j0⟩:=j0;have hn_:=(Kd.S_reads' j0).1;subst hn_;have n0:=qa j0;clear j0;have HK:=qa (Kept.refl w (fun k_=>P0_ k_));have HB:=qa hB;clear hB;have H:=h;unfold laws_markIntSS.f at H;clear h;have H':=qa H;clear H
 go_enter Tryz.func59,Tryz.ntmps59
 go_wp2
 go_loopg [1,5] k (fun kq p0 q0 w'=>∃(r0:List (List Int)) (s0:Int) (t0:Int),p0= .int .i64 s0∧q0= .int .i64 t0∧Aside0 (laws_markIntSS.l0 kq r0 s0 t0=some (d0,e0))∧Aside0 (kq≤k)∧Aside0 (Kd.S (Kd.slice 3 (Kd.int .i64)) 22 w' g0.heap.size P0_ (.slice Au b0.length cu) r0)∧Aside0 (Kept w w' (fun k_=>P0_ k_))∧Aside0 (Below g0.heap.size g0 w'))
 case atStart=>exact⟨b0,c0,0,rfl,rfl,H',⟨Nat.le_refl _⟩,⟨kS n0⟩,⟨z1_⟩,⟨bl⟩⟩
 case round=>
  clear H';obtain⟨r0,s0,t0,rfl,rfl,HA,HK1,v0,HK,HB⟩:=hrel
  cases gk with
  |zero=>exact absurd HA.out (by simp[laws_markIntSS.l0])
  |succ k1=>
   have HL_:=qa (Kd.S_reads' v0.out).1;have H:=HA.out;clear HA;simp only[laws_markIntSS.l0]at H
   by_cases w0:t0<(r0.length:Int)
   ·rw[if_pos w0]at H;have x0:decide (t0<(b0.length:Int))=true:=decide_eq_true (by rw[HL_.out];exact w0);replace H:=qn H;obtain⟨y0,H⟩:=H;replace H:=qb H;obtain⟨⟨A0,B0⟩,C0,H⟩:=H;(try dsimp only at H);have H':=qa H;clear H;(have hi_:t0<((b0.length:Nat):Int):=by rw[HL_.out];exact w0);obtain⟨go_,cap_,ef_,_,_,_⟩:=Kd.S_form v0.out ko_;(injection ef_ with ea_ en_ ec_);subst ea_;clear en_ ec_ cap_;obtain⟨oki,c_,hcl_,hM_,hcc_,hoki_,hH_⟩:=Kd.S_lend v0.out ([]:List Int) t0 y0 hi_;obtain⟨v_,ev_,hv_⟩:=hM_;subst ev_
    have hx_:wr.cell? ⟨go_,t0.toNat,none⟩=some v_:=by
     have h_:=hcc_ 0 v_ rfl;(try simp only[show(Kd.slice 3 (Kd.int .i64)).sz =1 from rfl,Nat.mul_one,Nat.add_zero]at h_);exact h_
    obtain⟨Av_,cv_,ev_⟩:=Kd.R_slice hv_;subst ev_;have HV_:=qa hv_;have HH_:=qa hH_;have HI_:=qa hoki_;clear hv_ hH_ hoki_ hcl_ hcc_;have D0:(0≤t0)=True:=eq_true y0;have E0:(t0<(b0.length:Int))=True:=eq_true hi_;clear w0 y0 hi_
    go_wp2_with(go_at_call 58;(refine(laws_markIntS.calls k1 oki (.slice Av_ (r0.getD t0.toNat []).length cv_) (r0.getD t0.toNat []) s0 A0 B0 g0 _ ?G0 ?J0 C0.out).mono ?_);(case G0=>exact bl);(case J0=>exact HV_.out);rintro e K0 ⟨rfl,L0,hb,hkp⟩;have hH2_:=Kd.H_kept HH_.out hkp (fun k_ ho_ hn_ hs_=>hn_ hs_);have n0_:=qa (Kd.H_back (x':=B0) (okp:=oki) hH2_ (Kd.M_row (Kd.R_reok rfl L0 (fun k_ e_=>HV_.out.1 k_ e_))) (fun k_ h_=>h_));have n1_:=qa (Kept.then_ HK.out hkp (fun k_ hs_=> .inl (HI_.out k_ hs_).1));have n2_:=qa hb;clear hH2_ L0 hkp hb HK HB v0 HH_ HV_ HI_;have v0:=n0_;have HK:=n1_;have HB:=n2_;clear n0_ n1_ n2_)
    go_roundg k1
    case measure=>have:=HK1.out;omega
    case rel=>exact⟨_,_,_,rfl,rfl,H',⟨by have:=HK1.out;omega⟩,⟨kS v0⟩,⟨z1_⟩,⟨bl⟩⟩
   ·rw[if_neg w0]at H;have x0:decide (t0<(b0.length:Int))=false:=decide_eq_false (by rw[HL_.out];exact w0);clear w0;simp only[Option.some.injEq,Prod.mk.injEq]at H;obtain⟨rfl,rfl⟩:=H;go_wp2;go_ret;exact⟨rfl,⟨Au,b0.length,cs,cu,rfl,hz1_,hz2_,kS v0⟩,bl,z1_⟩

-- CALLS: laws.markIntS laws.markIntSS
def laws_markDesk.f (k:Nat) (a0:List Int) (b0:List (List Int)) (c0:Int):Option (Int×List Int×List (List Int)):=(laws_markIntS.f k a0 c0).bind fun d0=>((laws_markIntSS.f k b0 d0.1).bind fun e0=>(some (e0.1,d0.2,e0.2)))
theorem laws_markDesk.calls (k:Nat) (P0_0_:Nat→Prop) (a0:Value) (b0:List Int) (P0_1_:Nat→Prop) (c0:Value) (d0:List (List Int)) (e0:Int) (g0:Int) (j0:List Int) (l0:List (List Int)) (n0 w:World) (hB:Below n0.heap.size n0 w) (p0:Kd.R (Kd.int .i64) 3 w n0.heap.size P0_0_ a0 b0) (q0:Kd.Z (Kd.slice 3 (Kd.int .i64)) 22 w n0.heap.size P0_1_ c0 d0) (hap:∀k_,P0_1_ k_→¬P0_0_ k_) (h:laws_markDesk.f k b0 d0 e0=some (g0,j0,l0)):
  Calls Tryz.prog 13 #[.agg #[a0,c0],.int .i64 e0] w fun e w'=>e= .returned (.int .i64 g0)∧Kd.R (Kd.int .i64) 3 w' n0.heap.size (fun k_=>(P0_0_ k_∨w.heap.size≤k_)) a0 j0∧Kd.Z (Kd.slice 3 (Kd.int .i64)) 22 w' n0.heap.size P0_1_ c0 l0∧Below n0.heap.size n0 w'∧Kept w w' (fun k_=>(P0_0_ k_∨P0_1_ k_)):=by
 have hu28:=Tryz.underlying27;have HO0_0:=qa (Kd.R_mono (ok':=fun k_=>P0_0_ k_∧k_<w.heap.size) (Kd.R_bound p0) (fun k_ hk=>⟨hk.1,hk.2.2.1⟩));have HO0_1:=qa (Kd.Z_mono (ok':=fun k_=>P0_1_ k_∧k_<w.heap.size) (Kd.Z_bound q0) (fun k_ hk=>⟨hk.1,hk.2.2.1⟩));clear p0 q0;have HK:=qa (Kept.refl w (fun k_=>P0_0_ k_∨P0_1_ k_));have HW0:=qa hB.size;have HB:=qa hB;clear hB;replace H:=Option.bind_eq_some_iff.mp h;clear h;obtain⟨⟨r0,s0⟩,t0,H⟩:=H;replace H:=Option.bind_eq_some_iff.mp H;have v0:=qa t0;clear t0;obtain⟨⟨w0,x0⟩,y0,H⟩:=H;have A0:=qa y0;clear y0;simp only[Option.some.injEq,Prod.mk.injEq]at H;obtain⟨rfl,rfl,rfl⟩:=H;obtain⟨B0,C0,rfl⟩:=Kd.R_slice HO0_0.out;obtain⟨D0,E0,G0,_⟩:=Kd.Z_slice HO0_1.out;subst G0
 go_enter Tryz.func13,Tryz.ntmps13
 go_wp2_with(first|(refine bx 2 #[.slice B0 b0.length C0,.slice D0 d0.length E0] 27 ?_;intro J0 hg K0 hbox hb;have n0_:=qa (Kd.R_below (by(with_reducible repeat(first|apply Kd.R_alloc|apply Kd.R_drewN|apply Kd.R_drew));exact HO0_0.out) hb);have n6_:=qa (Kd.Z_below z56_ hb);have n1_:=qa (Kept.below (S:=(fun k_=>P0_0_ k_∨P0_1_ k_)) z1_ hb);have n2_:=qa (below_step (bl) hb);have n3_:=qa (hbox);have n4_:=qa ((by rw[hg];exact(by first|exact HK.out.1|exact(show Kept w _ (fun k_=>P0_0_ k_∨P0_1_ k_)from by repeat(first|(with_reducible first|exact HK.out|apply Kept.alloc|apply Kept.drewN|apply Kept.drew)|exact HK.out)).1):w.heap.size≤J0));have n5_:=qa ((by rw[hg];exact(below_size (bl)):n0.heap.size≤J0));clear HO0_0;clear HO0_1;clear HK;clear HB;have HO0_0:=n0_;have HO0_1:=n6_;have HK:=n1_;have HB:=n2_;have L0:=n3_;have M0:=n4_;have N0:=n5_;clear n0_ n1_ n2_ n3_ n4_ n5_ n6_;clear hb hbox hg;obtain⟨P0,Q0,R0,U0⟩:=qk2 L0)|(refine gol (some 8) Tryz.func58 #[.slice B0 b0.length C0,.int .i64 e0] ?_;(with_reducible refine(laws_markIntS.calls k (fun k_=>some k_=(.slice B0 b0.length C0:Value).ownBlock) (.slice B0 b0.length C0) b0 e0 r0 s0 n0 _ ?V0 ?W0 v0.out).mono ?_);(case V0=>exact bl);(case W0=>exact Kd.R_tight rfl HO0_0.out);rintro e X0 ⟨rfl,Y0,hb,hkp⟩;refine⟨_,rfl,?_⟩;have n4_:=qa (Kd.Z_kept z56_ hkp (fun k_ (hk_:P0_1_ k_∧k_<w.heap.size) hs_=>hap k_ hk_.1 (HO0_0.out.1 k_ hs_.symm).1));have n0_:=qa (Kd.R_reok rfl Y0 (fun k_ e_=>HO0_0.out.1 k_ e_));have n1_:=qa (blk_kept (bk) hkp (fun hs_=>(fun e_=>(Kd.R_ne HO0_0.out L0.out kd_) e_) hs_));have n2_:=qa (Kept.then_ (S:=(fun k_=>P0_0_ k_∨P0_1_ k_)) z36_ hkp (fun k_ hs_=> .inl (.inl (HO0_0.out.1 k_ hs_.symm).1)));have n3_:=qa (hb);clear HO0_0;clear HO0_1;clear L0;clear HK;clear HB;have HO0_0:=n0_;have HO0_1:=n4_;have L0:=n1_;have HK:=n2_;have HB:=n3_;clear n0_ n1_ n2_ n3_ n4_;obtain⟨a1,b1,c1,d1⟩:=qk2 L0)|(refine gol (some 12) Tryz.func59 #[.slice D0 d0.length E0,.int .i64 r0] ?_;(with_reducible refine(laws_markIntSS.calls k (fun k_=>P0_1_ k_∧k_<w.heap.size) (.slice D0 d0.length E0) d0 r0 w0 x0 n0 _ ?V0 ?W0 A0.out).mono ?_);(case V0=>exact bl);(case W0=>exact HO0_1.out);rintro e e1 ⟨rfl,Y0,hb,hkp⟩;refine⟨_,rfl,?_⟩;have n0_:=qa (Kd.R_kept (by(with_reducible repeat(first|apply Kd.R_alloc|apply Kd.R_drewN|apply Kd.R_drew));exact HO0_0.out) hkp (fun k_ (hk_:P0_0_ k_∧k_<w.heap.size) hs_=>hap k_ hs_.1 hk_.1));have n4_:=qa (Kd.Z_mono (ok':=P0_1_) Y0 (fun k_ hk_=>hk_.1));have n1_:=qa (blk_kept (bk) hkp (fun hs_=>Nat.not_le.2 hs_.2 M0.out));have n2_:=qa (Kept.then_ (S:=(fun k_=>P0_0_ k_∨P0_1_ k_)) z36_ hkp (fun k_ hs_=> .inl (.inr hs_.1)));have n3_:=qa (hb);clear HO0_0;clear HO0_1;clear L0;clear HK;clear HB;have HO0_0:=n0_;have HO0_1:=n4_;have L0:=n1_;have HK:=n2_;have HB:=n3_;clear n0_ n1_ n2_ n3_ n4_))
 go_ret;exact⟨er,by(with_reducible repeat(first|apply Kd.R_alloc|apply Kd.R_drewN|apply Kd.R_drew));exact Kd.R_mono HO0_0.out (fun k_ hk_=> .inl hk_.1),z56_,bl,z36_⟩

def laws_heldIntS.l0:Nat→List Int→Int→Int→Option (Int)
 |0,_,_,_=>none
 |k+1,a0,b0,c0=>if c0<(a0.length:Int)then(if 0≤c0 then(if(rd a0 c0)=b0 then(laws_heldIntS.l0 k a0 (wrap64 (b0+1)) (wrap64 (c0+1)))else(some (-1)))else(none))else(some b0)
def laws_heldIntS.f (k:Nat) (a0:List Int) (b0:Int):Option (Int):=laws_heldIntS.l0 k a0 b0 0
theorem laws_heldIntS.calls (k:Nat) (a0:Option Addr) (b0:Nat) (c0:List Int) (d0:Int) (r:Int) (w:World) (e0:Kd.C (Kd.int .i64) w a0 c0.length c0) (g0:c0.length≤b0) (h:laws_heldIntS.f k c0 d0=some r):
  Calls Tryz.prog 60 #[.slice a0 c0.length b0,.int .i64 d0] w fun e w'=>e= .returned (.int .i64 r)∧Drawn0 w w':=by
 have j0:=qa e0;have n0:=qa g0;clear e0 g0;have H:=h;unfold laws_heldIntS.f at H;clear h;have H':=qa H;clear H
 go_enter Tryz.func60,Tryz.ntmps60
 go_wp2
 go_loopg [1,5] k (fun kq p0 q0 w'=>∃(r0:Int) (s0:Int),p0= .int .i64 r0∧q0= .int .i64 s0∧Aside0 (laws_heldIntS.l0 kq c0 r0 s0=some r)∧Aside0 (kq≤k)∧Drawn0 w w')
 case atStart=>exact⟨(d0),(0),(sd),(sd),H',⟨Nat.le_refl _⟩,dr⟩
 case round=>
  clear H';obtain⟨r0,s0,rfl,rfl,HA,HK1,⟨m1,rfl⟩⟩:=hrel;obtain⟨k1,rfl,H⟩:=kz gk HA;clear HA;simp only[laws_heldIntS.l0]at H;replace H:=qe H;obtain⟨t0,H⟩|⟨t0,H⟩:=H
  ·replace H:=qd H;obtain⟨v0,H⟩:=H;replace H:=qq H;obtain⟨w0,x0,H⟩|⟨y0,w0,x0,H⟩:=H
   ·have H':=qa H;clear H;obtain⟨A0,⟨⟩,B0,C0,D0⟩:=ai j0.out s0;go_wp2
    go_roundg k1
    case measure=>have:=HK1.out;omega
    case rel=>exact⟨(wrap64 (r0+1)),(wrap64 (s0+1)),(sd),(sd),H',⟨by have:=HK1.out;omega⟩,dr⟩
   ·obtain rfl:=sj H;obtain⟨A0,⟨⟩,B0,C0,D0⟩:=ai j0.out s0;go_wp2;go_ret;exact⟨sd,dr⟩
  ·obtain rfl:=sj H;go_wp2;go_ret;exact⟨sd,dr⟩

def laws_heldIntSS.l0:Nat→List (List Int)→Int→Int→Option (Int)
 |0,_,_,_=>none
 |k+1,a0,b0,c0=>if c0<(a0.length:Int)then(if 0≤c0 then((laws_heldIntS.f k (rd_L1 a0 c0) b0).bind fun d0=>(if d0<0 then(some (-1))else(laws_heldIntSS.l0 k a0 d0 (wrap64 (c0+1)))))else(none))else(some b0)
def laws_heldIntSS.f (k:Nat) (a0:List (List Int)) (b0:Int):Option (Int):=laws_heldIntSS.l0 k a0 b0 0
theorem laws_heldIntSS.calls (k:Nat) (a0:Option Addr) (b0:Nat) (c0:List (List Int)) (d0:Int) (r:Int) (w:World) (e0:Kd.C (Kd.slice 3 (Kd.int .i64)) w a0 c0.length c0) (g0:c0.length≤b0) (h:laws_heldIntSS.f k c0 d0=some r):
  Calls Tryz.prog 61 #[.slice a0 c0.length b0,.int .i64 d0] w fun e w'=>e= .returned (.int .i64 r)∧Drawn0 w w':=by
 have j0:=qa e0;have n0:=qa g0;clear e0 g0;have H:=h;unfold laws_heldIntSS.f at H;clear h;have H':=qa H;clear H
 go_enter Tryz.func61,Tryz.ntmps61
 go_wp2
 go_loopg [1,5] k (fun kq p0 q0 w'=>∃(r0:Int) (s0:Int),p0= .int .i64 r0∧q0= .int .i64 s0∧Aside0 (laws_heldIntSS.l0 kq c0 r0 s0=some r)∧Aside0 (kq≤k)∧Drawn0 w w')
 case atStart=>exact⟨(d0),(0),(sd),(sd),H',⟨Nat.le_refl _⟩,dr⟩
 case round=>
  clear H';obtain⟨r0,s0,rfl,rfl,HA,HK1,⟨m1,rfl⟩⟩:=hrel;obtain⟨k1,rfl,H⟩:=kz gk HA;clear HA;simp only[laws_heldIntSS.l0]at H;replace H:=qe H;obtain⟨t0,H⟩|⟨t0,H⟩:=H
  ·replace H:=qd H;obtain⟨v0,H⟩:=H;replace H:=qb H;obtain⟨w0,x0,H⟩:=H;replace H:=qe H;obtain⟨y0,H⟩|⟨y0,H⟩:=H
   ·obtain rfl:=sj H;obtain⟨A0,B0,C0,⟨⟩,D0,E0,G0,J0,K0⟩:=cg_L1 j0.out s0
    go_wp2_with(first|(refine gd 17 Tryz.func60 (laws_heldIntS.calls k1 _ _ (rd_L1 c0 s0) r0 w0 _ (cx E0.out) G0.out x0.out) fun nd=>?_))
    go_ret;exact⟨sd,dr⟩
   ·have H':=qa H;clear H;obtain⟨A0,B0,C0,⟨⟩,D0,E0,G0,J0,K0⟩:=cg_L1 j0.out s0
    go_wp2_with(first|(refine gd 17 Tryz.func60 (laws_heldIntS.calls k1 _ _ (rd_L1 c0 s0) r0 w0 _ (cx E0.out) G0.out x0.out) fun nd=>?_))
    go_roundg k1
    case measure=>have:=HK1.out;omega
    case rel=>exact⟨(w0),(wrap64 (s0+1)),(sd),(sd),H',⟨by have:=HK1.out;omega⟩,dr⟩
  ·obtain rfl:=sj H;go_wp2;go_ret;exact⟨sd,dr⟩

def laws_heldDesk.f (k:Nat) (a0:List Int) (b0:List (List Int)) (c0:Int):Option (Int):=(laws_heldIntS.f k a0 c0).bind fun d0=>(if d0<0 then(some (-1))else((laws_heldIntSS.f k b0 d0).bind fun e0=>(if e0<0 then(some (-1))else(some e0))))
theorem laws_heldDesk.calls (k:Nat) (a0:Option Addr) (b0:Nat) (c0:List Int) (d0:Option Addr) (e0:Nat) (g0:List (List Int)) (j0:Int) (r:Int) (w:World) (l0:Kd.C (Kd.int .i64) w a0 c0.length c0) (n0:c0.length≤b0) (p0:Kd.C (Kd.slice 3 (Kd.int .i64)) w d0 g0.length g0) (q0:g0.length≤e0) (h:laws_heldDesk.f k c0 g0 j0=some r):
  Calls Tryz.prog 14 #[.agg #[.slice a0 c0.length b0,.slice d0 g0.length e0],.int .i64 j0] w fun e w'=>e= .returned (.int .i64 r)∧Below w.heap.size w w':=by
 have r0:=Tryz.underlying27;have s0:=qa l0;have t0:=qa n0;clear l0 n0;have v0:=qa p0;have w0:=qa q0;clear p0 q0;have HB:=qa (Below.refl w.heap.size w);have H:=h;unfold laws_heldDesk.f at H;clear h;replace H:=qb H;obtain⟨x0,y0,H⟩:=H;replace H:=qe H;obtain⟨A0,H⟩|⟨A0,H⟩:=H
 ·obtain rfl:=sj H
  go_enter Tryz.func14,Tryz.ntmps14
  go_wp2_with(first|(refine bx 2 #[.slice a0 c0.length b0,.slice d0 g0.length e0] 27 ?_;intro B0 hg C0 hbox hb;have D0:=qa (hbox);have E0:=gw hg;have G0:=gw hg;replace HB:=bs hb;clear hb hbox hg;obtain⟨J0,K0,L0,M0⟩:=qk2 D0)|(refine gd 8 Tryz.func60 (laws_heldIntS.calls k _ _ c0 j0 x0 _ (cx (Kd.C_below s0.out HB.out)) t0.out y0.out) fun nd=>?_))
  go_ret;exact⟨er,bl⟩
 ·replace H:=qb H;obtain⟨N0,P0,H⟩:=H;replace H:=qe H;obtain⟨Q0,H⟩|⟨Q0,H⟩:=H
  ·obtain rfl:=sj H
   go_enter Tryz.func14,Tryz.ntmps14
   go_wp2_with(first|(refine bx 2 #[.slice a0 c0.length b0,.slice d0 g0.length e0] 27 ?_;intro B0 hg R0 hbox hb;have D0:=qa (hbox);have E0:=gw hg;have G0:=gw hg;replace HB:=bs hb;clear hb hbox hg;obtain⟨U0,V0,W0,X0⟩:=qk2 D0)|(refine gd 8 Tryz.func60 (laws_heldIntS.calls k _ _ c0 j0 x0 _ (cx (Kd.C_below s0.out HB.out)) t0.out y0.out) fun nd=>?_)|(refine gd 14 Tryz.func61 (laws_heldIntSS.calls k _ _ g0 x0 N0 _ (cx (Kd.C_below v0.out (bl))) w0.out P0.out) fun nd=>?_))
   go_ret;exact⟨er,bl⟩
  ·obtain rfl:=sj H
   go_enter Tryz.func14,Tryz.ntmps14
   go_wp2_with(first|(refine bx 2 #[.slice a0 c0.length b0,.slice d0 g0.length e0] 27 ?_;intro B0 hg Y0 hbox hb;have D0:=qa (hbox);have E0:=gw hg;have G0:=gw hg;replace HB:=bs hb;clear hb hbox hg;obtain⟨a1,b1,c1,d1⟩:=qk2 D0)|(refine gd 8 Tryz.func60 (laws_heldIntS.calls k _ _ c0 j0 x0 _ (cx (Kd.C_below s0.out HB.out)) t0.out y0.out) fun nd=>?_)|(refine gd 14 Tryz.func61 (laws_heldIntSS.calls k _ _ g0 x0 N0 _ (cx (Kd.C_below v0.out (bl))) w0.out P0.out) fun nd=>?_))
   go_ret;exact⟨er,bl⟩

def impl_within.l0:Nat→List Int→Int→List Int→Int→Int→Option (Bool)
 |0,_,_,_,_,_=>none
 |k+1,a0,b0,c0,d0,e0=>if e0<d0 then(if 0≤e0 then(if e0<(c0.length:Int)then(if(rd c0 e0)<(wrap64 (-b0))then(some false)else(if(rd c0 e0)>b0 then(some false)else(impl_within.l0 k a0 b0 c0 d0 (wrap64 (e0+1)))))else(none))else(none))else(some ((a0.length:Int)==24))
def impl_within.f (k:Nat) (a0:List Int) (b0:Int):Option (Bool):=impl_within.l0 k a0 b0 a0 (a0.length:Int) 0
theorem impl_within.calls (k:Nat) (a0:Option Addr) (b0:Nat) (c0:List Int) (d0:Int) (r:Bool) (w:World) (e0:Kd.C (Kd.int .i64) w a0 c0.length c0) (g0:c0.length≤b0) (h:impl_within.f k c0 d0=some r):
  Calls Tryz.prog 120 #[.slice a0 c0.length b0,.int .i64 d0] w fun e w'=>e= .returned (.bool r)∧Drawn0 w w':=by
 have j0:=qa e0;have n0:=qa g0;clear e0 g0;have H:=h;unfold impl_within.f at H;clear h;have H':=qa H;clear H
 go_enter Tryz.func120,Tryz.ntmps120
 go_wp2
 go_loopg [9] k (fun kq p0 w'=>∃(q0:Int),p0= .int .i64 q0∧Aside0 (impl_within.l0 kq c0 d0 c0 (c0.length:Int) q0=some r)∧Aside0 (kq≤k)∧Drawn0 w w')
 case atStart=>exact⟨(0),(sd),H',⟨Nat.le_refl _⟩,dr⟩
 case round=>
  clear H';obtain⟨q0,rfl,HA,HK1,⟨m1,rfl⟩⟩:=hrel;obtain⟨k1,rfl,H⟩:=kz gk HA;clear HA;simp only[impl_within.l0]at H;replace H:=qe H;obtain⟨r0,H⟩|⟨r0,H⟩:=H
  ·replace H:=qd H;obtain⟨s0,H⟩:=H;replace H:=qd H;obtain⟨t0,H⟩:=H;replace H:=qe H;obtain⟨v0,H⟩|⟨v0,H⟩:=H
   ·obtain rfl:=sj H;obtain⟨w0,⟨⟩,x0,y0,A0⟩:=ai j0.out q0;go_wp2;go_ret;exact⟨sd,dr⟩
   ·replace H:=qg H;obtain⟨B0,H⟩|⟨B0,H⟩:=H
    ·obtain rfl:=sj H;obtain⟨w0,⟨⟩,x0,y0,A0⟩:=ai j0.out q0;go_wp2;go_ret;exact⟨sd,dr⟩
    ·have H':=qa H;clear H;obtain⟨w0,⟨⟩,x0,y0,A0⟩:=ai j0.out q0;go_wp2
     go_roundg k1
     case measure=>have:=HK1.out;omega
     case rel=>exact⟨(wrap64 (q0+1)),(sd),H',⟨by have:=HK1.out;omega⟩,dr⟩
  ·obtain rfl:=sj H;go_wp2;go_ret;exact⟨sd,dr⟩

def impl_RowOk.f (k:Nat) (a0:List Int):Option (Bool):=(impl_within.f k a0 1000000000).bind fun b0=>(some b0)
theorem impl_RowOk.calls (k:Nat) (a0:Option Addr) (b0:Nat) (c0:List Int) (r:Bool) (w:World) (d0:Kd.C (Kd.int .i64) w a0 c0.length c0) (e0:c0.length≤b0) (h:impl_RowOk.f k c0=some r):
  Calls Tryz.prog 78 #[.slice a0 c0.length b0] w fun e w'=>e= .returned (.bool r)∧Drawn0 w w':=by
 have g0:=qa d0;have j0:=qa e0;clear d0 e0;have H:=h;unfold impl_RowOk.f at H;clear h;replace H:=qb H;obtain⟨l0,n0,H⟩:=H;obtain rfl:=sj H
 go_enter Tryz.func78,Tryz.ntmps78
 go_wp2_with(first|(refine gd 4 Tryz.func120 (impl_within.calls k _ _ c0 1000000000 l0 _ (cx g0.out) j0.out n0.out) fun nd=>?_))
 go_ret;exact⟨sd,dr⟩
def impl_DeskOk.l0:Nat→List (List Int)→Int→Int→List Int→List (List Int)→Option (Bool)
 |0,_,_,_,_,_=>none
 |k+1,a0,b0,c0,d0,e0=>if c0<b0 then(if 0≤c0 then(if c0<(a0.length:Int)then((impl_RowOk.f k (rd_L1 a0 c0)).bind fun g0=>(if g0=true then(impl_DeskOk.l0 k a0 b0 (wrap64 (c0+1)) d0 e0)else(some false)))else(none))else(none))else((impl_RowOk.f k d0).bind fun j0=>(if j0=true then(some (decide ((e0.length:Int)≤8)))else(some false)))
def impl_DeskOk.f (k:Nat) (a0:List Int) (b0:List (List Int)):Option (Bool):=impl_DeskOk.l0 k b0 (b0.length:Int) 0 a0 b0
theorem impl_DeskOk.calls (k:Nat) (a0:Option Addr) (b0:Nat) (c0:List Int) (d0:Option Addr) (e0:Nat) (g0:List (List Int)) (r:Bool) (w:World) (j0:Kd.C (Kd.int .i64) w a0 c0.length c0) (n0:c0.length≤b0) (p0:Kd.C (Kd.slice 3 (Kd.int .i64)) w d0 g0.length g0) (q0:g0.length≤e0) (h:impl_DeskOk.f k c0 g0=some r):
  Calls Tryz.prog 37 #[.agg #[.slice a0 c0.length b0,.slice d0 g0.length e0]] w fun e w'=>e= .returned (.bool r)∧Below w.heap.size w w':=by
 have r0:=Tryz.underlying27;have s0:=qa j0;have t0:=qa n0;clear j0 n0;have v0:=qa p0;have w0:=qa q0;clear p0 q0;have HB:=qa (Below.refl w.heap.size w);have H:=h;unfold impl_DeskOk.f at H;clear h;have H':=qa H;clear H
 go_enter Tryz.func37,Tryz.ntmps37
 go_wp2_with(first|((with_reducible refine gate_dst (N:=1) rfl ?_);(try(refine gate_guard (by rfl) ?_;dsimp only));refine bx 1 #[.slice a0 c0.length b0,.slice d0 g0.length e0] 27 ?_;intro x0 hg y0 hbox hb;have A0:=qa (hbox);have B0:=gw hg;have C0:=gw hg;replace HB:=bs hb;clear hb hbox hg;obtain⟨D0,E0,G0,J0⟩:=qk2 A0))
 go_loopg [8] k (fun kq K0 w'=>∃(L0:Int),K0= .int .i64 L0∧Aside0 (impl_DeskOk.l0 kq g0 (g0.length:Int) L0 c0 g0=some r)∧Aside0 (kq≤k)∧Aside0 (w'.heap[x0]? =some (.cells #[(.slice a0 c0.length b0),(.slice d0 g0.length e0)] 27 (0,0)))∧Aside0 (Below w.heap.size w w'))
 case atStart=>exact⟨(0),(sd),H',⟨Nat.le_refl _⟩,⟨bk⟩,⟨bl⟩⟩
 case round=>
  clear H';obtain⟨L0,rfl,HA,HK1,A0,HB⟩:=hrel;obtain⟨k1,rfl,H⟩:=kz gk HA;clear HA;simp only[impl_DeskOk.l0]at H;replace H:=qe H;obtain⟨M0,H⟩|⟨M0,H⟩:=H
  ·replace H:=qd H;obtain⟨N0,H⟩:=H;replace H:=qd H;obtain⟨P0,H⟩:=H;replace H:=qb H;obtain⟨Q0,R0,H⟩:=H;replace H:=qc H;obtain⟨rfl,H⟩|⟨rfl,H⟩:=H
   ·have H':=qa H;clear H;obtain⟨U0,V0,W0,⟨⟩,X0,Y0,a1,b1,c1⟩:=cg_L1 v0.out L0;(try replace X0:=(HB.out.cell (World.block_lt_of_cell? w _ X0)).trans X0)
    go_wp2_with(first|(refine gd 13 Tryz.func78 (impl_RowOk.calls k1 _ _ (rd_L1 g0 L0) true _ (cx (Kd.C_below Y0.out HB.out)) a1.out R0.out) fun nd=>?_))
    go_roundg k1
    case measure=>have:=HK1.out;omega
    case rel=>exact⟨(wrap64 (L0+1)),(sd),H',⟨by have:=HK1.out;omega⟩,⟨bk⟩,⟨bl⟩⟩
   ·obtain rfl:=sj H;obtain⟨U0,V0,W0,⟨⟩,X0,Y0,a1,b1,c1⟩:=cg_L1 v0.out L0;(try replace X0:=(HB.out.cell (World.block_lt_of_cell? w _ X0)).trans X0)
    go_wp2_with(first|(refine gd 13 Tryz.func78 (impl_RowOk.calls k1 _ _ (rd_L1 g0 L0) false _ (cx (Kd.C_below Y0.out HB.out)) a1.out R0.out) fun nd=>?_))
    go_ret;exact⟨er,bl⟩
  ·replace H:=qb H;obtain⟨d1,e1,H⟩:=H;replace H:=qc H;obtain⟨rfl,H⟩|⟨rfl,H⟩:=H
   ·obtain rfl:=sj H;obtain⟨g1,j1,l1,n1⟩:=qk2 A0
    go_wp2_with(first|(refine gd 18 Tryz.func78 (impl_RowOk.calls k1 _ _ c0 true _ (cx (Kd.C_below s0.out HB.out)) t0.out e1.out) fun nd=>?_))
    go_ret;exact⟨er,bl⟩
   ·obtain rfl:=sj H;obtain⟨p1,q1,r1,s1⟩:=qk2 A0
    go_wp2_with(first|(refine gd 18 Tryz.func78 (impl_RowOk.calls k1 _ _ c0 false _ (cx (Kd.C_below s0.out HB.out)) t0.out e1.out) fun nd=>?_))
    go_ret;exact⟨er,bl⟩

-- IMPORT Derived.Lib.SmallJoins
-- IMPORT Derived.Lib.ItoaNum
structure GL (w:World):Prop where
 tab:Lib.TabIs Tryz.prog w "internal/strconv.uint64pow10" .u64 Lib.pow10Tab
 maxlen:∃m,w.cell? ⟨0,0,none⟩=some (.int .i64 m)
 esyn:∃ev,w.cell? ⟨1,0,none⟩=some ev∧(ev= .nilIface ∨∃te pe,ev= .iface te pe)
 eran:∃ev,w.cell? ⟨2,0,none⟩=some ev∧(ev= .nilIface ∨∃te pe,ev= .iface te pe)
theorem gl_pow:Tryz.prog.globalNamed "internal/strconv.uint64pow10" =some 3:=by kernel_rfl
theorem gl_cell {w w':World} {a:Addr} {v:Value} (h:w.cell? a=some v) (hb:Below w.heap.size w w'):w'.cell? a=some v:=(hb.cell (World.block_lt_of_cell? w _ h)).trans h
theorem GL_below {w w':World} (h:GL w) (hb:Below w.heap.size w w'):GL w':=by
 obtain⟨m,hm⟩:=h.maxlen;obtain⟨a0,h1,b0⟩:=h.esyn;obtain⟨c0,h2,d0⟩:=h.eran;exact⟨Joins.tab_stays gl_pow h.tab hb (Nat.le_refl _),⟨m,gl_cell hm hb⟩,⟨a0,gl_cell h1 hb,b0⟩,⟨c0,gl_cell h2 hb,d0⟩⟩

-- GLOBAL
-- IMPORT Derived.Test.YtdmlkjjlgkdnlaaGreatDoorShelf
def strconv_Itoa.f (a0:Int):Option (ByteArray):=if-9223372036854775808≤a0 then(if a0≤9223372036854775807 then some ⟨(Lib.itoa a0).toArray⟩else none)else none
theorem below_grow_ (w:World) (k:Nat) (os:Array Obj):Below w.heap.size w (Go.Sort.grow (w.drewN k) os):=
 ⟨rfl,rfl,rfl,by show w.heap.size≤(w.heap++os).size;rw[Array.size_append];omega,fun j hj=>by show(w.heap++os)[j]? =w.heap[j]?;rw[Array.getElem?_append_left hj]⟩
theorem strconv_Itoa.calls (a0:Int) (r:ByteArray) (w:World) (h:strconv_Itoa.f a0=some r) (hG_:GL w):
  Calls Tryz.prog 77 #[.int .i64 a0] w fun e w'=>e= .returned (.string r)∧Below w.heap.size w w':=by
 unfold strconv_Itoa.f at h
 by_cases h0: -9223372036854775808≤a0
 ·rw[if_pos h0]at h
  by_cases h1:a0≤9223372036854775807
  ·rw[if_pos h1]at h;obtain rfl:=Option.some.inj h;refine(Tryz.strconv_Itoa a0 h0 h1 w hG_.tab).mono ?_;rintro e w' ⟨rfl,k,os,rfl⟩;exact⟨rfl,below_grow_ w k os⟩
  ·rw[if_neg h1]at h;cases h
 ·rw[if_neg h0]at h;cases h

mutual
def impl_DeedText.j0:Nat→Bool→Int→Int→Int→Option (ByteArray)
 |0,_,_,_,_=>none
 |k+1,a0,b0,c0,d0=>if a0=true then((strconv_Itoa.f c0).bind fun e0=>(if 4+e0.size≤9223372036854775807 then(if((⟨#[115,101,116,32]⟩:ByteArray)++e0).size +1≤9223372036854775807 then((strconv_Itoa.f d0).bind fun g0=>(if(((⟨#[115,101,116,32]⟩:ByteArray)++e0)++(⟨#[32]⟩:ByteArray)).size +g0.size≤9223372036854775807 then(some ((((⟨#[115,101,116,32]⟩:ByteArray)++e0)++(⟨#[32]⟩:ByteArray))++g0))else(none)))else(none))else(none)))else(if d0=0 then(if c0<0 then(impl_DeedText.j1 k true b0 c0 d0)else(impl_DeedText.j1 k (decide (c0>9)) b0 c0 d0))else(impl_DeedText.j1 k true b0 c0 d0))
def impl_DeedText.j1:Nat→Bool→Int→Int→Int→Option (ByteArray)
 |0,_,_,_,_=>none
 |k+1,l0,b0,c0,d0=>if l0=true then(some (⟨#[]⟩:ByteArray))else(if b0=0 then((strconv_Itoa.f c0).bind fun n0=>(if 6+n0.size≤9223372036854775807 then(some ((⟨#[116,105,109,101,115,32]⟩:ByteArray)++n0))else(none)))else(if b0=1 then((strconv_Itoa.f c0).bind fun p0=>(if 8+p0.size≤9223372036854775807 then(some ((⟨#[117,110,105,116,97,114,121,32]⟩:ByteArray)++p0))else(none)))else(if c0=0 then(if b0=2 then(some (⟨#[105,110,118,101,114,115,101]⟩:ByteArray))else(if b0=4 then(some (⟨#[98,97,99,107]⟩:ByteArray))else(some (⟨#[]⟩:ByteArray))))else(some (⟨#[]⟩:ByteArray)))))
end

def impl_DeedText.f (k:Nat) (a0:Int) (b0:Int) (c0:Int):Option (ByteArray):=if a0=3 then(if b0≥0 then(if b0≤99 then(if c0≥0 then(impl_DeedText.j0 k (decide (c0≤9999)) a0 b0 c0)else(impl_DeedText.j0 k false a0 b0 c0))else(impl_DeedText.j0 k false a0 b0 c0))else(impl_DeedText.j0 k false a0 b0 c0))else(impl_DeedText.j0 k false a0 b0 c0)
def impl_DeedText.T2:Bool×List (List Nat×List Nat):=(true,[([],[]),([0],[0]),([1],[1]),([2],[2]),([3],[3]),([],[]),([5],[5]),([6,2],[6]),([4,7],[4,7]),([8,7,0,1,2,3,4,5,6,7,8],[8])])
def impl_DeedText.B2:List Nat:=[0,1,3,7,15,0,32,103,255,511]
theorem impl_DeedText.tab2:rtab .any (opsOf Tryz.f33 2)=impl_DeedText.T2:=by kernel_rfl
theorem impl_DeedText.bits2:waitsOk impl_DeedText.T2.2 impl_DeedText.B2=true:=by kernel_rfl
theorem impl_DeedText.calls (k:Nat) (a0:Int) (b0:Int) (c0:Int) (r:ByteArray) (w:World) (h:impl_DeedText.f k a0 b0 c0=some r) (hG_:GL w):
  Calls Tryz.prog 33 #[.agg #[.int .i64 a0,.int .i64 b0,.int .i64 c0]] w fun e w'=>e= .returned (.string r)∧Below w.heap.size w w':=by
 have d0:=Tryz.underlying55;have HB:=qa (Below.refl w.heap.size w);have H:=h;unfold impl_DeedText.f at H;clear h;have e0:=qa H;clear H
 go_enter Tryz.func33,Tryz.ntmps33
 go_upto_region 1 with(go_big_may;first|(refine bx 1 #[.int .i64 a0,.int .i64 b0,.int .i64 c0] 55 ?_;intro g0 hg l0 hbox hb;have n0:=qa (hbox);have p0:=gw hg;have q0:=gw hg;replace HB:=bs hb;clear hb hbox hg))
 (try simp only[Act.put,List.setIfInBounds_toArray,List.set_cons_zero,List.set_cons_succ])
 go_cut [3] (fun r0 wc=>∃(kq:Nat) (s0:Bool),r0= .bool s0∧Aside0 (impl_DeedText.j0 kq s0 a0 b0 c0=some r)∧Aside0 (kq≤k)∧Aside0 (wc.heap[g0]? =some (.cells #[.int .i64 a0,.int .i64 b0,.int .i64 c0] 55 (0,0)))∧Aside0 (Below w.heap.size w wc))
 case first=>
  have H:=e0.out;clear e0;replace H:=qq H;obtain⟨t0,v0,H⟩|⟨w0,t0,v0,H⟩:=H
  ·(first|rw[t0]|(simp only[i64_w,i32_w];rw[t0])|skip);replace H:=qu H;obtain⟨x0,H⟩|⟨x0,H⟩:=H
   ·replace H:=qe H;obtain⟨y0,H⟩|⟨y0,H⟩:=H
    ·replace H:=qu H;obtain⟨A0,H⟩|⟨A0,H⟩:=H
     ·have H':=qa H;clear H;obtain⟨B0,C0,D0,E0,G0,J0⟩:=qk3 n0;go_wp2;go_meet
      case rel=>exact⟨_,(decide (c0≤9999)),(sd),H',⟨by first|omega|exact Nat.le_refl _⟩,⟨bk⟩,⟨bl⟩⟩
     ·have H':=qa H;clear H;obtain⟨K0,L0,M0,N0,P0,Q0⟩:=qk3 n0;go_wp2;go_meet
      case rel=>exact⟨_,(false),(sd),H',⟨by first|omega|exact Nat.le_refl _⟩,⟨bk⟩,⟨bl⟩⟩
    ·have H':=qa H;clear H;obtain⟨R0,U0,V0,W0,X0,Y0⟩:=qk3 n0;go_wp2;go_meet
     case rel=>exact⟨_,(false),(sd),H',⟨by first|omega|exact Nat.le_refl _⟩,⟨bk⟩,⟨bl⟩⟩
   ·have H':=qa H;clear H;obtain⟨a1,b1,c1,d1,e1,g1⟩:=qk3 n0;go_wp2;go_meet
    case rel=>exact⟨_,(false),(sd),H',⟨by first|omega|exact Nat.le_refl _⟩,⟨bk⟩,⟨bl⟩⟩
  ·(first|rw[t0]|(simp only[i64_w,i32_w];rw[t0])|skip);have H':=qa H;clear H;obtain⟨l1,n1,p1,q1,r1,s1⟩:=qk3 n0;go_wp2;go_meet
   case rel=>exact⟨_,(false),(sd),H',⟨by first|omega|exact Nat.le_refl _⟩,⟨bk⟩,⟨bl⟩⟩
 case rest=>
  clear e0;obtain⟨kq,s0,rfl,HA,t1,n0,HB⟩:=hcut;obtain⟨v1,rfl,H⟩:=kz kq HA;clear HA;simp only[impl_DeedText.j0]at H;replace H:=qc H;obtain⟨rfl,H⟩|⟨rfl,H⟩:=H
  ·replace H:=qb H;obtain⟨w1,x1,H⟩:=H;replace H:=qN H;obtain⟨y1,A1,B1,C1,H⟩:=H;replace H:=qN H;obtain⟨D1,E1,G1,J1,H⟩:=H
   try(have c16bq:=J1;simp only[ByteArray.size_append,show(⟨#[115,101,116,32]⟩:ByteArray).size =4 from rfl]at c16bq)
   replace H:=qb H;obtain⟨K1,L1,H⟩:=H;replace H:=qN H;obtain⟨M1,N1,P1,Q1,H⟩:=H
   try(have c18bq:=Q1;simp only[ByteArray.size_append,show(⟨#[115,101,116,32]⟩:ByteArray).size =4 from rfl,show(⟨#[32]⟩:ByteArray).size =1 from rfl]at c18bq)
   obtain rfl:=sj H
   try go_wp2
   replace n0:=qa (blk_drew n0.out);replace HB:=qa (below_drew1 HB.out);refine start_ (n:=10) (S:=fun w'=>w'.cell? ⟨g0,0,none⟩=some (.int .i64 a0)∧w'.cell? ⟨g0,1,none⟩=some (.int .i64 b0)∧w'.cell? ⟨g0,2,none⟩=some (.int .i64 c0)) (ds:=[]) _ kr_ rfl rfl ⟨(blk_cell n0.out 0).trans rfl,(blk_cell n0.out 1).trans rfl,(blk_cell n0.out 2).trans rfl⟩ (fun hHeld=>?_);refine with_tabW impl_DeedText.tab2 impl_DeedText.bits2 (fun HT_ HW_=>?_);generalize wc.drew=R1 at n0 HB hHeld ⊢;refine pur 0 27 (bz 10 1) HT_ ?_;refine pur 5 32 (bz 10 33) HT_ ?_;refine tk 1 28 (bz 10 35) hHeld (take_ofW HT_.out HW_.out kr_) ?_;refine tk 6 33 (bz 10 99) hHeld (take_ofW HT_.out HW_.out kr_) ?_;(refine o1 2 (some 29) (bz 10 103) (one_of HT_.out kr_) fun K hK=>?_);(refine gsb Tryz.func77 (strconv_Itoa.calls b0 w1 _ x1.out (GL_below hG_ (bl))) fun U1 hb=>?_);replace n0:=qbb n0 hb;replace HB:=bs hb;(try clear hb);(try clear V1);(try clear hk);(try clear hi);refine hK.out _ _ ⟨(blk_cell n0.out 0).trans rfl,(blk_cell n0.out 1).trans rfl,(blk_cell n0.out 2).trans rfl⟩ (fun hHeld=>?_);clear hK K;refine nm 29 ?_;refine pur 3 30 (bz 10 111) HT_ ?_;refine pur 4 31 (bz 10 127) HT_ ?_;(refine o1 7 (some 34) (bz 10 255) (one_of HT_.out kr_) fun K hK=>?_);(refine gsb Tryz.func77 (strconv_Itoa.calls c0 K1 _ L1.out (GL_below hG_ (bl))) fun W1 hb=>?_);replace n0:=qbb n0 hb;replace HB:=bs hb;(try clear hb);(try clear V1);(try clear hk);(try clear hi);refine hK.out _ _ ⟨(blk_cell n0.out 0).trans rfl,(blk_cell n0.out 1).trans rfl,(blk_cell n0.out 2).trans rfl⟩ (fun hHeld=>?_);clear hK K;refine nm 34 ?_;refine pur 8 35 (bz 10 511) HT_ ?_;refine pur 9 2 (bz 10 1023) HT_ ?_;refine done_ (done_of HT_.out kr_) ?_
   try go_wp2
   go_ret;exact⟨er,bl⟩
  ·have X1:=qa H;clear H
   go_upto_region 3 with(fail)
   go_cut [36] (fun Y1 wc=>∃(kq:Nat) (a2:Bool),Y1= .bool a2∧Aside0 (impl_DeedText.j1 kq a2 a0 b0 c0=some r)∧Aside0 (kq≤v1)∧Aside0 (wc.heap[g0]? =some (.cells #[.int .i64 a0,.int .i64 b0,.int .i64 c0] 55 (0,0)))∧Aside0 (Below w.heap.size w wc))
   case first=>
    have H:=X1.out;clear X1;replace H:=qq H;obtain⟨b2,c2,H⟩|⟨d2,b2,c2,H⟩:=H
    ·(first|rw[b2]|(simp only[i64_w,i32_w];rw[b2])|skip);replace H:=qe H;obtain⟨e2,H⟩|⟨e2,H⟩:=H
     ·have H':=qa H;clear H;obtain⟨g2,j2,l2,n2,p2,q2⟩:=qk3 n0;go_wp2;go_meet
      case rel=>exact⟨_,(true),(sd),H',⟨by have:=t1.out;first|omega|exact Nat.le_refl _⟩,⟨bk⟩,⟨bl⟩⟩
     ·have H':=qa H;clear H;obtain⟨r2,s2,t2,v2,w2,x2⟩:=qk3 n0;go_wp2;go_meet
      case rel=>exact⟨_,(decide (b0>9)),(sd),H',⟨by have:=t1.out;first|omega|exact Nat.le_refl _⟩,⟨bk⟩,⟨bl⟩⟩
    ·(first|rw[b2]|(simp only[i64_w,i32_w];rw[b2])|skip);have H':=qa H;clear H;obtain⟨y2,A2,B2,C2,D2,E2⟩:=qk3 n0;go_wp2;go_meet
     case rel=>exact⟨_,(true),(sd),H',⟨by have:=t1.out;first|omega|exact Nat.le_refl _⟩,⟨bk⟩,⟨bl⟩⟩
   case rest=>
    clear X1;obtain⟨kq,a2,rfl,HA,G2,n0,HB⟩:=hcut;obtain⟨J2,rfl,H⟩:=kz kq HA;clear HA;simp only[impl_DeedText.j1]at H;replace H:=qc H;obtain⟨rfl,H⟩|⟨rfl,H⟩:=H
    ·obtain rfl:=sj H;go_wp2;go_ret;exact⟨er,bl⟩
    ·replace H:=qq H;obtain⟨K2,L2,H⟩|⟨M2,K2,L2,H⟩:=H
     ·replace H:=qb H;obtain⟨N2,P2,H⟩:=H;replace H:=qN H;obtain⟨Q2,R2,U2,V2,H⟩:=H;obtain rfl:=sj H;obtain⟨W2,X2,Y2,a3,b3,c3⟩:=qk3 n0
      go_wp2_with(first|(refine gb 56 Tryz.func77 (strconv_Itoa.calls b0 N2 _ P2.out (GL_below hG_ (bl))) fun d3 hb=>?_;replace n0:=qbb n0 hb;replace HB:=bs hb))
      go_ret;exact⟨er,bl⟩
     ·replace H:=qq H;obtain⟨e3,g3,H⟩|⟨j3,e3,g3,H⟩:=H
      ·replace H:=qb H;obtain⟨l3,n3,H⟩:=H;replace H:=qN H;obtain⟨p3,q3,r3,s3,H⟩:=H;obtain rfl:=sj H;obtain⟨t3,v3,w3,x3,y3,A3⟩:=qk3 n0
       go_wp2_with(first|(refine gb 64 Tryz.func77 (strconv_Itoa.calls b0 l3 _ n3.out (GL_below hG_ (bl))) fun B3 hb=>?_;replace n0:=qbb n0 hb;replace HB:=bs hb))
       go_ret;exact⟨er,bl⟩
      ·replace H:=qq H;obtain⟨C3,D3,H⟩|⟨E3,C3,D3,H⟩:=H
       ·replace H:=qq H;obtain⟨G3,J3,H⟩|⟨K3,G3,J3,H⟩:=H
        ·obtain rfl:=sj H;obtain⟨L3,M3,N3,P3,Q3,R3⟩:=qk3 n0;go_wp2;go_ret;exact⟨er,bl⟩
        ·replace H:=qq H;obtain⟨U3,V3,H⟩|⟨W3,U3,V3,H⟩:=H
         ·obtain rfl:=sj H;obtain⟨X3,Y3,a4,b4,c4,d4⟩:=qk3 n0;go_wp2;go_ret;exact⟨er,bl⟩
         ·obtain rfl:=sj H;obtain⟨e4,g4,j4,l4,n4,p4⟩:=qk3 n0;go_wp2;go_ret;exact⟨er,bl⟩
       ·obtain rfl:=sj H;obtain⟨q4,r4,s4,t4,v4,w4⟩:=qk3 n0;go_wp2;go_ret;exact⟨er,bl⟩
-- GLOBAL
-- IMPORT Derived.Test.YtdmlkjjlgkdnlaaGreatDoorShelf
def strings_Split.f (a0 b0:ByteArray):Option (List ByteArray):=if a0.size<4294967281 then(if 1≤b0.size then some (Lib.splitB b0 0 (Lib.countB a0 b0) a0)else none)else none
theorem strings_Split.calls (a0:ByteArray) (b0:ByteArray) (r:List ByteArray) (w:World) (h:strings_Split.f a0 b0=some r) (hG_:GL w):
  Calls Tryz.prog 92 #[.string a0,.string b0] w fun e w'=>∃v0_:Value,e= .returned (v0_)∧Kd.R Kd.string 9 w' w.heap.size (fun _=>True) v0_ r∧Below w.heap.size w w':=by
 unfold strings_Split.f at h
 by_cases h0:a0.size<4294967281
 ·rw[if_pos h0]at h
  by_cases h1:1≤b0.size
  ·rw[if_pos h1]at h;obtain rfl:=Option.some.inj h;obtain⟨m,hm⟩:=hG_.maxlen;refine(Tryz.strings_Split a0 b0 m w h0 hm h1).mono ?_;rintro e w' ⟨rfl,rfl⟩;have hl:=Lib.splitB_all b0 h1 0 _ a0 rfl;have hc:=Lib.countB_le b0 h1 a0.size a0 (Nat.le_refl _);refine⟨_,rfl,?_,below_alloc (Below.refl _ _) _⟩;refine Kd.R_of_own (enc:=Value.string) (h1:=fun _=>rfl) ⟨by rw[encs_length,Nat.mul_one],.inr ⟨w.heap.size,Lib.countB a0 b0+1,((Lib.splitB b0 0 (Lib.countB a0 b0) a0).map Value.string).toArray,by rw[hl],Nat.le_refl _,?_,by rw[hl];exact Nat.le_refl _,?_,?_,?_⟩⟩ (fun _ _=>trivial)
   ·show(w.heap.push _)[w.heap.size]? =_
    simp
   ·have:maxLen=9223372036854775807:=rfl
    omega
   ·simp[hl]
   ·rw[Nat.mul_one];unfold encs;exact List.take_of_length_le (by simp)
  ·rw[if_neg h1]at h;cases h
 ·rw[if_neg h0]at h;cases h

def slices_Index_string_string.l0:Nat→List ByteArray→ByteArray→Int→Int→Option (Int)
 |0,_,_,_,_=>none
 |k+1,a0,b0,c0,d0=>if d0<c0 then(if 0≤d0 then(if d0<(a0.length:Int)then(if b0.toList=(rdOf ByteArray.empty a0 d0).toList then(some d0)else(slices_Index_string_string.l0 k a0 b0 c0 (wrap64 (d0+1))))else(none))else(none))else(some (-1))
def slices_Index_string_string.f (k:Nat) (a0:List ByteArray) (b0:ByteArray):Option (Int):=slices_Index_string_string.l0 k a0 b0 (a0.length:Int) 0
theorem slices_Index_string_string.calls (k:Nat) (a0:Option Addr) (b0:Nat) (c0:List ByteArray) (d0:ByteArray) (r:Int) (w:World) (e0:Kd.C Kd.string w a0 c0.length c0) (g0:c0.length≤b0) (h:slices_Index_string_string.f k c0 d0=some r):
  Calls Tryz.prog 93 #[.slice a0 c0.length b0,.string d0] w fun e w'=>e= .returned (.int .i64 r)∧Drawn0 w w':=by
 have j0:=qa e0;have n0:=qa g0;clear e0 g0;have H:=h;unfold slices_Index_string_string.f at H;clear h;have H':=qa H;clear H
 go_enter Tryz.func93,Tryz.ntmps93
 go_wp2
 go_loopg [8] k (fun kq p0 w'=>∃(q0:Int),p0= .int .i64 q0∧Aside0 (slices_Index_string_string.l0 kq c0 d0 (c0.length:Int) q0=some r)∧Aside0 (kq≤k)∧Drawn0 w w')
 case atStart=>exact⟨(0),(sd),H',⟨Nat.le_refl _⟩,dr⟩
 case round=>
  clear H';obtain⟨q0,rfl,HA,HK1,⟨m1,rfl⟩⟩:=hrel;obtain⟨k1,rfl,H⟩:=kz gk HA;clear HA;simp only[slices_Index_string_string.l0]at H;replace H:=qe H;obtain⟨r0,H⟩|⟨r0,H⟩:=H
  ·replace H:=qd H;obtain⟨s0,H⟩:=H;replace H:=qd H;obtain⟨t0,H⟩:=H;replace H:=qq H;obtain⟨v0,w0,H⟩|⟨x0,v0,w0,H⟩:=H
   ·obtain rfl:=sj H;obtain⟨y0,⟨⟩,A0,B0,C0⟩:=as_ j0.out q0;go_wp2;go_ret;exact⟨sd,dr⟩
   ·have H':=qa H;clear H;obtain⟨y0,⟨⟩,A0,B0,C0⟩:=as_ j0.out q0;go_wp2
    go_roundg k1
    case measure=>have:=HK1.out;omega
    case rel=>exact⟨(wrap64 (q0+1)),(sd),H',⟨by have:=HK1.out;omega⟩,dr⟩
  ·obtain rfl:=sj H;go_wp2;go_ret;exact⟨sd,dr⟩

-- GLOBAL
-- IMPORT Derived.Test.YtdmlkjjlgkdnlaaGreatDoorShelf
def strconv_Atoi.val (s:ByteArray):Int:=match Lib.atoiAll s.data.toList with
 | .ok v => v
 | .range => Lib.atoiSat s.data.toList
 | _ => 0
def strconv_Atoi.err (s:ByteArray):Option Int:=match Lib.atoiAll s.data.toList with
 | .ok _=>none
 |_=>some 0
def strconv_Atoi.f (a0:ByteArray):Option (Int×Option Int):=if a0.size≤281474976710656 then some (strconv_Atoi.val a0,strconv_Atoi.err a0)else none
theorem strconv_Atoi.calls (a0:ByteArray) (b0:Int) (c0:Option Int) (w:World) (h:strconv_Atoi.f a0=some (b0,c0)) (hG_:GL w):
  Calls Tryz.prog 94 #[.string a0] w fun e w'=>∃ev:Value,((c0=none∧ev= .nilIface)∨(c0≠none∧∃te pe,ev= .iface te pe))∧e= .returned (.tuple #[.int .i64 b0,ev])∧Below w.heap.size w w':=by
 unfold strconv_Atoi.f at h
 by_cases h0:a0.size≤281474976710656
 ·rw[if_pos h0]at h;have d0:strconv_Atoi.val a0=b0:=congrArg (·.1) (Option.some.inj h);have e0:strconv_Atoi.err a0=c0:=congrArg (·.2) (Option.some.inj h);unfold strconv_Atoi.val at d0;unfold strconv_Atoi.err at e0
  rcases ha:Lib.atoiAll a0.data.toList with v|_|_
  ·rw[ha]at d0 e0;refine(Tryz.strconv_Atoi_ok a0 ko_ v ha w).mono ?_;rintro e w' ⟨rfl,hw⟩;refine⟨_,.inl ⟨e0.symm,rfl⟩,by rw[←d0],?_⟩
   rcases hw with rfl|⟨t,rfl⟩
   ·exact Below.refl _ _
   ·exact Lib.bytesWorld_below _ _ _
  ·rw[ha]at d0 e0;obtain⟨ev,h1,h2⟩:=hG_.esyn;refine(Tryz.strconv_Atoi_syntax a0 h0 ha ev w h1 h2).mono ?_;rintro e w' ⟨N,rfl,_,_,hb⟩;exact⟨_,.inr ⟨by rw[←e0];simp,_,_,rfl⟩,by rw[←d0],hb⟩
  ·rw[ha]at d0 e0;obtain⟨ev,h1,h2⟩:=hG_.eran;refine(Tryz.strconv_Atoi_range a0 h0 ha ev w h1 h2).mono ?_;rintro e w' ⟨N,rfl,_,_,hb⟩;exact⟨_,.inr ⟨by rw[←e0];simp,_,_,rfl⟩,by rw[←d0],hb⟩
 ·rw[if_neg h0]at h;cases h
theorem ev0_ {ev:Value} (h:((none:Option Int)=none∧ev= .nilIface)∨((none:Option Int)≠none∧∃te pe,ev= .iface te pe)):ev= .nilIface :=h.elim (·.2) fun z=>absurd rfl z.1
theorem ev1_ {c:Int} {ev:Value} (h:(some c=none∧ev= .nilIface)∨(some c≠none∧∃te pe,ev= .iface te pe)):∃te pe,ev= .iface te pe:=h.elim (fun z=>by cases z.1) (·.2)

mutual
def impl_ReadDeed.j0:Nat→ByteArray→List ByteArray→Int→Bool→Option (Int×Int×Int×Bool)
 |0,_,_,_,_=>none
 |k+1,a0,b0,c0,d0=>if d0=true then(some (0,0,0,false))else((some (([0,1,2,3,4]:List Int):List Int)).bind fun e0=>(if 0≤c0 then(if c0<(e0.length:Int)then(if(b0.length:Int)>1 then(if 1<(b0.length:Int)then((strconv_Atoi.f (rdOf ByteArray.empty b0 1)).bind fun g0=>(impl_ReadDeed.j1 k a0 b0 (rd e0 c0) g0.1 0))else(none))else(impl_ReadDeed.j1 k a0 b0 (rd e0 c0) 0 0))else(none))else(none)))
def impl_ReadDeed.j1:Nat→ByteArray→List ByteArray→Int→Int→Int→Option (Int×Int×Int×Bool)
 |0,_,_,_,_,_=>none
 |k+1,a0,b0,l0,n0,p0=>if(b0.length:Int)>2 then(if 2<(b0.length:Int)then((strconv_Atoi.f (rdOf ByteArray.empty b0 2)).bind fun q0=>((impl_DeedText.f k l0 n0 q0.1).bind fun r0=>(if r0.toList=a0.toList then(some (l0,n0,q0.1,true))else(some (0,0,0,false)))))else(none))else((impl_DeedText.f k l0 n0 p0).bind fun s0=>(if s0.toList=a0.toList then(some (l0,n0,p0,true))else(some (0,0,0,false))))
end

def impl_ReadDeed.f (k:Nat) (a0:ByteArray):Option (Int×Int×Int×Bool):=(strings_Split.f a0 (⟨#[32]⟩:ByteArray)).bind fun b0=>(if 0<(b0.length:Int)then((slices_Index_string_string.f k (([(⟨#[116,105,109,101,115]⟩:ByteArray),(⟨#[117,110,105,116,97,114,121]⟩:ByteArray),(⟨#[105,110,118,101,114,115,101]⟩:ByteArray),(⟨#[115,101,116]⟩:ByteArray),(⟨#[98,97,99,107]⟩:ByteArray)]:List ByteArray)) (rdOf ByteArray.empty b0 0)).bind fun c0=>(if c0<0 then(impl_ReadDeed.j0 k a0 b0 c0 true)else(impl_ReadDeed.j0 k a0 b0 c0 (decide ((b0.length:Int)>3)))))else(none))
theorem impl_ReadDeed.calls (k:Nat) (a0:ByteArray) (b0:Int) (c0:Int) (d0:Int) (e0:Bool) (w:World) (h:impl_ReadDeed.f k a0=some (b0,c0,d0,e0)) (hG_:GL w):
  Calls Tryz.prog 52 #[.string a0] w fun e w'=>e= .returned (.tuple #[.agg #[.int .i64 b0,.int .i64 c0,.int .i64 d0],.bool e0])∧Below w.heap.size w w':=by
 have g0:=Tryz.underlying55;have HB:=qa (Below.refl w.heap.size w);have H:=h;unfold impl_ReadDeed.f at H;clear h;replace H:=qb H;obtain⟨l0,n0,H⟩:=H;obtain⟨p0,hy_⟩:∃y_:List ByteArray,y_=(([(⟨#[116,105,109,101,115]⟩:ByteArray),(⟨#[117,110,105,116,97,114,121]⟩:ByteArray),(⟨#[105,110,118,101,114,115,101]⟩:ByteArray),(⟨#[115,101,116]⟩:ByteArray),(⟨#[98,97,99,107]⟩:ByteArray)]:List ByteArray)):=⟨_,rfl⟩;replace H:(if 0<(l0.length:Int)then((slices_Index_string_string.f k p0 (rdOf ByteArray.empty l0 0)).bind fun q0=>(if q0<0 then(impl_ReadDeed.j0 k a0 l0 q0 true)else(impl_ReadDeed.j0 k a0 l0 q0 (decide ((l0.length:Int)>3)))))else(none))=some (b0,c0,d0,e0):=yh;have r0:=qa hy_;clear hy_
 by_cases s0:0<(l0.length:Int)
 ·rw[if_pos s0]at H;have t0:decide (0<(l0.length:Int))=true:=decide_eq_true s0;have v0:decide (0<l0.length)=true:=decide_eq_true ko_;clear s0;replace H:=qb H;obtain⟨q0,w0,H⟩:=H;have x0:=qa H;clear H
  go_enter Tryz.func52,Tryz.ntmps52
  go_upto_region 3 with(go_big_may;first|((with_reducible refine gate_dst (N:=2) rfl ?_);(try(refine gate_guard (by rfl) ?_;dsimp only));refine bx 2 #[.int .i64 0,.int .i64 0,.int .i64 0] 55 ?_;intro y0 hg A0 hbox hb;have B0:=qa (hbox);have C0:=gw hg;have D0:=gw hg;replace HB:=bs hb;clear hb hbox hg)|(refine ge_ 8 Tryz.func92 (strings_Split.calls a0 (⟨#[32]⟩:ByteArray) l0 _ n0.out (GL_below hG_ (bl))) fun E0 G0 J0 hb=>?_;have K0:=qa (Kd.R_lower J0 (below_size (bl)));replace B0:=qbb B0 hb;replace HB:=bs hb)|(refine rls 9 9 r0.out fun L0 M0 N0 hb=>?_;have P0:=qa (Kd.R_lower (Kd.R_new' N0 (Kd.R_lt (kR K0))) (below_size (bl)));replace K0:=qa (Kd.R_elder' (kR K0) (Kd.R_base N0) hb);replace B0:=qbb B0 hb;replace HB:=bs hb;clear hb N0;obtain⟨Q0,R0,rfl⟩:=Kd.R_slice K0.out;obtain⟨U0,⟨⟩,V0,qi163,W0,X0⟩:=asn 0 (Kd.R_reads' K0.out).2.2 0;(try rw[Addr.add_zero']at V0);obtain⟨Y0,a1,rfl⟩:=Kd.R_slice P0.out)|(refine gd 13 Tryz.func93 (slices_Index_string_string.calls k _ _ p0 (rdOf ByteArray.empty l0 0) q0 _ (cx (Kd.R_reads' P0.out).2.2) ((Kd.R_reads' P0.out).2.1) w0.out) fun nd=>?_))
  (try simp only[Act.put,List.setIfInBounds_toArray,List.set_cons_zero,List.set_cons_succ])
  go_cut [20] (fun b1 wc=>∃(kq:Nat) (c1:Bool),b1= .bool c1∧Aside0 (impl_ReadDeed.j0 kq a0 l0 q0 c1=some (b0,c0,d0,e0))∧Aside0 (kq≤k)∧Aside0 (Kd.R Kd.string 9 wc w.heap.size (fun _=>True) (.slice (some U0) l0.length R0) l0)∧Aside0 (wc.heap[y0]? =some (.cells #[.int .i64 0,.int .i64 0,.int .i64 0] 55 (0,0)))∧Aside0 (Below w.heap.size w wc))
  case first=>
   have H:=x0.out;clear x0;replace H:=qe H;obtain⟨d1,H⟩|⟨d1,H⟩:=H
   ·(first|rw[d1]|(simp only[i64_w,i32_w];rw[d1])|skip);have H':=qa H;clear H;go_wp2;go_meet
    case rel=>exact⟨_,(true),(sd),H',⟨by first|omega|exact Nat.le_refl _⟩,⟨by(with_reducible repeat(first|apply Kd.R_alloc|apply Kd.R_drewN|apply Kd.R_drew));exact Kd.R_mono K0.out (fun _ hk=>trivial)⟩,⟨bk⟩,⟨bl⟩⟩
   ·(first|rw[d1]|(simp only[i64_w,i32_w];rw[d1])|skip);have H':=qa H;clear H;go_wp2;go_meet
    case rel=>exact⟨_,(decide ((l0.length:Int)>3)),(sd),H',⟨by first|omega|exact Nat.le_refl _⟩,⟨by(with_reducible repeat(first|apply Kd.R_alloc|apply Kd.R_drewN|apply Kd.R_drew));exact Kd.R_mono K0.out (fun _ hk=>trivial)⟩,⟨bk⟩,⟨bl⟩⟩
  case rest=>
   clear x0;obtain⟨kq,c1,rfl,HA,e1,g1,B0,HB⟩:=hcut;obtain⟨l1,rfl,H⟩:=kz kq HA;clear HA;simp only[impl_ReadDeed.j0]at H;replace H:=qc H;obtain⟨rfl,H⟩|⟨rfl,H⟩:=H
   ·simp only[Option.some.injEq,Prod.mk.injEq]at H;obtain⟨rfl,rfl,rfl,rfl⟩:=H;obtain⟨n1,p1,q1,r1,s1,t1⟩:=qk3 B0;go_wp2;refine bodyPost_ret (results_ct rfl _ _ y0 55 #[.int .i64 0,.int .i64 0,.int .i64 0] (0,0) _ rfl (kP B0) Tryz.underlying55 rfl kr_) rfl ?_;exact⟨er,bl⟩
   ·replace H:=qs H;obtain⟨v1,w1,H⟩:=H;replace H:=qd H;obtain⟨x1,H⟩:=H;replace H:=qd H;obtain⟨y1,H⟩:=H;have A1:=qa H;clear H
    go_upto_if 29 with(go_big_may;first|(refine rli .i64 3 22 w1.out fun B1 C1 D1 hb=>?_;replace g1:=qa (Kd.R_below (kR g1) hb);have E1:=qa (Kd.R_lower D1 (below_size (bl)));replace B0:=qbb B0 hb;replace HB:=bs hb;clear hb D1;obtain⟨G1,J1,rfl⟩:=Kd.R_slice E1.out;obtain⟨K1,⟨⟩,L1,M1,N1⟩:=ai (Kd.R_reads' E1.out).2.2 q0)|((with_reducible refine gate_dst (N:=6) rfl ?_);(try(refine gate_guard (by rfl) ?_;dsimp only));refine bx 6 #[.int .i64 0,.int .i64 0,.int .i64 0] 55 ?_;intro P1 hg Q1 hbox hb;replace g1:=qa (Kd.R_below (kR g1) hb);replace E1:=qa (Kd.R_below (kR E1) hb);have R1:=qa (hbox);have U1:=gw hg;have V1:=gw hg;replace HB:=bs hb;have W1:=qnl hg B0;have X1:=qng hg B0;replace B0:=qbb B0 hb;clear hb hbox hg;have Y1:=X1.out;have a2:=W1.out;obtain⟨b2,c2,d2,e2,g2,j2⟩:=qk3 R1))
    (try simp only[Act.put,List.setIfInBounds_toArray,List.set_cons_zero,List.set_cons_succ])
    go_cut [] (fun wc=>∃(kq:Nat) (l2:Int),Aside0 (impl_ReadDeed.j1 kq a0 l0 (rd v1 q0) l2 0=some (b0,c0,d0,e0))∧Aside0 (kq≤l1)∧Aside0 (Kd.R Kd.string 9 wc w.heap.size (fun _=>True) (.slice (some U0) l0.length R0) l0)∧Aside0 (wc.heap[y0]? =some (.cells #[.int .i64 0,.int .i64 0,.int .i64 0] 55 (0,0)))∧Aside0 (wc.heap[P1]? =some (.cells #[.int .i64 (rd v1 q0),.int .i64 l2,.int .i64 0] 55 (0,0)))∧Aside0 (Below w.heap.size w wc))
    case first=>
     have H:=A1.out;clear A1
     by_cases n2:(l0.length:Int)>1
     ·rw[if_pos n2]at H;have p2:decide (1<(l0.length:Int))=true:=decide_eq_true n2;have q2:decide (1<l0.length)=true:=decide_eq_true ko_;clear n2;(first|rw[p2]|(simp only[i64_w,i32_w];rw[p2])|skip);replace H:=qL 1 H;obtain⟨r2,s2,H⟩:=H;replace H:=qb H;obtain⟨⟨t2,v2⟩,w2,H⟩:=H;(try dsimp only at H);have H':=qa H;clear H;have x2:0≤(1:Int):=ko_;have y2:1<(l0.length:Int):=qo;obtain⟨A2,B2,C2⟩:=Kd.at_string (Kd.R_reads' g1.out).2.2 1 x2 y2;obtain rfl:U0=A2:=(by injection B2);(try simp only[show(1:Int).toNat =1 from rfl,Nat.reduceMul,Nat.reduceEqDiff,Go.Addr.add,↓reduceIte]at C2);have qi170:(1<l0.length)=True:=eq_true ko_;(try rw[show((1:Int)).toNat =1 from rfl]at C2);have D2:U0.block≠P1:=Kd.own_blk (Kd.R_ne g1.out R1.out kd_);have E2:U0.block≠P1:=Kd.own_blk (Kd.R_ne g1.out R1.out kd_);have G2:U0.block≠P1:=Kd.own_blk (Kd.R_ne g1.out R1.out kd_);replace C2:=(cell_far (p:=⟨P1,0,none⟩) (by first|(rw[add_block];exact D2)|(show(Addr.add _ _).block ≠_;rw[add_block];exact D2)|exact D2) (.int .i64 (rd v1 q0))).trans C2;replace C2:=(cell_far (p:=⟨P1,1,none⟩) (by first|(rw[add_block];exact E2)|(show(Addr.add _ _).block ≠_;rw[add_block];exact E2)|exact E2) (.int .i64 0)).trans C2;replace C2:=(cell_far (p:=⟨P1,2,none⟩) (by first|(rw[add_block];exact G2)|(show(Addr.add _ _).block ≠_;rw[add_block];exact G2)|exact G2) (.int .i64 0)).trans C2;clear D2;clear E2;clear G2;replace x2:=eq_true x2;replace y2:=eq_true y2
      go_wp2_with(first|(refine gol (some 34) Tryz.func94 #[.string (rdOf ByteArray.empty l0 1)] ?_;(with_reducible refine(strconv_Atoi.calls (rdOf ByteArray.empty l0 1) t2 v2 _ w2.out ?J2).mono ?_);(case J2=>exact GL_below hG_ (bl));rintro e K2 ⟨ev_,hev_,rfl,hb⟩;refine⟨_,rfl,?_⟩;replace g1:=qa (Kd.R_below (kFR g1 R1 (fun _ h_=>h_.1)) hb);replace E1:=qa (Kd.R_below (kFR E1 R1 (fun _ h_=>h_.1)) hb);replace B0:=qbb B0 hb;replace R1:=qa (blk_below (g:=P1) (o:= .cells #[.int .i64 (rd v1 q0),.int .i64 0,.int .i64 0] 55 (0,0)) (kP R1) hb);replace HB:=bs hb;(try simp only[errW_none,errW_some]);have L2:=X1.out;have M2:=W1.out;obtain⟨N2,P2,Q2,R2,U2,V2⟩:=qk3 R1))
      go_meet
      case rel=>exact⟨_,(t2),H',⟨by have:=e1.out;first|omega|exact Nat.le_refl _⟩,⟨kFR g1 R1 (fun _ hk=>trivial)⟩,⟨kb B0⟩,⟨kP R1⟩,⟨bl⟩⟩
     ·rw[if_neg n2]at H;have p2:decide (1<(l0.length:Int))=false:=decide_eq_false n2;have q2:decide (1<l0.length)=false:=decide_eq_false ko_;clear n2;(first|rw[p2]|(simp only[i64_w,i32_w];rw[p2])|skip);have H':=qa H;clear H;go_wp2;go_meet
      case rel=>exact⟨_,(0),H',⟨by have:=e1.out;first|omega|exact Nat.le_refl _⟩,⟨kFR g1 R1 (fun _ hk=>trivial)⟩,⟨kb B0⟩,⟨kP R1⟩,⟨bl⟩⟩
    case rest=>
     clear A1;obtain⟨kq,l2,HA,W2,g1,B0,R1,HB⟩:=hcut;obtain⟨X2,rfl,H⟩:=kz kq HA;clear HA;simp only[impl_ReadDeed.j1]at H
     by_cases Y2:(l0.length:Int)>2
     ·rw[if_pos Y2]at H;have a3:decide (2<(l0.length:Int))=true:=decide_eq_true Y2;have b3:decide (2<l0.length)=true:=decide_eq_true ko_;clear Y2;replace H:=qL 2 H;obtain⟨c3,d3,H⟩:=H;replace H:=qb H;obtain⟨⟨e3,g3⟩,j3,H⟩:=H;(try dsimp only at H);replace H:=qb H;obtain⟨l3,n3,H⟩:=H;replace H:=qq H;obtain⟨p3,q3,H⟩|⟨r3,p3,q3,H⟩:=H
      ·simp only[Option.some.injEq,Prod.mk.injEq]at H;obtain⟨rfl,rfl,rfl,rfl⟩:=H;have s3:0≤(2:Int):=ko_;have t3:2<(l0.length:Int):=qo;obtain⟨v3,w3,x3⟩:=Kd.at_string (Kd.R_reads' g1.out).2.2 2 s3 t3;obtain rfl:U0=v3:=(by injection w3);(try simp only[show(2:Int).toNat =2 from rfl,Nat.reduceMul,Nat.reduceEqDiff,Go.Addr.add,↓reduceIte]at x3);have qi173:(2<l0.length)=True:=eq_true ko_;(try rw[show((2:Int)).toNat =2 from rfl]at x3);replace s3:=eq_true s3;replace t3:=eq_true t3
       go_wp2_with(first|(refine gol (some 45) Tryz.func94 #[.string (rdOf ByteArray.empty l0 2)] ?_;(with_reducible refine(strconv_Atoi.calls (rdOf ByteArray.empty l0 2) e3 g3 _ j3.out ?J2).mono ?_);(case J2=>exact GL_below hG_ (bl));rintro e y3 ⟨ev_,hev_,rfl,hb⟩;refine⟨_,rfl,?_⟩;replace g1:=qa (Kd.R_below (kR g1) hb);replace B0:=qbb B0 hb;replace R1:=qbb R1 hb;replace HB:=bs hb;(try simp only[errW_none,errW_some]);have A3:=X1.out;have B3:=W1.out;obtain⟨C3,D3,E3,G3,J3,K3⟩:=qk3 R1)|(refine gb 50 Tryz.func33 (impl_DeedText.calls X2 (rd v1 q0) l2 e3 l3 _ n3.out (GL_below hG_ (bl))) fun L3 hb=>?_;replace g1:=qa (Kd.R_below (kFR g1 R1 (fun _ h_=>h_.1)) hb);replace B0:=qbb B0 hb;replace R1:=qa (blk_below (g:=P1) (o:= .cells #[.int .i64 (rd v1 q0),.int .i64 l2,.int .i64 e3] 55 (0,0)) (kP R1) hb);replace HB:=bs hb;obtain⟨M3,N3,P3,Q3,R3,U3⟩:=qk3 R1;obtain⟨V3,W3,X3,Y3,a4,b4⟩:=qk3 B0))
       refine bodyPost_ret (results_ct rfl _ _ y0 55 #[.int .i64 (rd v1 q0),.int .i64 l2,.int .i64 e3] (0,0) _ rfl (kP B0) Tryz.underlying55 rfl kr_) rfl ?_;exact⟨er,bl⟩
      ·simp only[Option.some.injEq,Prod.mk.injEq]at H;obtain⟨rfl,rfl,rfl,rfl⟩:=H;have s3:0≤(2:Int):=ko_;have t3:2<(l0.length:Int):=qo;obtain⟨v3,w3,x3⟩:=Kd.at_string (Kd.R_reads' g1.out).2.2 2 s3 t3;obtain rfl:U0=v3:=(by injection w3);(try simp only[show(2:Int).toNat =2 from rfl,Nat.reduceMul,Nat.reduceEqDiff,Go.Addr.add,↓reduceIte]at x3);have qi173:(2<l0.length)=True:=eq_true ko_;(try rw[show((2:Int)).toNat =2 from rfl]at x3);replace s3:=eq_true s3;replace t3:=eq_true t3
       go_wp2_with(first|(refine gol (some 45) Tryz.func94 #[.string (rdOf ByteArray.empty l0 2)] ?_;(with_reducible refine(strconv_Atoi.calls (rdOf ByteArray.empty l0 2) e3 g3 _ j3.out ?J2).mono ?_);(case J2=>exact GL_below hG_ (bl));rintro e c4 ⟨ev_,hev_,rfl,hb⟩;refine⟨_,rfl,?_⟩;replace g1:=qa (Kd.R_below (kR g1) hb);replace B0:=qbb B0 hb;replace R1:=qbb R1 hb;replace HB:=bs hb;(try simp only[errW_none,errW_some]);have d4:=X1.out;have e4:=W1.out;obtain⟨g4,j4,l4,n4,p4,q4⟩:=qk3 R1)|(refine gb 50 Tryz.func33 (impl_DeedText.calls X2 (rd v1 q0) l2 e3 l3 _ n3.out (GL_below hG_ (bl))) fun r4 hb=>?_;replace g1:=qa (Kd.R_below (kFR g1 R1 (fun _ h_=>h_.1)) hb);replace B0:=qbb B0 hb;replace R1:=qa (blk_below (g:=P1) (o:= .cells #[.int .i64 (rd v1 q0),.int .i64 l2,.int .i64 e3] 55 (0,0)) (kP R1) hb);replace HB:=bs hb;obtain⟨s4,t4,v4,w4,x4,y4⟩:=qk3 B0))
       refine bodyPost_ret (results_ct rfl _ _ y0 55 #[.int .i64 0,.int .i64 0,.int .i64 0] (0,0) _ rfl (kP B0) Tryz.underlying55 rfl kr_) rfl ?_;exact⟨er,bl⟩
     ·rw[if_neg Y2]at H;have a3:decide (2<(l0.length:Int))=false:=decide_eq_false Y2;have b3:decide (2<l0.length)=false:=decide_eq_false ko_;clear Y2;replace H:=qb H;obtain⟨A4,B4,H⟩:=H;replace H:=qq H;obtain⟨C4,D4,H⟩|⟨E4,C4,D4,H⟩:=H
      ·simp only[Option.some.injEq,Prod.mk.injEq]at H;obtain⟨rfl,rfl,rfl,rfl⟩:=H;have G4:=X1.out;have J4:=W1.out;obtain⟨K4,L4,M4,N4,P4,Q4⟩:=qk3 R1
       go_wp2_with(first|(refine gb 50 Tryz.func33 (impl_DeedText.calls X2 (rd v1 q0) l2 0 A4 _ B4.out (GL_below hG_ (bl))) fun R4 hb=>?_;replace g1:=qa (Kd.R_below (kR g1) hb);replace B0:=qbb B0 hb;replace R1:=qbb R1 hb;replace HB:=bs hb;obtain⟨U4,V4,W4,X4,Y4,a5⟩:=qk3 R1;obtain⟨b5,c5,d5,e5,g5,j5⟩:=qk3 B0))
       refine bodyPost_ret (results_ct rfl _ _ y0 55 #[.int .i64 (rd v1 q0),.int .i64 l2,.int .i64 0] (0,0) _ rfl (kP B0) Tryz.underlying55 rfl kr_) rfl ?_;exact⟨er,bl⟩
      ·simp only[Option.some.injEq,Prod.mk.injEq]at H;obtain⟨rfl,rfl,rfl,rfl⟩:=H;have l5:=X1.out;have n5:=W1.out;obtain⟨p5,q5,r5,s5,t5,v5⟩:=qk3 R1
       go_wp2_with(first|(refine gb 50 Tryz.func33 (impl_DeedText.calls X2 (rd v1 q0) l2 0 A4 _ B4.out (GL_below hG_ (bl))) fun w5 hb=>?_;replace g1:=qa (Kd.R_below (kR g1) hb);replace B0:=qbb B0 hb;replace R1:=qbb R1 hb;replace HB:=bs hb;obtain⟨x5,y5,A5,B5,C5,D5⟩:=qk3 B0))
       refine bodyPost_ret (results_ct rfl _ _ y0 55 #[.int .i64 0,.int .i64 0,.int .i64 0] (0,0) _ rfl (kP B0) Tryz.underlying55 rfl kr_) rfl ?_;exact⟨er,bl⟩
 ·rw[if_neg s0]at H;exact absurd H (by simp)

def slices_Clone_int_int.f (k:Nat) (a0:List Int):Option (List Int):=if 0<a0.length then(if a0.length<17592186044416 then some a0 else none)else none
theorem slices_Clone_int_int.nil_in (w:World) (d:Nat) (a:Option Addr) (l c:Nat):(Op.equalIn (d+1) 22 (.slice a l c) (.slice none 0 0)).run Tryz.prog w= .ok a.isNone w:=by
 cases a <;> simp[Op.equalIn,run_underlying Tryz.underlying22]
theorem slices_Clone_int_int.nil_eq (w:World) (a:Option Addr) (l c:Nat):(binOp .eql 22 (.slice a l c) (.slice none 0 0)).run Tryz.prog w= .ok (.bool a.isNone) w:=by
 have h:(Op.equal 22 (.slice a l c) (.slice none 0 0)).run Tryz.prog w= .ok a.isNone w:=slices_Clone_int_int.nil_in w 9999 a l c
 simp[binOp,h]
theorem slices_Clone_int_int.calls (k:Nat) (a0:Option Addr) (b0:Nat) (c0:List Int) (r:List Int) (w:World) (d0:Kd.C (Kd.int .i64) w a0 c0.length c0) (e0:c0.length≤b0) (h:slices_Clone_int_int.f k c0=some r):
  Calls Tryz.prog 99 #[.slice a0 c0.length b0] w fun e w'=>∃v0_:Value,e= .returned (v0_)∧Kd.R (Kd.int .i64) 3 w' w.heap.size (fun _=>True) v0_ r∧Below w.heap.size w w':=by
 unfold slices_Clone_int_int.f at h
 by_cases g0:0<c0.length
 ·rw[if_pos g0]at h
  by_cases j0:c0.length<17592186044416
  ·rw[if_pos j0]at h;obtain rfl:=Option.some.inj h;clear h;obtain⟨l0,hA,_⟩:=d0.2.2 g0;subst hA;have n0:=qa d0;have p0:=qa j0;clear d0 e0 g0 j0;have HB:=qa (Below.refl w.heap.size w);have hnilq:=slices_Clone_int_int.nil_eq
   go_enter Tryz.func99,Tryz.ntmps99
   go_wp2_with(first|((with_reducible refine gate_dst (N:=5) rfl ?_);refine Kd.R_lit (Kd.int .i64) _ 3 ?hg (N:=5) ?hd (xs:=([]:List Int)) (inner:=[]) (ok:=fun _=>True) (okp:=fun _=>True) ?hr ?hp (fun _ hk=>hk) trivial (Below.refl _ _) (Nat.le_refl _) (by simp) ?_;(case hd=>rfl);(case hg=>rfl);(case hr=>exact gr);(case hp=>exact(Reps.none _ _));intro q0 r0 s0 hb hg_ hnew_;clear hg_ hnew_;have n0_:=qa (Kd.R_lower s0 (below_size (bl)));have n3_:=qa (below_step (bl) hb);clear HB;have t0:=n0_;have HB:=n3_;clear n0_ n3_;clear hb s0)|((with_reducible refine gate_builtin (b:= .append) (xs:=#[.tmp 5,.tmp 6]) rfl ?_);at_builtin;refine Kd.R_append_rows (Kd.int .i64) (w0:=w) w.heap.size rfl (.tmp 5) (.tmp 6) 22 3 (.int .i64 0) 8 rfl Tryz.underlying22 info3 rfl kd_ ko_ q0 ([]:List Int) c0 _ _ _ (fun _=>True) (fun _=>False) rfl rfl ?aO ?aR (fun _ _ h=>h) (fun _ h=>h.elim) ?aF ?aB ?aS ?aL ?_;(case aR=>exact cx (Kd.C_below n0.out HB.out));(case aB=>exact(bl));(case aF=>exact(fun _ _=>trivial));(case aO=>exact(kR t0));(case aS=>exact(below_size (bl)));(case aL=>have:=p0.out;simp;omega);intro v0 w0 ho hb hg hat;rw[List.nil_append]at ho;have n2_:=qa (hb);have n3_:=qa (ho);clear HB;clear t0;have HB:=n2_;have x0:=n3_;clear n2_ n3_;clear ho hb hg hat))
   go_ret;exact⟨_,sd,kR x0,bl⟩
  ·rw[if_neg j0]at h;cases h
 ·rw[if_neg g0]at h;cases h
def impl_copyDesk.l0:Nat→List (List Int)→Int→Int→List Int→List (List Int)→Option (List Int×(List (List Int)))
 |0,_,_,_,_,_=>none
 |k+1,a0,b0,c0,d0,e0=>if c0<b0 then(if 0≤c0 then(if c0<(a0.length:Int)then((slices_Clone_int_int.f k (rd_L1 a0 c0)).bind fun g0=>(if e0.length<5864062014805 then(impl_copyDesk.l0 k a0 b0 (wrap64 (c0+1)) d0 (e0++[g0]))else(none)))else(none))else(none))else(some (d0,e0))
def impl_copyDesk.f (k:Nat) (a0:List Int) (b0:List (List Int)):Option (List Int×(List (List Int))):=(slices_Clone_int_int.f k a0).bind fun c0=>(impl_copyDesk.l0 k b0 (b0.length:Int) 0 c0 ([]:List (List Int)))
def impl_copyDesk.T5:Bool×List (List Nat×List Nat):=(true,[([],[]),([0],[0]),([],[]),([2],[2]),([3],[3]),([1,4,3],[1,4]),([0,1,2,3,4,5],[]),([6,5,5,0,1,2,3,4,5],[5,6])])
def impl_copyDesk.B5:List Nat:=[0,1,0,4,12,31,63,127]
theorem impl_copyDesk.tab5:rtab .any (opsOf Tryz.f54 5)=impl_copyDesk.T5:=by kernel_rfl
theorem impl_copyDesk.bits5:waitsOk impl_copyDesk.T5.2 impl_copyDesk.B5=true:=by kernel_rfl
theorem impl_copyDesk.calls (k:Nat) (a0:Option Addr) (b0:Nat) (c0:List Int) (d0:Option Addr) (e0:Nat) (g0:List (List Int)) (j0:List Int) (n0:List (List Int)) (w:World) (p0:Kd.C (Kd.int .i64) w a0 c0.length c0) (q0:c0.length≤b0) (r0:Kd.C (Kd.slice 3 (Kd.int .i64)) w d0 g0.length g0) (s0:g0.length≤e0) (h:impl_copyDesk.f k c0 g0=some (j0,n0)):
  Calls Tryz.prog 54 #[.agg #[.slice a0 c0.length b0,.slice d0 g0.length e0]] w fun e w'=>∃v0_ v1_:Value,e= .returned (.agg #[v0_,v1_])∧Kd.R (Kd.int .i64) 3 w' w.heap.size (fun _=>True) v0_ j0∧Kd.S (Kd.slice 3 (Kd.int .i64)) 22 w' w.heap.size (fun k_=>some k_≠(v0_:Value).ownBlock) v1_ n0∧Below w.heap.size w w':=by
 have t0:=Tryz.underlying27;have v0:=qa p0;have w0:=qa q0;clear p0 q0;have x0:=qa r0;have y0:=qa s0;clear r0 s0;have HB:=qa (Below.refl w.heap.size w);have H:=h;unfold impl_copyDesk.f at H;clear h;replace H:=qb H;obtain⟨A0,B0,H⟩:=H;have H':=qa H;clear H
 go_enter Tryz.func54,Tryz.ntmps54
 go_wp2_with(first|(refine bx 1 #[.slice a0 c0.length b0,.slice d0 g0.length e0] 27 ?_;intro C0 hg D0 hbox hb;have E0:=qa (hbox);have G0:=gw hg;have J0:=gw hg;replace HB:=bs hb;clear hb hbox hg)|(refine bx 2 #[.slice none 0 0,.slice none 0 0] 27 ?_;intro K0 hg L0 hbox hb;have M0:=qa (hbox);have N0:=gw hg;have P0:=gw hg;replace HB:=bs hb;have Q0:=qnl hg E0;have R0:=qng hg E0;replace E0:=qbb E0 hb;clear hb hbox hg;have U0:=Q0.out;have V0:=R0.out;obtain⟨W0,X0,Y0,a1⟩:=qk2 E0)|(refine ge_ 8 Tryz.func99 (slices_Clone_int_int.calls k _ _ c0 A0 _ (cx (Kd.C_below v0.out HB.out)) w0.out B0.out) fun b1 c1 d1 hb=>?_;have e1:=qa (Kd.R_lower d1 (below_size (bl)));replace E0:=qbb E0 hb;replace M0:=qbb M0 hb;replace HB:=bs hb;obtain⟨g1,j1,rfl⟩:=Kd.R_slice e1.out)|(refine bx 3 #[.slice none 0 0,.slice none 0 0] 27 ?_;intro l1 hg n1 hbox hb;replace e1:=qa (Kd.R_below (kR e1) hb);have p1:=qa (hbox);have q1:=gw hg;have r1:=gw hg;replace HB:=bs hb;have s1:=qnl hg E0;have t1:=qng hg E0;replace E0:=qbb E0 hb;have v1:=qnl hg M0;have w1:=qng hg M0;replace M0:=qbb M0 hb;clear hb hbox hg;have x1:=t1.out;have y1:=s1.out;have A1:=w1.out;have B1:=v1.out;obtain⟨C1,D1,E1,G1⟩:=qk2 p1;obtain⟨J1,K1,L1,M1⟩:=qk2 E0))
 go_loopg [13] k (fun kq N1 w'=>∃(P1:Int) (Q1:List (List Int)) (R1:Value),N1= .int .i64 P1∧Aside0 (impl_copyDesk.l0 kq g0 (g0.length:Int) P1 A0 Q1=some (j0,n0))∧Aside0 (kq≤k)∧Aside0 (Kd.R (Kd.int .i64) 3 w' w.heap.size (fun _=>True) (.slice g1 A0.length j1) A0)∧Aside0 (Kd.S (Kd.slice 3 (Kd.int .i64)) 22 w' w.heap.size (fun k_=>some k_≠((.slice g1 A0.length j1):Value).ownBlock) R1 Q1)∧Aside0 (w'.heap[C0]? =some (.cells #[(.slice a0 c0.length b0),(.slice d0 g0.length e0)] 27 (0,0)))∧Aside0 (w'.heap[K0]? =some (.cells #[(.slice none 0 0),(.slice none 0 0)] 27 (0,0)))∧Aside0 (w'.heap[l1]? =some (.cells #[(.slice g1 A0.length j1),R1] 27 (0,0)))∧Aside0 (Below w.heap.size w w'))
 case atStart=>exact⟨(0),(([]:List (List Int))),(.slice none 0 0),(sd),H',⟨Nat.le_refl _⟩,⟨kFR e1 p1 (fun _ hk=>trivial)⟩,⟨z14_⟩,⟨kb E0⟩,⟨kb M0⟩,⟨kP p1⟩,⟨bl⟩⟩
 case round=>
  clear H';obtain⟨P1,Q1,R1,rfl,HA,HK1,U1,V1,E0,M0,p1,HB⟩:=hrel;obtain⟨k1,rfl,H⟩:=kz gk HA;clear HA;simp only[impl_copyDesk.l0]at H;replace H:=qe H;obtain⟨W1,H⟩|⟨W1,H⟩:=H
  ·replace H:=qd H;obtain⟨X1,H⟩:=H;replace H:=qd H;obtain⟨Y1,H⟩:=H;replace H:=qb H;obtain⟨a2,b2,H⟩:=H;replace H:=qn H;obtain⟨c2,H⟩:=H;have d2:=qa c2;clear c2;obtain⟨e2,hy_⟩:∃y_:List (List Int),y_=(Q1++[a2]):=⟨_,rfl⟩;replace H:(impl_copyDesk.l0 k1 g0 (g0.length:Int) (wrap64 (P1+1)) A0 e2)=some (j0,n0):=yh;have g2:=qa hy_;clear hy_;have H':=qa H;clear H;obtain⟨j2,l2,n2,⟨⟩,p2,q2,r2,s2,t2⟩:=cg_L1 x0.out P1;(try replace p2:=(HB.out.cell (World.block_lt_of_cell? w _ p2)).trans p2)
   try go_wp2
   replace U1:=qa (Kd.R_drew U1.out);replace V1:=qa (Kd.S_drew V1.out);replace E0:=qa (blk_drew E0.out);replace M0:=qa (blk_drew M0.out);replace p1:=qa (blk_drew p1.out);replace HB:=qa (below_drew1 HB.out);refine start_ (n:=8) (S:=fun w'=>w'.cell? ⟨l1,0,none⟩=some (.slice g1 A0.length j1)∧w'.cell? ⟨l1,1,none⟩=some (R1)) (ds:=[7]) _ kr_ rfl rfl ⟨(blk_cell p1.out 0).trans rfl,(blk_cell p1.out 1).trans rfl⟩ (fun hHeld=>?_);refine with_tabW impl_copyDesk.tab5 impl_copyDesk.bits5 (fun HT_ HW_=>?_);generalize wr.drew=v2 at U1 V1 E0 M0 p1 HB hHeld ⊢;refine pur 0 17 (bz 8 1) HT_ ?_;refine pur 2 19 (bz 8 5) HT_ ?_;refine tk 1 18 (bz 8 7) hHeld (take_ofW HT_.out HW_.out kr_) ?_;(refine o1 3 (some 20) (bz 8 15) (one_of HT_.out kr_) fun K hK=>?_);(refine gse Tryz.func99 (slices_Clone_int_int.calls k1 _ _ (rd_L1 g0 P1) a2 _ (cx (Kd.C_below q2.out HB.out)) r2.out b2.out) fun w2 x2 d1 hb=>?_);replace V1:=qa (Kd.S_elder' (kS V1) (Kd.R_base d1) hb);have y2:=qa (Kd.R_lower (Kd.R_new' d1 (Kd.R_lt (kR U1))) (below_size (bl)));replace U1:=qa (Kd.R_elder' (kR U1) (Kd.R_base d1) hb);replace E0:=qbb E0 hb;replace M0:=qbb M0 hb;replace p1:=qbb p1 hb;replace HB:=bs hb;(try clear hb);(try clear A2);(try clear hk);(try clear hi);(try clear d1);obtain⟨B2,C2,D2⟩:=Kd.R_slice y2.out;(first|subst D2|(injection D2 with f1_ f2_ f3_;have f4_:=f1_.symm;have f5_:=f3_.symm;clear f1_ f2_ f3_;subst f4_;subst f5_));refine hK.out _ _ ⟨(blk_cell p1.out 0).trans rfl,(blk_cell p1.out 1).trans rfl⟩ (fun hHeld=>?_);clear hK K;refine nm 20 ?_;(refine o1 4 (some 21) (bz 8 31) (one_of HT_.out kr_) fun K hK=>?_);refine value_ (w1:=?_) (v:=?_) (by rfl) rfl ?_ ?_;rotate_left 2
   ·go_simp
    constructor
    ·rfl
    ·rfl
   refine hK.out _ _ ⟨(blk_cell (blk_alloc p1.out _) 0).trans rfl,(blk_cell (blk_alloc p1.out _) 1).trans rfl⟩ (fun hHeld=>?_);clear hK K;refine nm 21 ?_;(refine o1 5 (some 22) (bz 8 63) (one_of HT_.out kr_) fun K hK=>?_);refine Kd.S_append_step (Kd.slice 3 (Kd.int .i64)) (w0:=w) w.heap.size (by rfl) (.tmp 18) (.tmp 21) 23 22 (.slice none 0 0) 24 rfl Tryz.underlying23 info22 rfl kd_ ko_ R1 Q1 a2 [.slice B2 a2.length C2] (fun k_=>some k_≠(.slice g1 A0.length j1:Value).ownBlock) (fun k_=>some k_=(.slice B2 a2.length C2:Value).ownBlock) rfl rfl ?aP (fun k_ hk_=>((Kd.R_mono (ok':=fun k_=>((fun k_=>some k_≠(.slice g1 A0.length j1:Value).ownBlock)) k_∧some k_≠(R1:Value).ownBlock) (Kd.R_apart' (y2.out) (Kd.S_typed V1.out) kd_) (fun k_ hk=>⟨hk.1.2,hk.2⟩))).1 k_ hk_.symm) ?aF ?aO ?aB ?aS ?aL ?_;(case aP=>exact Kd.M_row (Kd.R_mono (Kd.R_tight rfl (Kd.R_mono (ok':=fun k_=>((fun k_=>some k_≠(.slice g1 A0.length j1:Value).ownBlock)) k_∧some k_≠(R1:Value).ownBlock) (Kd.R_apart' (y2.out) (Kd.S_typed V1.out) kd_) (fun k_ hk=>⟨hk.1.2,hk.2⟩))) (fun _ h_=>h_)));(case aB=>exact(bl));(case aF=>exact(fun k_ hk=>Kd.fresh' (Kd.R_lt (kR U1)) k_ hk));(case aO=>exact(by(with_reducible repeat(first|apply Kd.S_alloc|apply Kd.S_drewN|apply Kd.S_drew));exact Kd.S_mono V1.out (fun k_ hk=>⟨hk.1,fun e_=>hk.2 e_⟩)));(case aS=>exact(below_size (bl)));(case aL=>have:=d2.out;omega);intro E2 G2 ho hb hg hat;rw[←g2.out]at ho;replace U1:=qa (Kd.R_over' (kR U1) (Kd.S_typed (kS V1)) kd_ hg);replace E0:=qa (blk_grown (g:=C0) (o:= .cells #[.slice a0 c0.length b0,.slice (some j2) g0.length e0] 27 (0,0)) (bk) hg (Kd.S_ne V1.out E0.out kd_));replace M0:=qa (blk_grown (g:=K0) (o:= .cells #[.slice none 0 0,.slice none 0 0] 27 (0,0)) (bk) hg (Kd.S_ne V1.out M0.out kd_));replace p1:=qa (blk_grown (g:=l1) (o:= .cells #[.slice g1 A0.length j1,R1] 27 (0,0)) (bk) hg (Kd.S_ne V1.out p1.out kd_));replace HB:=qa (hb);have J2:=qa (ho);clear V1 y2;clear ho hb hg hat;obtain⟨K2,L2,M2⟩:=Kd.S_slice J2.out;(first|subst M2|(injection M2 with f1_ f2_ f3_;have f4_:=f1_.symm;have f5_:=f3_.symm;clear f1_ f2_ f3_;subst f4_;subst f5_));refine hK.out _ _ ⟨(blk_cell p1.out 0).trans rfl,(blk_cell p1.out 1).trans rfl⟩ (fun hHeld=>?_);clear hK K;refine nm 22 ?_;refine pur 6 23 (bz 8 127) HT_ ?_;refine last_ (i:=7) (N:=none) (bz 8 255) rfl rfl (one_of HT_.out kr_) kd_ (fun K hK=>?_);have N2:G2.cell? ⟨l1,1,none⟩=some (R1):=(blk_cell p1.out 1).trans rfl;have P2:=blk_frozen p1.out 1;have Q2:=s1.out;have R2:=v1.out;have U2:=t1.out;have V2:=w1.out;refine skip_ (w1:=?_) (by rfl) rfl ?_ ?_;rotate_left
   ·go_simp
    rfl
   refine hK.out _ _ ?_;clear hK K;refine done_ (done_of HT_.out kr_) ?_
   try go_wp2
   go_roundg k1
   case measure=>have:=HK1.out;omega
   case rel=>exact⟨(wrap64 (P1+1)),(e2),(.slice K2 e2.length L2),(sd),H',⟨by have:=HK1.out;omega⟩,⟨kFR U1 p1 (fun _ hk=>trivial)⟩,⟨kFS J2 p1 (fun _ hk=>hk.1)⟩,⟨kb E0⟩,⟨kb M0⟩,⟨kP p1⟩,⟨bl⟩⟩
  ·simp only[Option.some.injEq,Prod.mk.injEq]at H;obtain⟨rfl,rfl⟩:=H;have W2:=t1.out;have X2:=s1.out;have Y2:=w1.out;have a3:=v1.out;obtain⟨b3,c3,d3,e3⟩:=qk2 p1;have g3:=R0.out;have j3:=Q0.out;obtain⟨l3,n3,p3,q3⟩:=qk2 M0;obtain⟨r3,s3,rfl⟩:=Kd.S_slice V1.out;go_wp2;refine bodyPost_ret (results_cell_row rfl _ _ K0 27 #[.slice g1 A0.length j1,.slice r3 Q1.length s3] (0,0) _ rfl (kP M0) Tryz.underlying27 rfl kr_) rfl ?_;exact⟨_,_,er,kFR U1 M0 (fun _ hk=>trivial),kFS V1 M0 (fun _ hk=>hk.1),bl⟩

def slices_Reverse_int_int.l0:Nat→List Int→Int→Int→Option (List Int)
 |0,_,_,_=>none
 |k+1,a0,b0,c0=>if b0<c0 then(if 0≤c0 then(if c0<(a0.length:Int)then(if 0≤b0 then(if b0<(a0.length:Int)then(slices_Reverse_int_int.l0 k ((a0.set (b0:Int).toNat (rd a0 c0)).set (c0:Int).toNat (rd a0 b0)) (wrap64 (b0+1)) (wrap64 (c0-1)))else(none))else(none))else(none))else(none))else(some a0)
def slices_Reverse_int_int.f (k:Nat) (a0:List Int):Option (List Int):=slices_Reverse_int_int.l0 k a0 0 (wrap64 ((a0.length:Int)-1))
theorem slices_Reverse_int_int.mono_l:∀k,(∀a0 b0 c0,LeO (slices_Reverse_int_int.l0 k a0 b0 c0) (slices_Reverse_int_int.l0 (k+1) a0 b0 c0))
 |0=>fun _ _ _ r h=>by simp[slices_Reverse_int_int.l0]at h
 |k+1=>by
  have ih0:=slices_Reverse_int_int.mono_l k
  ·intro a0 b0 c0;unfold slices_Reverse_int_int.l0;exact mz
theorem slices_Reverse_int_int.mono:∀a0 k,LeO (slices_Reverse_int_int.f k a0) (slices_Reverse_int_int.f (k+1) a0):=by
 intro a0 k;have ih0:=slices_Reverse_int_int.mono_l k;unfold slices_Reverse_int_int.f;exact mz
def slices_Reverse_int_int.T3:Bool×List (List Nat×List Nat):=(true,[([],[]),([],[]),([],[]),([],[]),([],[]),([],[]),([4,5],[4,5]),([6],[6]),([],[]),([],[]),([8,9],[8,9]),([10],[10]),([0,1,0,1,4,5,6,7,11],[0,1]),([12,7,0,1,4,5,6,7,11],[7,12]),([2,3,0,1,2,3,4,5,6,7,8,9,10,11,12,13],[2,3]),([14,11,13,0,1,2,3,4,5,6,7,8,9,10,11,12,13],[11,14])])
def slices_Reverse_int_int.B3:List Nat:=[0,0,0,0,0,0,48,112,0,0,768,1792,4083,8179,16383,32767]
theorem slices_Reverse_int_int.tab3:rtab .any (opsOf Tryz.f144 3)=slices_Reverse_int_int.T3:=by kernel_rfl
theorem slices_Reverse_int_int.bits3:waitsOk slices_Reverse_int_int.T3.2 slices_Reverse_int_int.B3=true:=by kernel_rfl
theorem slices_Reverse_int_int.calls (k:Nat) (P0_:Nat→Prop) (a0:Value) (b0:List Int) (r:List Int) (c0 w:World) (hB:Below c0.heap.size c0 w) (d0:Kd.R (Kd.int .i64) 3 w c0.heap.size P0_ a0 b0) (h:slices_Reverse_int_int.f k b0=some r):
  Calls Tryz.prog 144 #[a0] w fun e w'=>e= .returned (.tuple #[])∧Kd.R (Kd.int .i64) 3 w' c0.heap.size (fun k_=>(P0_ k_∨w.heap.size≤k_)) a0 r∧Below c0.heap.size c0 w'∧Kept w w' (fun k_=>P0_ k_):=by
 have e0:=qa (show Kd.R (Kd.int .i64) 3 w c0.heap.size (fun k_=>(P0_ k_∨w.heap.size≤k_)) a0 b0 from Kd.R_mono d0 (fun k_ hk=>(.inl hk)));have HK:=qa (Kept.refl w (fun k_=>P0_ k_));have HW0:=qa hB.size;have HB:=qa hB;clear hB;have H:=h;unfold slices_Reverse_int_int.f at H;clear h;have H':=qa H;clear H;obtain⟨g0,j0,rfl⟩:=Kd.R_slice e0.out
 go_enter Tryz.func144,Tryz.ntmps144
 go_wp2
 go_loopg [2,3] k (fun kq n0 p0 w'=>∃(q0:List Int) (r0:Int) (s0:Int),n0= .int .i64 r0∧p0= .int .i64 s0∧Aside0 (slices_Reverse_int_int.l0 kq q0 r0 s0=some r)∧Aside0 (kq≤k)∧Aside0 (Kd.R (Kd.int .i64) 3 w' c0.heap.size (fun k_=>(P0_ k_∨w.heap.size≤k_)) (.slice g0 b0.length j0) q0)∧Aside0 (Kept w w' (fun k_=>P0_ k_))∧Aside0 (Below c0.heap.size c0 w'))
 case atStart=>exact⟨(b0),(0),(wrap64 ((b0.length:Int)-1)),(sd),(sd),H',⟨Nat.le_refl _⟩,⟨kR e0⟩,⟨z1_⟩,⟨bl⟩⟩
 case round=>
  clear H';obtain⟨q0,r0,s0,rfl,rfl,HA,HK1,t0,HK,HB⟩:=hrel;have v0:=(Kd.R_reads' t0.out).1;rw[v0]at t0;(try simp only[v0]);obtain⟨k1,rfl,H⟩:=kz gk HA;clear HA;simp only[slices_Reverse_int_int.l0]at H;replace H:=qe H;obtain⟨w0,H⟩|⟨w0,H⟩:=H
  ·replace H:=qd H;obtain⟨x0,H⟩:=H;replace H:=qd H;obtain⟨y0,H⟩:=H;replace H:=qd H;obtain⟨A0,H⟩:=H;replace H:=qd H;obtain⟨B0,H⟩:=H;obtain⟨C0,hy_⟩:∃y_:List Int,y_=(q0.set (r0:Int).toNat (rd q0 s0)):=⟨_,rfl⟩;replace H:(slices_Reverse_int_int.l0 k1 (C0.set (s0:Int).toNat (rd q0 r0)) (wrap64 (r0+1)) (wrap64 (s0-1)))=some r:=yh;have D0:=qa hy_;clear hy_;obtain⟨E0,hy_⟩:∃y_:List Int,y_=(C0.set (s0:Int).toNat (rd q0 r0)):=⟨_,rfl⟩;replace H:(slices_Reverse_int_int.l0 k1 E0 (wrap64 (r0+1)) (wrap64 (s0-1)))=some r:=yh;have G0:=qa hy_;clear hy_;have H':=qa H;clear H
   try go_wp2
   replace t0:=qa (Kd.R_drew t0.out);replace HK:=qa (Kept.drew HK.out);replace HB:=qa (below_drew1 HB.out);obtain⟨J0,⟨⟩,K0,L0,M0⟩:=ai (Kd.R_reads' t0.out).2.2 s0;obtain⟨N0,P0,Q0⟩:=aj (Kd.R_reads' t0.out).2.2 r0;have R0:0≤(r0:Int):=qo;have U0:(r0:Int)<((q0.length:Int):Int):=qo;obtain⟨V0,W0,X0,Y0,gl8,cl8,HG8⟩:=Kd.R_form t0.out ko_;(first|cases X0|(injection X0 with ea_ en_ ec_;(first|subst ea_|(injection ea_ with ea_;subst ea_));subst ec_;clear en_));have GB8:=qa Y0;have GG8:=qa HG8;clear Y0 gl8 HG8;have HMgo8:=qa (show(P0_ V0∨w.heap.size≤V0)from(t0.out.1 _ rfl));(first|simp only[add_plain]at K0|skip);(first|simp only[add_plain]at N0|skip);obtain⟨a1,b1⟩:=Kd.R_celln 0 t0.out (r0:Int) R0 U0;replace R0:=eq_true R0;replace U0:=eq_true U0;have HP11:=Kd.R_putn t0.out (r0:Int) (rd q0 s0);rw[←D0.out]at HP11;have HQ11:=qa HP11;clear HP11;have c1:0≤(s0:Int):=qo;have d1:(s0:Int)<((q0.length:Int):Int):=qo;obtain⟨e1,g1⟩:=Kd.R_celln 0 HQ11.out (s0:Int) c1 d1;replace c1:=eq_true c1;replace d1:=eq_true d1;have HP12:=Kd.R_putn HQ11.out (s0:Int) (rd q0 r0);rw[←G0.out]at HP12;have HQ12:=qa HP12;clear HP12;refine start_ (n:=16) (S:=fun w'=>w'.cell? ⟨V0,(s0).toNat,none⟩=some (.int .i64 (rd q0 s0))∧w'.cell? ⟨V0,(r0).toNat,none⟩=some (.int .i64 (rd q0 r0))) (ds:=[13,15]) _ kr_ rfl rfl ⟨K0,N0⟩ (fun hHeld=>?_);refine with_tabW slices_Reverse_int_int.tab3 slices_Reverse_int_int.bits3 (fun HT_ HW_=>?_);generalize wr.drew=j1 at t0 HK HB GG8 HQ11 HQ12 b1 g1 K0 N0 a1 e1 hHeld ⊢;refine pur 0 14 (bz 16 1) HT_ ?_;refine pur 1 15 (bz 16 3) HT_ ?_;refine pur 2 16 (bz 16 7) HT_ ?_;refine pur 3 17 (bz 16 15) HT_ ?_;refine pur 4 18 (bz 16 31) HT_ ?_;refine pur 5 19 (bz 16 63) HT_ ?_;refine pur 6 20 (bz 16 127) HT_ ?_;refine pur 8 22 (bz 16 383) HT_ ?_;refine pur 9 23 (bz 16 895) HT_ ?_;refine pur 10 24 (bz 16 1919) HT_ ?_;refine tk 7 21 (bz 16 2047) hHeld (take_ofW HT_.out HW_.out kr_) ?_;refine tk 11 25 (bz 16 4095) hHeld (take_ofW HT_.out HW_.out kr_) ?_;refine pur 12 26 (bz 16 8191) HT_ ?_;refine last_ (i:=13) (N:=none) (bz 16 16383) rfl rfl (one_of HT_.out kr_) kd_ (fun K hK=>?_);refine skip_ (w1:=?_) (by rfl) rfl ?_ ?_;rotate_left
   ·go_simp
    rfl
   refine hK.out _ _ ?_;clear hK K;refine pur 14 27 (bz 16 32767) HT_ ?_;refine last_ (i:=15) (N:=none) (bz 16 65535) rfl rfl (one_of HT_.out kr_) kd_ (fun K hK=>?_);refine skip_ (w1:=?_) (by rfl) rfl ?_ ?_;rotate_left
   ·go_simp
    rfl
   refine hK.out _ _ ?_;clear hK K;refine done_ (done_of HT_.out kr_) ?_
   try go_wp2
   (try simp only[←v0])
   go_roundg k1
   case measure=>have:=HK1.out;omega
   case rel=>exact⟨(E0),(wrap64 (r0+1)),(wrap64 (s0-1)),(sd),(sd),H',⟨by have:=HK1.out;omega⟩,⟨by(try simp only[v0]);(with_reducible repeat(first|apply Kd.R_alloc|apply Kd.R_drewN|apply Kd.R_drew));exact HQ12.out⟩,⟨by repeat(first|(with_reducible first|exact HK.out|apply Kept.alloc|apply Kept.drewN|apply Kept.drew|refine Kept.setCell ?_ HMgo8.out _|refine Kept.setCell ?_ HMgo8.out _)|exact HK.out)⟩,⟨by repeat(first|(with_reducible first|exact HB.out|apply below_alloc|apply pw_below_drewN|apply below_drew1|refine below_set ?_ GB8.out|refine below_set ?_ GB8.out)|exact HB.out)⟩⟩
  ·obtain rfl:=sj H;go_wp2
   first|go_end0|((try simp only[Exit.inBlock,Exit.then]);refine bodyPost_ret (results_none rfl _ _ _) rfl ?_)
   exact⟨er,(by first|exact(kR t0)|(simp only[v0];exact(kR t0))),bl,z1_⟩

def impl_divisors.l0:Nat→Int→List Int→List Int→Int→Option (List Int)
 |0,_,_,_,_=>none
 |k+1,a0,b0,c0,d0=>if(wrap64 (d0*d0))≤a0 then(if d0=0 then(none)else(if(Int.tmod a0 d0)=0 then(if b0.length<17592186044416 then((some (b0++[d0]:List Int)).bind fun e0=>(if(wrap64 (d0*d0))<a0 then(if c0.length<17592186044416 then(impl_divisors.l0 k a0 e0 (c0++[wrap64 (Int.tdiv a0 d0)]) (wrap64 (d0+1)))else(none))else(impl_divisors.l0 k a0 e0 c0 (wrap64 (d0+1)))))else(none))else(impl_divisors.l0 k a0 b0 c0 (wrap64 (d0+1)))))else((slices_Reverse_int_int.f k c0).bind fun g0=>(if b0.length+g0.length<17592186044416 then(some (b0++g0))else(none)))
def impl_divisors.f (k:Nat) (a0:Int):Option (List Int):=impl_divisors.l0 k a0 (([]:List Int)) (([]:List Int)) 1
theorem impl_divisors.mono_l:∀k,(∀a0 b0 c0 d0,LeO (impl_divisors.l0 k a0 b0 c0 d0) (impl_divisors.l0 (k+1) a0 b0 c0 d0))
 |0=>fun _ _ _ _ r h=>by simp[impl_divisors.l0]at h
 |k+1=>by
  have ih0:=impl_divisors.mono_l k
  ·intro a0 b0 c0 d0;unfold impl_divisors.l0;have m0:= @slices_Reverse_int_int.mono;exact mz
theorem impl_divisors.mono:∀a0 k,LeO (impl_divisors.f k a0) (impl_divisors.f (k+1) a0):=by
 intro a0 k;have ih0:=impl_divisors.mono_l k;unfold impl_divisors.f;have m0:= @slices_Reverse_int_int.mono;exact mz
theorem impl_divisors.calls (k:Nat) (a0:Int) (r:List Int) (w:World) (h:impl_divisors.f k a0=some r):
  Calls Tryz.prog 109 #[.int .i64 a0] w fun e w'=>∃v0_:Value,e= .returned (v0_)∧Kd.R (Kd.int .i64) 3 w' w.heap.size (fun _=>True) v0_ r∧Below w.heap.size w w':=by
 have HB:=qa (Below.refl w.heap.size w);have H:=h;unfold impl_divisors.f at H;clear h;obtain⟨b0,hy_⟩:∃y_:List Int,y_=(([]:List Int)):=⟨_,rfl⟩;replace H:(impl_divisors.l0 k a0 b0 (([]:List Int)) 1)=some r:=yh;have c0:=qa hy_;clear hy_;obtain⟨d0,hy_⟩:∃y_:List Int,y_=(([]:List Int)):=⟨_,rfl⟩;replace H:(impl_divisors.l0 k a0 b0 d0 1)=some r:=yh;have e0:=qa hy_;clear hy_;have H':=qa H;clear H
 go_enter Tryz.func109,Tryz.ntmps109
 go_wp2_with(first|(refine rli .i64 3 6 c0.out fun g0 j0 n0 hb=>?_;have p0:=qa (Kd.R_lower n0 (below_size (bl)));replace HB:=bs hb;clear hb n0)|(refine rli .i64 3 7 e0.out fun q0 r0 s0 hb=>?_;have t0:=qa (Kd.R_lower (Kd.R_new' s0 (Kd.R_lt (kR p0))) (below_size (bl)));replace p0:=qa (Kd.R_elder' (kR p0) (Kd.R_base s0) hb);replace HB:=bs hb;clear hb s0))
 go_loopg [3,4,5] k (fun kq v0 w0 x0 w'=>∃(y0:List Int) (A0:List Int) (B0:Int),x0= .int .i64 B0∧Aside0 (impl_divisors.l0 kq a0 y0 A0 B0=some r)∧Aside0 (kq≤k)∧Aside0 (Kd.R (Kd.int .i64) 3 w' w.heap.size (fun k_=>some k_≠(w0:Value).ownBlock) v0 y0)∧Aside0 (Kd.R (Kd.int .i64) 3 w' w.heap.size (fun k_=>some k_≠(v0:Value).ownBlock) w0 A0)∧Aside0 (Below w.heap.size w w'))
 case atStart=>exact⟨(b0),(d0),(1),(sd),H',⟨Nat.le_refl _⟩,⟨by(with_reducible repeat(first|apply Kd.R_alloc|apply Kd.R_drewN|apply Kd.R_drew));exact Kd.R_mono p0.out (fun _ hk=>hk.2)⟩,⟨by(with_reducible repeat(first|apply Kd.R_alloc|apply Kd.R_drewN|apply Kd.R_drew));exact Kd.R_mono t0.out (fun _ hk=>hk.2)⟩,⟨bl⟩⟩
 case round=>
  clear H';obtain⟨y0,A0,B0,rfl,HA,HK1,C0,D0,HB⟩:=hrel;obtain⟨k1,rfl,H⟩:=kz gk HA;clear HA;simp only[impl_divisors.l0]at H;replace H:=qe H;obtain⟨E0,H⟩|⟨E0,H⟩:=H
  ·by_cases G0:B0=0
   ·rw[if_pos G0]at H;exact absurd H (by simp)
   ·rw[if_neg G0]at H;have J0:(B0==0)=false:=beq_eq_false_iff_ne.mpr G0;have K0:(B0 != 0)=true:=bne_iff_ne.mpr G0;replace H:=qq H;obtain⟨L0,M0,H⟩|⟨N0,L0,M0,H⟩:=H
    ·replace H:=qn H;obtain⟨P0,H⟩:=H;have Q0:=qa P0;clear P0;replace H:=qs H;obtain⟨R0,U0,H⟩:=H;replace H:=qe H;obtain⟨V0,H⟩|⟨V0,H⟩:=H
     ·replace H:=qn H;obtain⟨W0,H⟩:=H;have X0:=qa W0;clear W0;obtain⟨Y0,hy_⟩:∃y_:List Int,y_=(A0++[wrap64 (Int.tdiv a0 B0)]):=⟨_,rfl⟩;replace H:(impl_divisors.l0 k1 a0 R0 Y0 (wrap64 (B0+1)))=some r:=yh;have a1:=qa hy_;clear hy_;have H':=qa H;clear H
      go_wp2_with(first|((with_reducible refine gate_builtin (b:= .append) (xs:=#[.tmp 19,.tmp 21]) rfl ?_);at_builtin;refine Kd.R_append (Kd.int .i64) (w0:=w) w.heap.size rfl (.tmp 19) (.tmp 21) 22 3 (.int .i64 0) 8 rfl Tryz.underlying22 info3 rfl kd_ ko_ u3 y0 B0 [.int .i64 B0] (fun k_=>some k_≠(u4:Value).ownBlock) (fun _=>False) rfl rfl ?aP (fun _ hk=>hk.elim) ?aF ?aO ?aB ?aS ?aL ?_;(case aP=>exact rfl);(case aB=>exact(bl));(case aF=>exact(fun k_ hk=>Kd.fresh' (Kd.R_lt (kR D0)) k_ hk));(case aO=>exact(kR C0));(case aS=>exact(below_size (bl)));(case aL=>have:=Q0.out;omega);intro b1 c1 ho hb hg hat;rw[←U0.out]at ho;replace D0:=qa (Kd.R_after (ok:=(fun _=>True)) z23_ hg hat);replace HB:=qa (hb);have d1:=qa (ho);clear C0;clear ho hb hg hat)|((with_reducible refine gate_builtin (b:= .append) (xs:=#[.tmp 28,.tmp 32]) rfl ?_);at_builtin;refine Kd.R_append (Kd.int .i64) (w0:=w) w.heap.size rfl (.tmp 28) (.tmp 32) 22 3 (.int .i64 0) 8 rfl Tryz.underlying22 info3 rfl kd_ ko_ u4 A0 (wrap64 (Int.tdiv a0 B0)) [.int .i64 (wrap64 (Int.tdiv a0 B0))] (fun k_=>some k_≠(b1:Value).ownBlock) (fun _=>False) rfl rfl ?aP (fun _ hk=>hk.elim) ?aF ?aO ?aB ?aS ?aL ?_;(case aP=>exact rfl);(case aB=>exact(bl));(case aF=>exact(fun k_ hk=>Kd.fresh' (Kd.R_lt (kR d1)) k_ hk));(case aO=>exact z52_);(case aS=>exact(below_size (bl)));(case aL=>have:=X0.out;omega);intro e1 g1 ho hb hg hat;rw[←a1.out]at ho;replace d1:=qa (Kd.R_after (ok:=(fun _=>True)) (by(with_reducible repeat(first|apply Kd.R_alloc|apply Kd.R_drewN|apply Kd.R_drew));exact Kd.R_mono d1.out (fun _ hk=>⟨trivial,hk⟩)) hg hat);replace HB:=qa (hb);have j1:=qa (ho);clear D0;clear ho hb hg hat))
      go_roundg k1
      case measure=>have:=HK1.out;omega
      case rel=>exact⟨(R0),(Y0),(wrap64 (B0+1)),(sd),H',⟨by have:=HK1.out;omega⟩,⟨by(with_reducible repeat(first|apply Kd.R_alloc|apply Kd.R_drewN|apply Kd.R_drew));exact Kd.R_mono d1.out (fun _ hk=>hk.2)⟩,⟨kR j1⟩,⟨bl⟩⟩
     ·have H':=qa H;clear H
      go_wp2_with(first|((with_reducible refine gate_builtin (b:= .append) (xs:=#[.tmp 19,.tmp 21]) rfl ?_);at_builtin;refine Kd.R_append (Kd.int .i64) (w0:=w) w.heap.size rfl (.tmp 19) (.tmp 21) 22 3 (.int .i64 0) 8 rfl Tryz.underlying22 info3 rfl kd_ ko_ u3 y0 B0 [.int .i64 B0] (fun k_=>some k_≠(u4:Value).ownBlock) (fun _=>False) rfl rfl ?aP (fun _ hk=>hk.elim) ?aF ?aO ?aB ?aS ?aL ?_;(case aP=>exact rfl);(case aB=>exact(bl));(case aF=>exact(fun k_ hk=>Kd.fresh' (Kd.R_lt (kR D0)) k_ hk));(case aO=>exact(kR C0));(case aS=>exact(below_size (bl)));(case aL=>have:=Q0.out;omega);intro b1 l1 ho hb hg hat;rw[←U0.out]at ho;replace D0:=qa (Kd.R_after (ok:=(fun _=>True)) z23_ hg hat);replace HB:=qa (hb);have d1:=qa (ho);clear C0;clear ho hb hg hat))
      go_roundg k1
      case measure=>have:=HK1.out;omega
      case rel=>exact⟨(R0),(A0),(wrap64 (B0+1)),(sd),H',⟨by have:=HK1.out;omega⟩,⟨kR d1⟩,⟨z52_⟩,⟨bl⟩⟩
    ·have H':=qa H;clear H;go_wp2
     go_roundg k1
     case measure=>have:=HK1.out;omega
     case rel=>exact⟨(y0),(A0),(wrap64 (B0+1)),(sd),H',⟨by have:=HK1.out;omega⟩,⟨kR C0⟩,⟨kR D0⟩,⟨bl⟩⟩
  ·replace H:=qb H;obtain⟨n1,p1,H⟩:=H
   by_cases q1:y0.length+n1.length<17592186044416
   ·rw[if_pos q1]at H;have r1:=qa q1;clear q1;obtain⟨s1,hy_⟩:∃y_:List Int,y_=(y0++n1):=⟨_,rfl⟩;replace H:(some s1)=some r:=yh;have t1:=qa hy_;clear hy_;obtain rfl:=sj H;obtain⟨v1,w1,rfl⟩:=Kd.R_slice D0.out
    go_wp2_with(first|(refine gol (some 35) Tryz.func144 #[.slice v1 A0.length w1] ?_;(with_reducible refine(slices_Reverse_int_int.calls k1 (fun k_=>some k_=(.slice v1 A0.length w1:Value).ownBlock) (.slice v1 A0.length w1) A0 n1 w _ ?x1 ?y1 p1.out).mono ?_);(case x1=>exact bl);(case y1=>exact Kd.R_tight rfl D0.out);rintro e A1 ⟨rfl,B1,hb,hkp⟩;refine⟨_,rfl,?_⟩;replace C0:=qa (Kd.R_mono (ok':=fun k_=>some k_≠(.slice v1 A0.length w1:Value).ownBlock) (Kd.R_keptB (C0.out) hkp (fun k_ hk_ hs_=>(hk_) hs_)) (fun k_ hk_=>hk_.1));replace D0:=qa (Kd.R_reok rfl B1 (fun k_ e_=>D0.out.1 k_ e_));replace HB:=qa (hb))|((with_reducible refine gate_builtin (b:= .append) (xs:=#[.tmp 36,.tmp 37]) rfl ?_);at_builtin;refine Kd.R_append_rows (Kd.int .i64) (w0:=w) w.heap.size rfl (.tmp 36) (.tmp 37) 22 3 (.int .i64 0) 8 rfl Tryz.underlying22 info3 rfl kd_ ko_ u3 y0 n1 _ _ _ (fun k_=>some k_≠(.slice v1 A0.length w1:Value).ownBlock) (fun _=>False) rfl rfl ?aO ?aR (fun _ _ h=>h) (fun _ h=>h.elim) ?aF ?aB ?aS ?aL ?_;(case aR=>rw[show A0.length=n1.length from(Kd.R_reads' D0.out).1];exact cx (Kd.R_reads' D0.out).2.2);(case aB=>exact(bl));(case aF=>exact(fun k_ hk=>Kd.fresh' (Kd.R_lt (kR D0)) k_ hk));(case aO=>exact(kR C0));(case aS=>exact(below_size (bl)));(case aL=>have:=r1.out;have hlx_:=(Kd.R_reads' D0.out).1;omega);intro C1 D1 ho hb hg hat;rw[←t1.out]at ho;replace D0:=qa (Kd.R_after (ok:=(fun _=>True)) z23_ hg hat);replace HB:=qa (hb);have E1:=qa (ho);clear C0;clear ho hb hg hat))
    go_ret;exact⟨_,er,by(with_reducible repeat(first|apply Kd.R_alloc|apply Kd.R_drewN|apply Kd.R_drew));exact Kd.R_mono E1.out (fun _ hk=>trivial),bl⟩
   ·rw[if_neg q1]at H;exact absurd H (by simp)

def impl_small.f (k:Nat) (a0:List Int):Option (Bool):=(impl_within.f k a0 10000).bind fun b0=>(some b0)
theorem impl_small.calls (k:Nat) (a0:Option Addr) (b0:Nat) (c0:List Int) (r:Bool) (w:World) (d0:Kd.C (Kd.int .i64) w a0 c0.length c0) (e0:c0.length≤b0) (h:impl_small.f k c0=some r):
  Calls Tryz.prog 132 #[.slice a0 c0.length b0] w fun e w'=>e= .returned (.bool r)∧Drawn0 w w':=by
 have g0:=qa d0;have j0:=qa e0;clear d0 e0;have H:=h;unfold impl_small.f at H;clear h;replace H:=qb H;obtain⟨l0,n0,H⟩:=H;obtain rfl:=sj H
 go_enter Tryz.func132,Tryz.ntmps132
 go_wp2_with(first|(refine gd 4 Tryz.func120 (impl_within.calls k _ _ c0 10000 l0 _ (cx g0.out) j0.out n0.out) fun nd=>?_))
 go_ret;exact⟨sd,dr⟩

-- NOT PRINTED: function 133 (impl_rowBy)
end Go.Proofs.YtdmlkjjlgkdnlaaGreatDoor.PFnExactDeskSay
