import Derived.Test.YtdmlkjjlgkdnlaaGreatDoorPFnExactDeskLinex0
namespace Go.Proofs.YtdmlkjjlgkdnlaaGreatDoor.PFnExactDeskLine
open Go.RowKit Go.Proofs.YtdmlkjjlgkdnlaaGreatDoorW.PrintWords Go.Proofs.YtdmlkjjlgkdnlaaGreatDoorW.PrintLast Go.Proofs.YtdmlkjjlgkdnlaaGreatDoorW.PrintMore
attribute [local go_sem] max2_int min2_int max_two min_two max_three min_three max_four min_four
set_option linter.unusedVariables false
set_option linter.unusedSimpArgs false
theorem eqA55 (d:Nat) (w:World) (a0 b0:Int) (c0 d0:Int) (e0 g0:Int):
  (Op.equalIn (d+2) 55 (.agg #[.int .i64 a0,.int .i64 c0,.int .i64 e0]) (.agg #[.int .i64 b0,.int .i64 d0,.int .i64 g0])).run Tryz.prog w= .ok (a0==b0&&(c0==d0&&(e0==g0))) w:=by
 refine eqA_of Tryz.underlying55 (by kernel_rfl) ?_;refine eqf_cons (by rfl) (by go_simp;rfl) (by go_simp;rfl) (by go_simp) ?_;refine eqf_cons (by rfl) (by go_simp;rfl) (by go_simp;rfl) (by go_simp) ?_;exact eqf_last (by rfl) (by go_simp;rfl) (by go_simp;rfl) (by go_simp)
def laws_szIntS.f (a0:List Int) (b0:Int):Option (Int):=if(wrap64 (b0-(a0.length:Int)))<0 then(some (-1))else(some (wrap64 (b0-(a0.length:Int))))
set_option maxHeartbeats 8000000 in
set_option maxRecDepth 100000 in
theorem laws_szIntS.calls (a0:Option Addr) (b0:Nat) (c0:List Int) (d0:Int) (r:Int) (w:World) (e0:Kd.C (Kd.int .i64) w a0 c0.length c0) (g0:c0.length≤b0) (h:laws_szIntS.f c0 d0=some r):
  Calls Tryz.prog 38 #[.slice a0 c0.length b0,.int .i64 d0] w fun e w'=>e= .returned (.int .i64 r)∧Drawn0 w w':=by
 have j0:=qa e0;have l0:=qa g0;clear e0 g0;have H:=h;unfold laws_szIntS.f at H;clear h;replace H:=qe H;obtain⟨n0,H⟩|⟨n0,H⟩:=H
 ·obtain rfl:=sj H
  go_enter Tryz.func38,Tryz.ntmps38
  go_wp2;go_ret;exact⟨sd,dr⟩
 ·obtain rfl:=sj H
  go_enter Tryz.func38,Tryz.ntmps38
  go_wp2;go_ret;exact⟨sd,dr⟩

def laws_szIntSS.l0:Nat→List (List Int)→Int→Int→Option (Int)
 |0,_,_,_=>none
 |k+1,a0,b0,c0=>if c0<(a0.length:Int)then(if 0≤c0 then((laws_szIntS.f (rd_L1 a0 c0) b0).bind fun d0=>(if d0<0 then(some (-1))else(laws_szIntSS.l0 k a0 d0 (wrap64 (c0+1)))))else(none))else(some b0)
def laws_szIntSS.f (k:Nat) (a0:List (List Int)) (b0:Int):Option (Int):=if(wrap64 (b0-(a0.length:Int)))<0 then(some (-1))else(laws_szIntSS.l0 k a0 (wrap64 (b0-(a0.length:Int))) 0)
set_option maxHeartbeats 8000000 in
set_option maxRecDepth 100000 in
theorem laws_szIntSS.calls (k:Nat) (a0:Option Addr) (b0:Nat) (c0:List (List Int)) (d0:Int) (r:Int) (w:World) (e0:Kd.C (Kd.slice 3 (Kd.int .i64)) w a0 c0.length c0) (g0:c0.length≤b0) (h:laws_szIntSS.f k c0 d0=some r):
  Calls Tryz.prog 39 #[.slice a0 c0.length b0,.int .i64 d0] w fun e w'=>e= .returned (.int .i64 r)∧Drawn0 w w':=by
 have j0:=qa e0;have n0:=qa g0;clear e0 g0;have H:=h;unfold laws_szIntSS.f at H;clear h;replace H:=qe H;obtain⟨p0,H⟩|⟨p0,H⟩:=H
 ·obtain rfl:=sj H
  go_enter Tryz.func39,Tryz.ntmps39
  go_wp2;go_ret;exact⟨sd,dr⟩
 ·have H':=qa H;clear H
  go_enter Tryz.func39,Tryz.ntmps39
  go_wp2
  go_loopg [1,5] k (fun kq q0 r0 w'=>∃(s0:Int) (t0:Int),q0= .int .i64 s0∧r0= .int .i64 t0∧Aside0 (laws_szIntSS.l0 kq c0 s0 t0=some r)∧Aside0 (kq≤k)∧Drawn0 w w')
  case atStart=>exact⟨(wrap64 (d0-(c0.length:Int))),(0),(sd),(sd),H',⟨Nat.le_refl _⟩,dr⟩
  case round=>
   clear H';obtain⟨s0,t0,rfl,rfl,HA,HK1,⟨m1,rfl⟩⟩:=hrel;obtain⟨k1,rfl,H⟩:=kz gk HA;clear HA;simp only[laws_szIntSS.l0]at H;replace H:=qe H;obtain⟨v0,H⟩|⟨v0,H⟩:=H
   ·replace H:=qd H;obtain⟨w0,H⟩:=H;replace H:=qb H;obtain⟨x0,y0,H⟩:=H;replace H:=qe H;obtain⟨A0,H⟩|⟨A0,H⟩:=H
    ·obtain rfl:=sj H;obtain⟨B0,C0,D0,⟨⟩,E0,G0,J0,K0,L0⟩:=cg_L1 j0.out t0
     go_wp2_with(first|(refine gd 23 Tryz.func38 (laws_szIntS.calls _ _ (rd_L1 c0 t0) s0 x0 _ (cx G0.out) J0.out y0.out) fun nd=>?_))
     go_ret;exact⟨sd,dr⟩
    ·have H':=qa H;clear H;obtain⟨B0,C0,D0,⟨⟩,E0,G0,J0,K0,L0⟩:=cg_L1 j0.out t0
     go_wp2_with(first|(refine gd 23 Tryz.func38 (laws_szIntS.calls _ _ (rd_L1 c0 t0) s0 x0 _ (cx G0.out) J0.out y0.out) fun nd=>?_))
     go_roundg k1
     case measure=>have:=HK1.out;omega
     case rel=>exact⟨(x0),(wrap64 (t0+1)),(sd),(sd),H',⟨by have:=HK1.out;omega⟩,dr⟩
   ·obtain rfl:=sj H;go_wp2;go_ret;exact⟨sd,dr⟩

def laws_szDesk.f (k:Nat) (a0:List Int) (b0:List (List Int)) (c0:Int):Option (Int):=(laws_szIntS.f a0 c0).bind fun d0=>(if d0<0 then(some (-1))else((laws_szIntSS.f k b0 d0).bind fun e0=>(if e0<0 then(some (-1))else(some e0))))
set_option maxHeartbeats 8000000 in
set_option maxRecDepth 100000 in
theorem laws_szDesk.calls (k:Nat) (a0:Option Addr) (b0:Nat) (c0:List Int) (d0:Option Addr) (e0:Nat) (g0:List (List Int)) (j0:Int) (r:Int) (w:World) (l0:Kd.C (Kd.int .i64) w a0 c0.length c0) (n0:c0.length≤b0) (p0:Kd.C (Kd.slice 3 (Kd.int .i64)) w d0 g0.length g0) (q0:g0.length≤e0) (h:laws_szDesk.f k c0 g0 j0=some r):
  Calls Tryz.prog 8 #[.agg #[.slice a0 c0.length b0,.slice d0 g0.length e0],.int .i64 j0] w fun e w'=>e= .returned (.int .i64 r)∧Below w.heap.size w w':=by
 have r0:=Tryz.underlying25;have s0:=qa l0;have t0:=qa n0;clear l0 n0;have v0:=qa p0;have w0:=qa q0;clear p0 q0;have HB:=qa (Below.refl w.heap.size w);have H:=h;unfold laws_szDesk.f at H;clear h;replace H:=qb H;obtain⟨x0,y0,H⟩:=H;replace H:=qe H;obtain⟨A0,H⟩|⟨A0,H⟩:=H
 ·obtain rfl:=sj H
  go_enter Tryz.func8,Tryz.ntmps8
  go_wp2_with(first|(refine bx 2 #[.slice a0 c0.length b0,.slice d0 g0.length e0] 25 ?_;intro B0 hg C0 hbox hb;have D0:=qa (hbox);have E0:=gw hg;have G0:=gw hg;replace HB:=bs hb;clear hb hbox hg;obtain⟨J0,K0,L0,M0⟩:=qk2 D0)|(refine gd 8 Tryz.func38 (laws_szIntS.calls _ _ c0 j0 x0 _ (cx (Kd.C_below s0.out HB.out)) t0.out y0.out) fun nd=>?_))
  go_ret;exact⟨er,bl⟩
 ·replace H:=qb H;obtain⟨N0,P0,H⟩:=H;replace H:=qe H;obtain⟨Q0,H⟩|⟨Q0,H⟩:=H
  ·obtain rfl:=sj H
   go_enter Tryz.func8,Tryz.ntmps8
   go_wp2_with(first|(refine bx 2 #[.slice a0 c0.length b0,.slice d0 g0.length e0] 25 ?_;intro B0 hg R0 hbox hb;have D0:=qa (hbox);have E0:=gw hg;have G0:=gw hg;replace HB:=bs hb;clear hb hbox hg;obtain⟨U0,V0,W0,X0⟩:=qk2 D0)|(refine gd 8 Tryz.func38 (laws_szIntS.calls _ _ c0 j0 x0 _ (cx (Kd.C_below s0.out HB.out)) t0.out y0.out) fun nd=>?_)|(refine gd 14 Tryz.func39 (laws_szIntSS.calls k _ _ g0 x0 N0 _ (cx (Kd.C_below v0.out (bl))) w0.out P0.out) fun nd=>?_))
   go_ret;exact⟨er,bl⟩
  ·obtain rfl:=sj H
   go_enter Tryz.func8,Tryz.ntmps8
   go_wp2_with(first|(refine bx 2 #[.slice a0 c0.length b0,.slice d0 g0.length e0] 25 ?_;intro B0 hg Y0 hbox hb;have D0:=qa (hbox);have E0:=gw hg;have G0:=gw hg;replace HB:=bs hb;clear hb hbox hg;obtain⟨a1,b1,c1,d1⟩:=qk2 D0)|(refine gd 8 Tryz.func38 (laws_szIntS.calls _ _ c0 j0 x0 _ (cx (Kd.C_below s0.out HB.out)) t0.out y0.out) fun nd=>?_)|(refine gd 14 Tryz.func39 (laws_szIntSS.calls k _ _ g0 x0 N0 _ (cx (Kd.C_below v0.out (bl))) w0.out P0.out) fun nd=>?_))
   go_ret;exact⟨er,bl⟩

def spec_l1In.f (a0:Int) (b0:Int) (c0:Int):Option (Bool):=if a0≥b0 then(some (decide (a0≤c0)))else(some false)
set_option maxHeartbeats 8000000 in
set_option maxRecDepth 100000 in
theorem spec_l1In.calls (a0:Int) (b0:Int) (c0:Int) (r:Bool) (w:World) (h:spec_l1In.f a0 b0 c0=some r):
  Calls Tryz.prog 84 #[.int .i64 a0,.int .i64 b0,.int .i64 c0] w fun e w'=>e= .returned (.bool r)∧Drawn0 w w':=by
 have H:=h;unfold spec_l1In.f at H;clear h;replace H:=qu H;obtain⟨d0,H⟩|⟨d0,H⟩:=H
 ·obtain rfl:=sj H
  go_enter Tryz.func84,Tryz.ntmps84
  go_wp2;go_ret;exact⟨sd,dr⟩
 ·obtain rfl:=sj H
  go_enter Tryz.func84,Tryz.ntmps84
  go_wp2;go_ret;exact⟨sd,dr⟩

def spec_RowOk.l0:Nat→List Int→Int→Option (Bool)
 |0,_,_=>none
 |k+1,a0,b0=>if b0<(a0.length:Int)then(if 0≤b0 then((spec_l1In.f (rd a0 b0) (-1000000000) 1000000000).bind fun c0=>(if c0=true then(spec_RowOk.l0 k a0 (wrap64 (b0+1)))else(some false)))else(none))else(some ((a0.length:Int)==24))
def spec_RowOk.f (k:Nat) (a0:List Int):Option (Bool):=spec_RowOk.l0 k a0 0
theorem spec_RowOk.mono_l:∀k,(∀a0 b0,LeO (spec_RowOk.l0 k a0 b0) (spec_RowOk.l0 (k+1) a0 b0))
 |0=>fun _ _ r h=>by simp[spec_RowOk.l0]at h
 |k+1=>by
  have ih0:=spec_RowOk.mono_l k
  ·intro a0 b0;unfold spec_RowOk.l0;exact mz
theorem spec_RowOk.mono:∀a0 k,LeO (spec_RowOk.f k a0) (spec_RowOk.f (k+1) a0):=by
 intro a0 k;have ih0:=spec_RowOk.mono_l k;unfold spec_RowOk.f;exact mz
set_option maxHeartbeats 8000000 in
set_option maxRecDepth 100000 in
theorem spec_RowOk.calls (k:Nat) (a0:Option Addr) (b0:Nat) (c0:List Int) (r:Bool) (w:World) (d0:Kd.C (Kd.int .i64) w a0 c0.length c0) (e0:c0.length≤b0) (h:spec_RowOk.f k c0=some r):
  Calls Tryz.prog 69 #[.slice a0 c0.length b0] w fun e w'=>e= .returned (.bool r)∧Drawn0 w w':=by
 have g0:=qa d0;have j0:=qa e0;clear d0 e0;have H:=h;unfold spec_RowOk.f at H;clear h;have H':=qa H;clear H
 go_enter Tryz.func69,Tryz.ntmps69
 go_wp2
 go_loopg [3] k (fun kq n0 w'=>∃(p0:Int),n0= .int .i64 p0∧Aside0 (spec_RowOk.l0 kq c0 p0=some r)∧Aside0 (kq≤k)∧Drawn0 w w')
 case atStart=>exact⟨(0),(sd),H',⟨Nat.le_refl _⟩,dr⟩
 case round=>
  clear H';obtain⟨p0,rfl,HA,HK1,⟨m1,rfl⟩⟩:=hrel;obtain⟨k1,rfl,H⟩:=kz gk HA;clear HA;simp only[spec_RowOk.l0]at H;replace H:=qe H;obtain⟨q0,H⟩|⟨q0,H⟩:=H
  ·replace H:=qd H;obtain⟨r0,H⟩:=H;replace H:=qb H;obtain⟨s0,t0,H⟩:=H;replace H:=qc H;obtain⟨rfl,H⟩|⟨rfl,H⟩:=H
   ·have H':=qa H;clear H;obtain⟨v0,⟨⟩,w0,x0,y0⟩:=ai g0.out p0
    go_wp2_with(first|(refine gd 14 Tryz.func84 (spec_l1In.calls (rd c0 p0) (-1000000000) 1000000000 true _ t0.out) fun nd=>?_))
    go_roundg k1
    case measure=>have:=HK1.out;omega
    case rel=>exact⟨(wrap64 (p0+1)),(sd),H',⟨by have:=HK1.out;omega⟩,dr⟩
   ·obtain rfl:=sj H;obtain⟨v0,⟨⟩,w0,x0,y0⟩:=ai g0.out p0
    go_wp2_with(first|(refine gd 14 Tryz.func84 (spec_l1In.calls (rd c0 p0) (-1000000000) 1000000000 false _ t0.out) fun nd=>?_))
    go_ret;exact⟨sd,dr⟩
  ·obtain rfl:=sj H;go_wp2;go_ret;exact⟨sd,dr⟩

def spec_DeskOk.l0:Nat→Int→List Int→List (List Int)→Option (Bool)
 |0,_,_,_=>none
 |k+1,a0,b0,c0=>if a0<(c0.length:Int)then(if 0≤a0 then((spec_RowOk.f k (rd_L1 c0 a0)).bind fun d0=>(if d0=true then(spec_DeskOk.l0 k (wrap64 (a0+1)) b0 c0)else(some false)))else(none))else((spec_RowOk.f k b0).bind fun e0=>(if e0=true then(some (decide ((c0.length:Int)≤8)))else(some false)))
def spec_DeskOk.f (k:Nat) (a0:List Int) (b0:List (List Int)):Option (Bool):=spec_DeskOk.l0 k 0 a0 b0
set_option maxHeartbeats 8000000 in
set_option maxRecDepth 100000 in
theorem spec_DeskOk.calls (k:Nat) (a0:Option Addr) (b0:Nat) (c0:List Int) (d0:Option Addr) (e0:Nat) (g0:List (List Int)) (r:Bool) (w:World) (j0:Kd.C (Kd.int .i64) w a0 c0.length c0) (n0:c0.length≤b0) (p0:Kd.C (Kd.slice 3 (Kd.int .i64)) w d0 g0.length g0) (q0:g0.length≤e0) (h:spec_DeskOk.f k c0 g0=some r):
  Calls Tryz.prog 20 #[.agg #[.slice a0 c0.length b0,.slice d0 g0.length e0]] w fun e w'=>e= .returned (.bool r)∧Below w.heap.size w w':=by
 have r0:=Tryz.underlying27;have s0:=qa j0;have t0:=qa n0;clear j0 n0;have v0:=qa p0;have w0:=qa q0;clear p0 q0;have HB:=qa (Below.refl w.heap.size w);have H:=h;unfold spec_DeskOk.f at H;clear h;have H':=qa H;clear H
 go_enter Tryz.func20,Tryz.ntmps20
 go_wp2_with(first|((with_reducible refine gate_dst (N:=1) rfl ?_);(try(refine gate_guard (by rfl) ?_;dsimp only));refine bx 1 #[.slice a0 c0.length b0,.slice d0 g0.length e0] 27 ?_;intro x0 hg y0 hbox hb;have A0:=qa (hbox);have B0:=gw hg;have C0:=gw hg;replace HB:=bs hb;clear hb hbox hg))
 go_loopg [3] k (fun kq D0 w'=>∃(E0:Int),D0= .int .i64 E0∧Aside0 (spec_DeskOk.l0 kq E0 c0 g0=some r)∧Aside0 (kq≤k)∧Aside0 (w'.heap[x0]? =some (.cells #[(.slice a0 c0.length b0),(.slice d0 g0.length e0)] 27 (0,0)))∧Aside0 (Below w.heap.size w w'))
 case atStart=>exact⟨(0),(sd),H',⟨Nat.le_refl _⟩,⟨bk⟩,⟨bl⟩⟩
 case round=>
  clear H';obtain⟨E0,rfl,HA,HK1,A0,HB⟩:=hrel;obtain⟨k1,rfl,H⟩:=kz gk HA;clear HA;simp only[spec_DeskOk.l0]at H;replace H:=qe H;obtain⟨G0,H⟩|⟨G0,H⟩:=H
  ·replace H:=qd H;obtain⟨J0,H⟩:=H;replace H:=qb H;obtain⟨K0,L0,H⟩:=H;replace H:=qc H;obtain⟨rfl,H⟩|⟨rfl,H⟩:=H
   ·have H':=qa H;clear H;obtain⟨M0,N0,P0,Q0⟩:=qk2 A0;obtain⟨R0,U0,V0,⟨⟩,W0,X0,Y0,a1,b1⟩:=cg_L1 v0.out E0;(try replace W0:=(HB.out.cell (World.block_lt_of_cell? w _ W0)).trans W0)
    go_wp2_with(first|(refine gd 16 Tryz.func69 (spec_RowOk.calls k1 _ _ (rd_L1 g0 E0) true _ (cx (Kd.C_below X0.out HB.out)) Y0.out L0.out) fun nd=>?_))
    go_roundg k1
    case measure=>have:=HK1.out;omega
    case rel=>exact⟨(wrap64 (E0+1)),(sd),H',⟨by have:=HK1.out;omega⟩,⟨bk⟩,⟨bl⟩⟩
   ·obtain rfl:=sj H;obtain⟨c1,d1,e1,g1⟩:=qk2 A0;obtain⟨R0,U0,V0,⟨⟩,W0,X0,Y0,a1,b1⟩:=cg_L1 v0.out E0;(try replace W0:=(HB.out.cell (World.block_lt_of_cell? w _ W0)).trans W0)
    go_wp2_with(first|(refine gd 16 Tryz.func69 (spec_RowOk.calls k1 _ _ (rd_L1 g0 E0) false _ (cx (Kd.C_below X0.out HB.out)) Y0.out L0.out) fun nd=>?_))
    go_ret;exact⟨er,bl⟩
  ·replace H:=qb H;obtain⟨j1,l1,H⟩:=H;replace H:=qc H;obtain⟨rfl,H⟩|⟨rfl,H⟩:=H
   ·obtain rfl:=sj H;obtain⟨n1,p1,q1,r1⟩:=qk2 A0
    go_wp2_with(first|(refine gd 20 Tryz.func69 (spec_RowOk.calls k1 _ _ c0 true _ (cx (Kd.C_below s0.out HB.out)) t0.out l1.out) fun nd=>?_))
    go_ret;exact⟨er,bl⟩
   ·obtain rfl:=sj H;obtain⟨s1,t1,v1,w1⟩:=qk2 A0
    go_wp2_with(first|(refine gd 20 Tryz.func69 (spec_RowOk.calls k1 _ _ c0 false _ (cx (Kd.C_below s0.out HB.out)) t0.out l1.out) fun nd=>?_))
    go_ret;exact⟨er,bl⟩
def spec_l12Copy.l0:Nat→Int→List Int→List (List Int)→List Int→List (List Int)→Option (List Int×(List (List Int)))
 |0,_,_,_,_,_=>none
 |k+1,a0,b0,c0,d0,e0=>if a0<(c0.length:Int)then((some (([]:List Int):List Int)).bind fun g0=>(if 0≤a0 then(if g0.length+(rd_L1 c0 a0).length <17592186044416 then(if e0.length<5864062014805 then(spec_l12Copy.l0 k (wrap64 (a0+1)) b0 c0 d0 (e0++[(g0++(rd_L1 c0 a0))]))else(none))else(none))else(none)))else(some (d0,e0))
def spec_l12Copy.f (k:Nat) (a0:List Int) (b0:List (List Int)):Option (List Int×(List (List Int))):=(some (([]:List Int):List Int)).bind fun c0=>(if c0.length+a0.length<17592186044416 then(spec_l12Copy.l0 k 0 a0 b0 (c0++a0) ([]:List (List Int)))else(none))
def spec_l12Copy.T5:Bool×List (List Nat×List Nat):=(true,[([],[]),([0],[0]),([],[]),([],[]),([3],[3]),([],[]),([4,5],[4,5]),([6],[6]),([2,7],[2,7]),([8],[8]),([1,9,8],[1,9]),([0,1,2,3,4,5,6,7,8,9,10],[]),([11,10,10,0,1,2,3,4,5,6,7,8,9,10],[10,11])])
def spec_l12Copy.B5:List Nat:=[0,1,0,0,8,0,56,120,252,508,1023,2047,4095]
theorem spec_l12Copy.tab5:rtab .any (opsOf Tryz.f40 5)=spec_l12Copy.T5:=by kernel_rfl
theorem spec_l12Copy.bits5:waitsOk spec_l12Copy.T5.2 spec_l12Copy.B5=true:=by kernel_rfl
set_option maxHeartbeats 8000000 in
set_option maxRecDepth 100000 in
theorem spec_l12Copy.calls (k:Nat) (a0:Option Addr) (b0:Nat) (c0:List Int) (d0:Option Addr) (e0:Nat) (g0:List (List Int)) (j0:List Int) (n0:List (List Int)) (w:World) (p0:Kd.C (Kd.int .i64) w a0 c0.length c0) (q0:c0.length≤b0) (r0:Kd.C (Kd.slice 3 (Kd.int .i64)) w d0 g0.length g0) (t0:g0.length≤e0) (h:spec_l12Copy.f k c0 g0=some (j0,n0)):
  Calls Tryz.prog 40 #[.agg #[.slice a0 c0.length b0,.slice d0 g0.length e0]] w fun e w'=>∃v0_ v1_:Value,e= .returned (.agg #[v0_,v1_])∧Kd.R (Kd.int .i64) 3 w' w.heap.size (fun _=>True) v0_ j0∧Kd.S (Kd.slice 3 (Kd.int .i64)) 22 w' w.heap.size (fun k_=>some k_≠(v0_:Value).ownBlock) v1_ n0∧Below w.heap.size w w':=by
 have v0:=Tryz.underlying27;have w0:=qa p0;have x0:=qa q0;clear p0 q0;have y0:=qa r0;have A0:=qa t0;clear r0 t0;have HB:=qa (Below.refl w.heap.size w);have H:=h;unfold spec_l12Copy.f at H;clear h;replace H:=qs H;obtain⟨B0,C0,H⟩:=H
 by_cases D0:B0.length+c0.length<17592186044416
 ·rw[if_pos D0]at H;have E0:=qa D0;clear D0;obtain⟨G0,hy_⟩:∃y_:List Int,y_=(B0++c0):=⟨_,rfl⟩;replace H:(spec_l12Copy.l0 k 0 c0 g0 G0 ([]:List (List Int)))=some (j0,n0):=yh;have J0:=qa hy_;clear hy_;have H':=qa H;clear H
  go_enter Tryz.func40,Tryz.ntmps40
  go_wp2_with(first|(refine bx 1 #[.slice a0 c0.length b0,.slice d0 g0.length e0] 27 ?_;intro K0 hg L0 hbox hb;have M0:=qa (hbox);have N0:=gw hg;have P0:=gw hg;replace HB:=bs hb;clear hb hbox hg)|(refine bx 2 #[.slice none 0 0,.slice none 0 0] 27 ?_;intro Q0 hg R0 hbox hb;have U0:=qa (hbox);have V0:=gw hg;have W0:=gw hg;replace HB:=bs hb;have X0:=qnl hg M0;have Y0:=qng hg M0;replace M0:=qbb M0 hb;clear hb hbox hg)|((with_reducible refine gate_dst (N:=5) rfl ?_);refine Kd.R_lit (Kd.int .i64) _ 3 ?hg (N:=5) ?hd (xs:=([]:List Int)) (inner:=[]) (ok:=fun _=>True) (okp:=fun _=>True) ?hr ?hp (fun _ hk=>hk) trivial (Below.refl _ _) (Nat.le_refl _) (by simp) ?_;(case hd=>rfl);(case hg=>rfl);(case hr=>exact gr);(case hp=>exact(Reps.none _ _));intro a1 b1 c1 hb hg_ hnew_;clear hg_ hnew_;(first|rw[←C0.out]at c1|(simp only[Int.reduceToNat]at c1;rw[←C0.out]at c1));have d1:=qa (Kd.R_lower c1 (below_size (bl)));replace M0:=qbb M0 hb;replace U0:=qbb U0 hb;replace HB:=bs hb;clear hb c1;have e1:=X0.out;have g1:=Y0.out;obtain⟨j1,l1,n1,p1⟩:=qk2 M0)|((with_reducible refine gate_builtin (b:= .append) (xs:=#[.tmp 5,.tmp 7]) rfl ?_);at_builtin;refine Kd.R_append_rows (Kd.int .i64) (w0:=w) w.heap.size rfl (.tmp 5) (.tmp 7) 22 3 (.int .i64 0) 8 rfl Tryz.underlying22 info3 rfl (by decide) (by omega) a1 B0 c0 _ _ _ (fun _=>True) (fun _=>False) rfl rfl ?aO ?aR (fun _ _ h=>h) (fun _ h=>h.elim) ?aF ?aB ?aS ?aL ?_;(case aR=>exact cx (Kd.C_below w0.out HB.out));(case aB=>exact(bl));(case aF=>exact(fun _ _=>trivial));(case aO=>exact(kR d1));(case aS=>exact(below_size (bl)));(case aL=>have:=E0.out;omega);intro q1 r1 ho hb hg hat;rw[←J0.out]at ho;replace M0:=qa (blk_grown (g:=K0) (o:= .cells #[.slice a0 c0.length b0,.slice d0 g0.length e0] 27 (0,0)) (bk) hg (Kd.R_ne d1.out M0.out (by decide)));replace U0:=qa (blk_grown (g:=Q0) (o:= .cells #[.slice none 0 0,.slice none 0 0] 27 (0,0)) (bk) hg (Kd.R_ne d1.out U0.out (by decide)));replace HB:=qa (hb);have t1:=qa (ho);clear d1;clear ho hb hg hat;obtain⟨v1,w1,rfl⟩:=Kd.R_slice t1.out)|(refine bx 3 #[.slice none 0 0,.slice none 0 0] 27 ?_;intro x1 hg y1 hbox hb;replace t1:=qa (Kd.R_below (kR t1) hb);have A1:=qa (hbox);have B1:=gw hg;have C1:=gw hg;replace HB:=bs hb;have D1:=qnl hg M0;have E1:=qng hg M0;replace M0:=qbb M0 hb;have G1:=qnl hg U0;have J1:=qng hg U0;replace U0:=qbb U0 hb;clear hb hbox hg;have K1:=E1.out;have L1:=D1.out;have M1:=J1.out;have N1:=G1.out;obtain⟨P1,Q1,R1,U1⟩:=qk2 A1))
  go_loopg [4] k (fun kq V1 w'=>∃(W1:Int) (X1:List (List Int)) (Y1:Value),V1= .int .i64 W1∧Aside0 (spec_l12Copy.l0 kq W1 c0 g0 G0 X1=some (j0,n0))∧Aside0 (kq≤k)∧Aside0 (Kd.R (Kd.int .i64) 3 w' w.heap.size (fun _=>True) (.slice v1 G0.length w1) G0)∧Aside0 (Kd.S (Kd.slice 3 (Kd.int .i64)) 22 w' w.heap.size (fun k_=>some k_≠((.slice v1 G0.length w1):Value).ownBlock) Y1 X1)∧Aside0 (w'.heap[K0]? =some (.cells #[(.slice a0 c0.length b0),(.slice d0 g0.length e0)] 27 (0,0)))∧Aside0 (w'.heap[Q0]? =some (.cells #[(.slice none 0 0),(.slice none 0 0)] 27 (0,0)))∧Aside0 (w'.heap[x1]? =some (.cells #[(.slice v1 G0.length w1),Y1] 27 (0,0)))∧Aside0 (Below w.heap.size w w'))
  case atStart=>exact⟨(0),(([]:List (List Int))),(.slice none 0 0),(sd),H',⟨Nat.le_refl _⟩,⟨kFR t1 A1 (fun _ hk=>trivial)⟩,⟨z19_⟩,⟨kb M0⟩,⟨kb U0⟩,⟨kP A1⟩,⟨bl⟩⟩
  case round=>
   clear H';obtain⟨W1,X1,Y1,rfl,HA,HK1,a2,b2,M0,U0,A1,HB⟩:=hrel;obtain⟨k1,rfl,H⟩:=kz gk HA;clear HA;simp only[spec_l12Copy.l0]at H;replace H:=qe H;obtain⟨c2,H⟩|⟨c2,H⟩:=H
   ·replace H:=qs H;obtain⟨d2,e2,H⟩:=H;replace H:=qd H;obtain⟨g2,H⟩:=H;replace H:=qn H;obtain⟨j2,H⟩:=H;have l2:=qa j2;clear j2;obtain⟨n2,hy_⟩:∃y_:List Int,y_=(d2++(rd_L1 g0 W1)):=⟨_,rfl⟩;replace H:(if X1.length<5864062014805 then(spec_l12Copy.l0 k1 (wrap64 (W1+1)) c0 g0 G0 (X1++[n2]))else(none))=some (j0,n0):=yh;have p2:=qa hy_;clear hy_;replace H:=qn H;obtain⟨q2,H⟩:=H;have r2:=qa q2;clear q2;obtain⟨t2,hy_⟩:∃y_:List (List Int),y_=(X1++[n2]):=⟨_,rfl⟩;replace H:(spec_l12Copy.l0 k1 (wrap64 (W1+1)) c0 g0 G0 t2)=some (j0,n0):=yh;have v2:=qa hy_;clear hy_;have H':=qa H;clear H;have w2:=X0.out;have x2:=Y0.out;have y2:=D1.out;have A2:=E1.out;obtain⟨B2,C2,D2,E2⟩:=qk2 M0
    try go_wp2
    replace a2:=qa (Kd.R_drew a2.out);replace b2:=qa (Kd.S_drew b2.out);replace M0:=qa (blk_drew M0.out);replace U0:=qa (blk_drew U0.out);replace A1:=qa (blk_drew A1.out);replace HB:=qa (below_drew1 HB.out);have G2:0≤(W1:Int):=qo;have J2:W1<(g0.length:Int):=qo;obtain⟨K2,L2,M2,N2,P2,Q2,R2⟩:=at_L1 y0.out W1 G2 J2;have U2:=P2;cases N2;(try replace P2:=(HB.out.cell (World.block_lt_of_cell? w _ P2)).trans P2);have V2:=qa R2;have W2:=qa Q2;clear R2 Q2;replace G2:=eq_true G2;replace J2:=eq_true J2;refine start_ (n:=13) (S:=fun w'=>w'.cell? ⟨x1,0,none⟩=some (.slice v1 G0.length w1)∧w'.cell? ⟨x1,1,none⟩=some (Y1)∧w'.cell? ⟨K0,0,none⟩=some (.slice a0 c0.length b0)∧w'.cell? ⟨K0,1,none⟩=some (.slice (some K2) g0.length e0)∧w'.cell? (K2.add (W1).toNat)=some (.slice L2 (rd_L1 g0 W1).length M2)) (ds:=[12]) #[false,false,false,false,false,false,false,false,false,false,false,false,false] (by kernel_rfl) rfl rfl ⟨(blk_cell A1.out 0).trans rfl,(blk_cell A1.out 1).trans rfl,(blk_cell M0.out 0).trans rfl,(blk_cell M0.out 1).trans rfl,((HB.out.cell (World.block_lt_of_cell? w _ U2)).trans U2)⟩ (fun hHeld=>?_);refine with_tabW spec_l12Copy.tab5 spec_l12Copy.bits5 (fun HT_ HW_=>?_);generalize wr.drew=X2 at a2 b2 M0 U0 A1 HB V2 P2 hHeld ⊢;refine pur 0 17 #[true,false,false,false,false,false,false,false,false,false,false,false,false] HT_ ?_;refine pur 3 20 #[true,false,false,true,false,false,false,false,false,false,false,false,false] HT_ ?_;refine pur 5 22 #[true,false,false,true,false,true,false,false,false,false,false,false,false] HT_ ?_;refine take_ (i:=1) (N:=some 18) (v:=?_) (a':=?_) #[true,true,false,true,false,true,false,false,false,false,false,false,false] rfl rfl (take_ofW HT_.out HW_.out (by kernel_rfl)) (fun _ _ _ h=>h) (Or.inl ⟨by rfl,?_⟩) hHeld ?_ ?_;rotate_left
    ·rintro w' ⟨s0,s1,s2,s3,s4⟩
     go_simp
     with_reducible rfl
    rotate_left
    ·simp only[Act.put,List.setIfInBounds_toArray,List.set_cons_zero,List.set_cons_succ,i64_w,i32_w]
     rfl
    refine take_ (i:=4) (N:=some 21) (v:=?_) (a':=?_) #[true,true,false,true,true,true,false,false,false,false,false,false,false] rfl rfl (take_ofW HT_.out HW_.out (by kernel_rfl)) (fun _ _ _ h=>h) (Or.inl ⟨by rfl,?_⟩) hHeld ?_ ?_;rotate_left
    ·rintro w' ⟨s0,s1,s2,s3,s4⟩
     go_simp
     with_reducible rfl
    rotate_left
    ·simp only[Act.put,List.setIfInBounds_toArray,List.set_cons_zero,List.set_cons_succ,i64_w,i32_w]
     rfl
    refine pur 6 23 #[true,true,false,true,true,true,true,false,false,false,false,false,false] HT_ ?_;refine take_ (i:=7) (N:=some 24) (v:=?_) (a':=?_) #[true,true,false,true,true,true,true,true,false,false,false,false,false] rfl rfl (take_ofW HT_.out HW_.out (by kernel_rfl)) (fun _ _ _ h=>h) (Or.inl ⟨by rfl,?_⟩) hHeld ?_ ?_;rotate_left
    ·rintro w' ⟨s0,s1,s2,s3,s4⟩
     go_simp
     with_reducible rfl
    rotate_left
    ·simp only[Act.put,List.setIfInBounds_toArray,List.set_cons_zero,List.set_cons_succ,i64_w,i32_w]
     rfl
    refine one_ (i:=2) (N:=some 19) #[true,true,true,true,true,true,true,true,false,false,false,false,false] rfl rfl (one_of HT_.out (by kernel_rfl)) (by decide) (fun K hK=>?_);refine Kd.R_lit_step (Kd.int .i64) _ 3 ?hg (N:=19) ?hd (xs:=([]:List Int)) (inner:=[]) (ok:=fun _=>True) (okp:=fun _=>True) ?hr ?hp (fun _ hk=>hk) trivial (Below.refl _ _) (Nat.le_refl _) (by simp) ?_;(case hd=>rfl);(case hg=>rfl);(case hr=>exact gr);(case hp=>exact(Reps.none _ _));intro Y2 a3 b3 hb hg_ hnew_;clear hg_ hnew_;(first|rw[←e2.out]at b3|(simp only[Int.reduceToNat]at b3;rw[←e2.out]at b3));replace b2:=qa (Kd.S_elder' (kS b2) (Kd.R_base b3) hb);have c3:=qa (Kd.R_lower (Kd.R_new' b3 (Kd.R_lt (kR a2))) (below_size (bl)));replace a2:=qa (Kd.R_elder' (kR a2) (Kd.R_base b3) hb);replace M0:=qbb M0 hb;replace U0:=qbb U0 hb;replace A1:=qbb A1 hb;replace HB:=bs hb;clear hb b3;refine hK.out _ _ ⟨(blk_cell A1.out 0).trans rfl,(blk_cell A1.out 1).trans rfl,(blk_cell M0.out 0).trans rfl,(blk_cell M0.out 1).trans rfl,((HB.out.cell (World.block_lt_of_cell? w _ U2)).trans U2)⟩ (fun hHeld=>?_);clear hK K;refine norm_ (a':=?_) ?_ ?_;rotate_left
    ·show Act.put _ (some 19) _=_;simp only[Act.put,List.setIfInBounds_toArray,List.set_cons_zero,List.set_cons_succ,i64_w,i32_w]
     rfl
    refine one_ (i:=8) (N:=some 25) #[true,true,true,true,true,true,true,true,true,false,false,false,false] rfl rfl (one_of HT_.out (by kernel_rfl)) (by decide) (fun K hK=>?_);refine Kd.R_append_rows_step (Kd.int .i64) (w0:=w) w.heap.size (by rfl) (.tmp 19) (.tmp 24) 22 3 (.int .i64 0) 8 rfl Tryz.underlying22 info3 rfl (by decide) (by omega) Y2 d2 (rd_L1 g0 W1) _ _ _ (fun k_=>some k_≠(.slice v1 G0.length w1:Value).ownBlock) (fun _=>False) rfl rfl ?aO ?aR (fun _ _ h=>h) (fun _ h=>h.elim) ?aF ?aB ?aS ?aL ?_;(case aR=>exact cx (Kd.C_below V2.out HB.out));(case aB=>exact(bl));(case aF=>exact(fun k_ hk=>Kd.fresh' (Kd.R_lt (kR a2)) k_ hk));(case aO=>exact(by(with_reducible repeat(first|apply Kd.R_alloc|apply Kd.R_drewN|apply Kd.R_drew));exact Kd.R_mono c3.out (fun _ hk=>hk.2)));(case aS=>exact(below_size (bl)));(case aL=>have:=l2.out;omega);intro d3 e3 ho hb hg hat;rw[←p2.out]at ho;replace a2:=qa (Kd.R_after (ok:=(fun _=>True)) (kR a2) hg hat);replace b2:=qa (Kd.S_after (ok:=(fun k_=>some k_≠(.slice v1 G0.length w1:Value).ownBlock)) (kS b2) hg hat);replace M0:=qa (blk_grown (g:=K0) (o:= .cells #[.slice a0 c0.length b0,.slice (some K2) g0.length e0] 27 (0,0)) (bk) hg (Kd.R_ne c3.out M0.out (by decide)));replace U0:=qa (blk_grown (g:=Q0) (o:= .cells #[.slice none 0 0,.slice none 0 0] 27 (0,0)) (bk) hg (Kd.R_ne c3.out U0.out (by decide)));replace A1:=qa (blk_grown (g:=x1) (o:= .cells #[.slice v1 G0.length w1,Y1] 27 (0,0)) (bk) hg (Kd.R_ne c3.out A1.out (by decide)));replace HB:=qa (hb);have g3:=qa (ho);clear c3;clear ho hb hg hat;obtain⟨j3,l3,n3⟩:=Kd.R_slice g3.out;(first|subst n3|(injection n3 with f1_ f2_ f3_;have f4_:=f1_.symm;have f5_:=f3_.symm;clear f1_ f2_ f3_;subst f4_;subst f5_));refine hK.out _ _ ⟨(blk_cell A1.out 0).trans rfl,(blk_cell A1.out 1).trans rfl,(blk_cell M0.out 0).trans rfl,(blk_cell M0.out 1).trans rfl,((HB.out.cell (World.block_lt_of_cell? w _ U2)).trans U2)⟩ (fun hHeld=>?_);clear hK K;refine norm_ (a':=?_) ?_ ?_;rotate_left
    ·show Act.put _ (some 25) _=_;simp only[Act.put,List.setIfInBounds_toArray,List.set_cons_zero,List.set_cons_succ,i64_w,i32_w]
     rfl
    refine one_ (i:=9) (N:=some 26) #[true,true,true,true,true,true,true,true,true,true,false,false,false] rfl rfl (one_of HT_.out (by kernel_rfl)) (by decide) (fun K hK=>?_);refine value_ (w1:=?_) (v:=?_) (by rfl) rfl ?_ ?_;rotate_left 2
    ·go_simp
     constructor
     ·rfl
     ·rfl
    refine hK.out _ _ ⟨(blk_cell (blk_alloc A1.out _) 0).trans rfl,(blk_cell (blk_alloc A1.out _) 1).trans rfl,(blk_cell (blk_alloc M0.out _) 0).trans rfl,(blk_cell (blk_alloc M0.out _) 1).trans rfl,(World.cell?_alloc_lt _ _ _ (World.block_lt_of_cell? _ _ (((HB.out.cell (World.block_lt_of_cell? w _ U2)).trans U2)))).trans (((HB.out.cell (World.block_lt_of_cell? w _ U2)).trans U2))⟩ (fun hHeld=>?_);clear hK K;refine norm_ (a':=?_) ?_ ?_;rotate_left
    ·show Act.put _ (some 26) _=_;simp only[Act.put,List.setIfInBounds_toArray,List.set_cons_zero,List.set_cons_succ,i64_w,i32_w]
     rfl
    refine one_ (i:=10) (N:=some 27) #[true,true,true,true,true,true,true,true,true,true,true,false,false] rfl rfl (one_of HT_.out (by kernel_rfl)) (by decide) (fun K hK=>?_);refine Kd.S_append_step (Kd.slice 3 (Kd.int .i64)) (w0:=w) w.heap.size (by rfl) (.tmp 18) (.tmp 26) 23 22 (.slice none 0 0) 24 rfl Tryz.underlying23 info22 rfl (by decide) (by omega) Y1 X1 n2 [.slice j3 n2.length l3] (fun k_=>some k_≠(.slice v1 G0.length w1:Value).ownBlock) (fun k_=>some k_=(.slice j3 n2.length l3:Value).ownBlock) rfl rfl ?aP (fun k_ hk_=>((Kd.R_mono (ok':=fun k_=>((fun k_=>some k_≠(.slice v1 G0.length w1:Value).ownBlock)) k_∧some k_≠(Y1:Value).ownBlock) (Kd.R_apart' (g3.out) (Kd.S_typed b2.out) (by decide)) (fun k_ hk=>⟨hk.1,hk.2⟩))).1 k_ hk_.symm) ?aF ?aO ?aB ?aS ?aL ?_;(case aP=>exact Kd.M_row (Kd.R_mono (Kd.R_tight rfl (Kd.R_mono (ok':=fun k_=>((fun k_=>some k_≠(.slice v1 G0.length w1:Value).ownBlock)) k_∧some k_≠(Y1:Value).ownBlock) (Kd.R_apart' (g3.out) (Kd.S_typed b2.out) (by decide)) (fun k_ hk=>⟨hk.1,hk.2⟩))) (fun _ h_=>h_)));(case aB=>exact(bl));(case aF=>exact(fun k_ hk=>Kd.fresh' (Kd.R_lt (kR a2)) k_ hk));(case aO=>exact(by(with_reducible repeat(first|apply Kd.S_alloc|apply Kd.S_drewN|apply Kd.S_drew));exact Kd.S_mono b2.out (fun k_ hk=>⟨hk.1,fun e_=>hk.2 e_⟩)));(case aS=>exact(below_size (bl)));(case aL=>have:=r2.out;omega);intro p3 q3 ho hb hg hat;rw[←v2.out]at ho;replace a2:=qa (Kd.R_over' (kR a2) (Kd.S_typed (kS b2)) (by decide) hg);replace M0:=qa (blk_grown (g:=K0) (o:= .cells #[.slice a0 c0.length b0,.slice (some K2) g0.length e0] 27 (0,0)) (bk) hg (Kd.S_ne b2.out M0.out (by decide)));replace U0:=qa (blk_grown (g:=Q0) (o:= .cells #[.slice none 0 0,.slice none 0 0] 27 (0,0)) (bk) hg (Kd.S_ne b2.out U0.out (by decide)));replace A1:=qa (blk_grown (g:=x1) (o:= .cells #[.slice v1 G0.length w1,Y1] 27 (0,0)) (bk) hg (Kd.S_ne b2.out A1.out (by decide)));replace HB:=qa (hb);have r3:=qa (ho);clear b2 g3;clear ho hb hg hat;obtain⟨t3,v3,w3⟩:=Kd.S_slice r3.out;(first|subst w3|(injection w3 with f1_ f2_ f3_;have f4_:=f1_.symm;have f5_:=f3_.symm;clear f1_ f2_ f3_;subst f4_;subst f5_));refine hK.out _ _ ⟨(blk_cell A1.out 0).trans rfl,(blk_cell A1.out 1).trans rfl,(blk_cell M0.out 0).trans rfl,(blk_cell M0.out 1).trans rfl,((HB.out.cell (World.block_lt_of_cell? w _ U2)).trans U2)⟩ (fun hHeld=>?_);clear hK K;refine norm_ (a':=?_) ?_ ?_;rotate_left
    ·show Act.put _ (some 27) _=_;simp only[Act.put,List.setIfInBounds_toArray,List.set_cons_zero,List.set_cons_succ,i64_w,i32_w]
     rfl
    refine pur 11 28 #[true,true,true,true,true,true,true,true,true,true,true,true,false] HT_ ?_;refine last_ (i:=12) (N:=none) #[true,true,true,true,true,true,true,true,true,true,true,true,true] rfl rfl (one_of HT_.out (by kernel_rfl)) (by decide) (fun K hK=>?_);have x3:q3.cell? ⟨x1,1,none⟩=some (Y1):=(blk_cell A1.out 1).trans rfl;have y3:=blk_frozen A1.out 1;have A3:=D1.out;have B3:=G1.out;have C3:=E1.out;have D3:=J1.out;refine skip_ (w1:=?_) (by rfl) rfl ?_ ?_;rotate_left
    ·go_simp
     rfl
    refine hK.out _ _ ?_;clear hK K;refine done_ (done_of HT_.out (by kernel_rfl)) ?_
    try go_wp2
    go_roundg k1
    case measure=>have:=HK1.out;omega
    case rel=>exact⟨(wrap64 (W1+1)),(t2),(.slice t3 t2.length v3),(sd),H',⟨by have:=HK1.out;omega⟩,⟨kFR a2 A1 (fun _ hk=>trivial)⟩,⟨kFS r3 A1 (fun _ hk=>hk.1)⟩,⟨kb M0⟩,⟨kb U0⟩,⟨kP A1⟩,⟨bl⟩⟩
   ·simp only[Option.some.injEq,Prod.mk.injEq]at H;obtain⟨rfl,rfl⟩:=H;have E3:=X0.out;have G3:=Y0.out;have J3:=D1.out;have K3:=E1.out;obtain⟨L3,M3,N3,P3⟩:=qk2 M0;have Q3:=J1.out;have R3:=G1.out;obtain⟨U3,V3,W3,X3⟩:=qk2 A1;obtain⟨Y3,a4,b4,c4⟩:=qk2 U0;obtain⟨d4,e4,rfl⟩:=Kd.S_slice b2.out;go_wp2;refine bodyPost_ret (results_cell_row rfl _ _ Q0 27 #[.slice v1 G0.length w1,.slice d4 X1.length e4] (0,0) _ rfl (kP U0) Tryz.underlying27 rfl (by kernel_rfl)) rfl ?_;exact⟨_,_,er,kFR a2 U0 (fun _ hk=>trivial),kFS b2 U0 (fun _ hk=>hk.1),bl⟩
 ·rw[if_neg D0]at H;exact absurd H (by simp)

def spec_l1Cut.l0:Nat→ByteArray→Int→List ByteArray→Int→Int→Option (List ByteArray)
 |0,_,_,_,_,_=>none
 |k+1,a0,b0,c0,d0,e0=>if e0<(a0.size:Int)then(if 0≤e0 then(if(bt a0 e0)=b0 then(if 0≤d0 then(if d0≤e0 then(if e0≤(a0.size:Int)then(if c0.length<8796093022208 then(spec_l1Cut.l0 k a0 b0 (c0++[a0.extract (d0:Int).toNat (e0:Int).toNat]) (wrap64 (e0+1)) (wrap64 (e0+1)))else(none))else(none))else(none))else(none))else(spec_l1Cut.l0 k a0 b0 c0 d0 (wrap64 (e0+1))))else(none))else(if 0≤d0 then(if d0≤(a0.size:Int)then(if c0.length<8796093022208 then(some (c0++[a0.extract (d0:Int).toNat a0.size]))else(none))else(none))else(none))
def spec_l1Cut.f (k:Nat) (a0:ByteArray) (b0:Int):Option (List ByteArray):=spec_l1Cut.l0 k a0 b0 (([]:List ByteArray)) 0 0
set_option maxHeartbeats 8000000 in
set_option maxRecDepth 100000 in
theorem spec_l1Cut.calls (k:Nat) (a0:ByteArray) (b0:Int) (r:List ByteArray) (w:World) (h:spec_l1Cut.f k a0 b0=some r):
  Calls Tryz.prog 47 #[.string a0,.int .u8 b0] w fun e w'=>∃v0_:Value,e= .returned (v0_)∧Kd.R Kd.string 9 w' w.heap.size (fun _=>True) v0_ r∧Below w.heap.size w w':=by
 have HB:=qa (Below.refl w.heap.size w);have H:=h;unfold spec_l1Cut.f at H;clear h;obtain⟨c0,hy_⟩:∃y_:List ByteArray,y_=(([]:List ByteArray)):=⟨_,rfl⟩;replace H:(spec_l1Cut.l0 k a0 b0 c0 0 0)=some r:=yh;have d0:=qa hy_;clear hy_;have H':=qa H;clear H
 go_enter Tryz.func47,Tryz.ntmps47
 go_wp2_with(first|((with_reducible refine gate_dst (N:=8) rfl ?_);refine Kd.R_lit Kd.string _ 9 ?hg (N:=8) ?hd (xs:=([]:List ByteArray)) (inner:=[]) (ok:=fun _=>True) (okp:=fun _=>True) ?hr ?hp (fun _ hk=>hk) trivial (Below.refl _ _) (Nat.le_refl _) (by simp) ?_;(case hd=>rfl);(case hg=>rfl);(case hr=>exact gr);(case hp=>exact(Reps.none _ _));intro e0 g0 j0 hb hg_ hnew_;clear hg_ hnew_;(first|rw[←d0.out]at j0|(simp only[Int.reduceToNat]at j0;rw[←d0.out]at j0));have n0:=qa (Kd.R_lower j0 (below_size (bl)));replace HB:=bs hb;clear hb j0))
 go_loopg [5,6,7] k (fun kq p0 q0 r0 w'=>∃(s0:List ByteArray) (t0:Int) (v0:Int),q0= .int .i64 t0∧r0= .int .i64 v0∧Aside0 (spec_l1Cut.l0 kq a0 b0 s0 t0 v0=some r)∧Aside0 (kq≤k)∧Aside0 (Kd.R Kd.string 9 w' w.heap.size (fun _=>True) p0 s0)∧Aside0 (Below w.heap.size w w'))
 case atStart=>exact⟨(c0),(0),(0),(sd),(sd),H',⟨Nat.le_refl _⟩,⟨kR n0⟩,⟨bl⟩⟩
 case round=>
  clear H';obtain⟨s0,t0,v0,rfl,rfl,HA,HK1,w0,HB⟩:=hrel;obtain⟨k1,rfl,H⟩:=kz gk HA;clear HA;simp only[spec_l1Cut.l0]at H;replace H:=qe H;obtain⟨x0,H⟩|⟨x0,H⟩:=H
  ·replace H:=qd H;obtain⟨y0,H⟩:=H;replace H:=qq H;obtain⟨A0,B0,H⟩|⟨C0,A0,B0,H⟩:=H
   ·replace H:=qn H;obtain⟨D0,H⟩:=H;have E0:=eq_true D0;have G0:decide (0≤t0)=true:=decide_eq_true D0;clear D0;replace H:=qn H;obtain⟨J0,H⟩:=H;have K0:=eq_true J0;have L0:decide (t0≤v0)=true:=decide_eq_true J0;clear J0;replace H:=qn H;obtain⟨M0,H⟩:=H;have N0:=eq_true M0;have P0:decide (v0≤(a0.size:Int))=true:=decide_eq_true M0;clear M0;replace H:=qn H;obtain⟨Q0,H⟩:=H;have R0:=qa Q0;clear Q0;obtain⟨U0,hy_⟩:∃y_:List ByteArray,y_=(s0++[a0.extract (t0:Int).toNat (v0:Int).toNat]):=⟨_,rfl⟩;replace H:(spec_l1Cut.l0 k1 a0 b0 U0 (wrap64 (v0+1)) (wrap64 (v0+1)))=some r:=yh;have V0:=qa hy_;clear hy_;have H':=qa H;clear H;have W0:0≤(v0:Int):=qo;have X0:v0<(a0.size:Int):=qo;have Y0:=bt_at a0 v0;replace W0:=eq_true W0;replace X0:=eq_true X0
    go_wp2_with(first|((with_reducible refine gate_builtin (b:= .append) (xs:=#[.tmp 20,.tmp 25]) rfl ?_);at_builtin;refine Kd.R_append Kd.string (w0:=w) w.heap.size rfl (.tmp 20) (.tmp 25) 35 9 (.string ⟨#[]⟩) 16 rfl Tryz.underlying35 info9 rfl (by decide) (by omega) u5 s0 (a0.extract (t0:Int).toNat (v0:Int).toNat) [.string (a0.extract (t0:Int).toNat (v0:Int).toNat)] (fun _=>True) (fun _=>False) rfl rfl ?aP (fun _ hk=>hk.elim) ?aF ?aO ?aB ?aS ?aL ?_;(case aP=>exact rfl);(case aB=>exact(bl));(case aF=>exact(fun _ _=>trivial));(case aO=>exact(kR w0));(case aS=>exact(below_size (bl)));(case aL=>have:=R0.out;omega);intro a1 b1 ho hb hg hat;rw[←V0.out]at ho;replace HB:=qa (hb);have c1:=qa (ho);clear w0;clear ho hb hg hat))
    go_roundg k1
    case measure=>have:=HK1.out;omega
    case rel=>exact⟨(U0),(wrap64 (v0+1)),(wrap64 (v0+1)),(sd),(sd),H',⟨by have:=HK1.out;omega⟩,⟨kR c1⟩,⟨bl⟩⟩
   ·have H':=qa H;clear H;have W0:0≤(v0:Int):=qo;have X0:v0<(a0.size:Int):=qo;have Y0:=bt_at a0 v0;replace W0:=eq_true W0;replace X0:=eq_true X0;go_wp2
    go_roundg k1
    case measure=>have:=HK1.out;omega
    case rel=>exact⟨(s0),(t0),(wrap64 (v0+1)),(sd),(sd),H',⟨by have:=HK1.out;omega⟩,⟨kR w0⟩,⟨bl⟩⟩
  ·by_cases d1:0≤t0
   ·rw[if_pos d1]at H;have e1:=eq_true d1;have g1:decide (0≤t0)=true:=decide_eq_true d1;clear d1;replace H:=qn H;obtain⟨j1,H⟩:=H;have l1:=eq_true j1;have n1:decide (t0≤(a0.size:Int))=true:=decide_eq_true j1;clear j1;replace H:=qn H;obtain⟨p1,H⟩:=H;have q1:=qa p1;clear p1;obtain⟨r1,hy_⟩:∃y_:List ByteArray,y_=(s0++[a0.extract (t0:Int).toNat a0.size]):=⟨_,rfl⟩;replace H:(some r1)=some r:=yh;have s1:=qa hy_;clear hy_;obtain rfl:=sj H
    go_wp2_with(first|((with_reducible refine gate_builtin (b:= .append) (xs:=#[.tmp 29,.tmp 33]) rfl ?_);at_builtin;refine Kd.R_append Kd.string (w0:=w) w.heap.size rfl (.tmp 29) (.tmp 33) 35 9 (.string ⟨#[]⟩) 16 rfl Tryz.underlying35 info9 rfl (by decide) (by omega) u5 s0 (a0.extract (t0:Int).toNat a0.size) [.string (a0.extract (t0:Int).toNat a0.size)] (fun _=>True) (fun _=>False) rfl rfl ?aP (fun _ hk=>hk.elim) ?aF ?aO ?aB ?aS ?aL ?_;(case aP=>exact rfl);(case aB=>exact(bl));(case aF=>exact(fun _ _=>trivial));(case aO=>exact(kR w0));(case aS=>exact(below_size (bl)));(case aL=>have:=q1.out;omega);intro t1 v1 ho hb hg hat;rw[←s1.out]at ho;replace HB:=qa (hb);have w1:=qa (ho);clear w0;clear ho hb hg hat))
    go_ret;exact⟨_,er,kR w1,bl⟩
   ·rw[if_neg d1]at H;exact absurd H (by simp)

mutual
def spec_l1Digits.j0:Nat→ByteArray→Bool→Option (Int)
 |0,_,_=>none
 |k+1,a0,b0=>if b0=true then(some (-1))else(spec_l1Digits.l0 k a0 0 0)
def spec_l1Digits.l0:Nat→ByteArray→Int→Int→Option (Int)
 |0,_,_,_=>none
 |k+1,a0,c0,d0=>if d0<(a0.size:Int)then(if 0≤d0 then(if(bt a0 d0)<48 then(some (-1))else(if(bt a0 d0)>57 then(some (-1))else(spec_l1Digits.l0 k a0 (wrap64 ((wrap64 (10*c0))+(((bt a0 d0)-48)%256))) (wrap64 (d0+1)))))else(none))else(some c0)
end

def spec_l1Digits.f (k:Nat) (a0:ByteArray):Option (Int):=(spec_l1In.f (a0.size:Int) 1 5).bind fun b0=>(if b0=true then(if(a0.size:Int)>1 then(if 0<(a0.size:Int)then(spec_l1Digits.j0 k a0 ((bt a0 0)==48))else(none))else(spec_l1Digits.j0 k a0 false))else(spec_l1Digits.j0 k a0 true))
set_option maxHeartbeats 8000000 in
set_option maxRecDepth 100000 in
theorem spec_l1Digits.calls (k:Nat) (a0:ByteArray) (r:Int) (w:World) (h:spec_l1Digits.f k a0=some r):
  Calls Tryz.prog 48 #[.string a0] w fun e w'=>e= .returned (.int .i64 r)∧Drawn0 w w':=by
 have H:=h;unfold spec_l1Digits.f at H;clear h;have b0:=qa H;clear H
 go_enter Tryz.func48,Tryz.ntmps48
 go_upto_region 1 with(fail)
 go_cut [18] (fun c0 wc=>∃(kq:Nat) (d0:Bool),c0= .bool d0∧Aside0 (spec_l1Digits.j0 kq a0 d0=some r)∧Aside0 (kq≤k)∧Drawn0 w wc)
 case first=>
  have H:=b0.out;clear b0;replace H:=qb H;obtain⟨e0,g0,H⟩:=H;replace H:=qc H;obtain⟨rfl,H⟩|⟨rfl,H⟩:=H
  ·by_cases n0:(a0.size:Int)>1
   ·rw[if_pos n0]at H;have p0:decide (1<(a0.size:Int))=true:=decide_eq_true n0;have q0:decide (1<a0.size)=true:=decide_eq_true (by omega);clear n0;(first|rw[p0]|(simp only[i64_w,i32_w];rw[p0])|skip);replace H:=qL 0 H;obtain⟨r0,s0,H⟩:=H;have H':=qa H;clear H
    go_wp2_with(first|(refine gd 7 Tryz.func84 (spec_l1In.calls (a0.size:Int) 1 5 true _ g0.out) fun nd=>?_;have t0:0≤(0:Int):=(by omega);have v0:0<a0.size:=(by have:(0:Int)<(a0.size:Int):=qo;omega);have w0:∀h:0<a0.size,((a0[0]'h).toNat :Int)=bt a0 0:=bt_at a0 0;clear t0;have qi7:(0<(a0.size:Int))=True:=eq_true (qo);replace v0:=eq_true v0))
    go_meet
    case rel=>exact⟨_,(((bt a0 0)==48)),(sd),H',⟨by first|omega|exact Nat.le_refl _⟩,dr⟩
   ·rw[if_neg n0]at H;have p0:decide (1<(a0.size:Int))=false:=decide_eq_false n0;have q0:decide (1<a0.size)=false:=decide_eq_false (by omega);clear n0;(first|rw[p0]|(simp only[i64_w,i32_w];rw[p0])|skip);have H':=qa H;clear H
    go_wp2_with(first|(refine gd 7 Tryz.func84 (spec_l1In.calls (a0.size:Int) 1 5 true _ g0.out) fun nd=>?_))
    go_meet
    case rel=>exact⟨_,(false),(sd),H',⟨by first|omega|exact Nat.le_refl _⟩,dr⟩
  ·have H':=qa H;clear H
   go_wp2_with(first|(refine gd 7 Tryz.func84 (spec_l1In.calls (a0.size:Int) 1 5 false _ g0.out) fun nd=>?_))
   go_meet
   case rel=>exact⟨_,(true),(sd),H',⟨by first|omega|exact Nat.le_refl _⟩,dr⟩
 case rest=>
  clear b0;obtain⟨kq,d0,rfl,HA,x0,⟨mc1,rfl⟩⟩:=hcut;obtain⟨y0,rfl,H⟩:=kz kq HA;clear HA;simp only[spec_l1Digits.j0]at H;replace H:=qc H;obtain⟨rfl,H⟩|⟨rfl,H⟩:=H
  ·obtain rfl:=sj H;go_wp2;go_ret;exact⟨sd,dr⟩
  ·have H':=qa H;clear H;go_wp2
   go_loopg [3,4] y0 (fun kq A0 B0 w'=>∃(C0:Int) (D0:Int),A0= .int .i64 C0∧B0= .int .i64 D0∧Aside0 (spec_l1Digits.l0 kq a0 C0 D0=some r)∧Aside0 (kq≤y0)∧Drawn0 w w')
   case atStart=>exact⟨(0),(0),(sd),(sd),H',⟨Nat.le_refl _⟩,dr⟩
   case round=>
    clear H';obtain⟨C0,D0,rfl,rfl,HA,HK2,⟨m2,rfl⟩⟩:=hrel;obtain⟨k2,rfl,H⟩:=kz gk HA;clear HA;simp only[spec_l1Digits.l0]at H;replace H:=qe H;obtain⟨E0,H⟩|⟨E0,H⟩:=H
    ·replace H:=qd H;obtain⟨G0,H⟩:=H;replace H:=qe H;obtain⟨J0,H⟩|⟨J0,H⟩:=H
     ·obtain rfl:=sj H;have K0:0≤(D0:Int):=qo;have L0:D0<(a0.size:Int):=qo;have M0:=bt_at a0 D0;replace K0:=eq_true K0;replace L0:=eq_true L0;go_wp2;go_ret;exact⟨sd,dr⟩
     ·replace H:=qg H;obtain⟨N0,H⟩|⟨N0,H⟩:=H
      ·obtain rfl:=sj H;have K0:0≤(D0:Int):=qo;have L0:D0<(a0.size:Int):=qo;have M0:=bt_at a0 D0;replace K0:=eq_true K0;replace L0:=eq_true L0;have P0:0≤(D0:Int):=qo;have Q0:D0<(a0.size:Int):=qo;have R0:=bt_at a0 D0;replace P0:=eq_true P0;replace Q0:=eq_true Q0;go_wp2;go_ret;exact⟨sd,dr⟩
      ·have H':=qa H;clear H;have K0:0≤(D0:Int):=qo;have L0:D0<(a0.size:Int):=qo;have M0:=bt_at a0 D0;replace K0:=eq_true K0;replace L0:=eq_true L0;have P0:0≤(D0:Int):=qo;have Q0:D0<(a0.size:Int):=qo;have R0:=bt_at a0 D0;replace P0:=eq_true P0;replace Q0:=eq_true Q0;have U0:0≤(D0:Int):=qo;have V0:D0<(a0.size:Int):=qo;have W0:=bt_at a0 D0;replace U0:=eq_true U0;replace V0:=eq_true V0;go_wp2
       go_roundg k2
       case measure=>have:=x0.out;have:=HK2.out;omega
       case rel=>exact⟨(wrap64 ((wrap64 (10*C0))+(((bt a0 D0)-48)%256))),(wrap64 (D0+1)),(sd),(sd),H',⟨by have:=x0.out;have:=HK2.out;omega⟩,dr⟩
    ·obtain rfl:=sj H;go_wp2;go_ret;exact⟨sd,dr⟩
mutual
def spec_l1Number.j0:Nat→Int→Bool→Option (ByteArray)
 |0,_,_=>none
 |k+1,a0,b0=>if b0=true then(some (⟨#[45,57,50,50,51,51,55,50,48,51,54,56,53,52,55,55,53,56,48,56]⟩:ByteArray))else(if a0<0 then((spec_l1Number.f k (wrap64 (-a0))).bind fun c0=>(if 1+c0.size≤9223372036854775807 then(some ((⟨#[45]⟩:ByteArray)++c0))else(none)))else(if a0<10 then(some (strOfNums (([(wrap64 (48+a0))%256]:List Int))))else((spec_l1Number.f k (wrap64 (Int.tdiv a0 10))).bind fun d0=>((some (([(wrap64 (48+(Int.tmod a0 10)))%256]:List Int):List Int)).bind fun e0=>(if d0.size+(strOfNums e0).size ≤9223372036854775807 then(some (d0++(strOfNums e0)))else(none))))))
def spec_l1Number.f:Nat→Int→Option (ByteArray)
 |0,_=>none
 |k+1,g0=>if g0<0 then(spec_l1Number.j0 k g0 (g0==(wrap64 (-g0))))else(spec_l1Number.j0 k g0 false)
end

def spec_l1Number.T7:Bool×List (List Nat×List Nat):=(true,[([],[]),([0],[0]),([1],[1]),([],[]),([3],[3]),([4],[4]),([5],[5]),([6],[6]),([7],[7]),([2,8],[2,8]),([9,2,0,1,2,3,4,5,6,7,8,9],[9])])
def spec_l1Number.B7:List Nat:=[0,1,3,0,8,24,56,120,248,511,1023]
theorem spec_l1Number.tab7:rtab .any (opsOf Tryz.f82 7)=spec_l1Number.T7:=by kernel_rfl
theorem spec_l1Number.bits7:waitsOk spec_l1Number.T7.2 spec_l1Number.B7=true:=by kernel_rfl
set_option maxHeartbeats 8000000 in
set_option maxRecDepth 100000 in
theorem spec_l1Number.calls (k:Nat):∀(a0:Int) (r:ByteArray) (w:World) (h:spec_l1Number.f k a0=some r),
  Calls Tryz.prog 82 #[.int .i64 a0] w fun e w'=>e= .returned (.string r)∧Below w.heap.size w w':=by
 induction k using Nat.strongRecOn with
 |_ k ih=>
 intro a0 r w h
 cases k with
 |zero=>exact absurd h (by simp[spec_l1Number.f])
 |succ k=>
 simp only[spec_l1Number.f]at h;have HB:=qa (Below.refl w.heap.size w);have H:(if a0<0 then(spec_l1Number.j0 k a0 (a0==(wrap64 (-a0))))else(spec_l1Number.j0 k a0 false))=some r:=h;clear h;have b0:=qa H;clear H
 go_enter Tryz.func82,Tryz.ntmps82
 go_upto_region 1 with(fail)
 go_cut [10] (fun c0 wc=>∃(kq:Nat) (d0:Bool),c0= .bool d0∧Aside0 (spec_l1Number.j0 kq a0 d0=some r)∧Aside0 (kq≤k)∧Aside0 (Below w.heap.size w wc))
 case first=>
  have H:=b0.out;clear b0;replace H:=qe H;obtain⟨e0,H⟩|⟨e0,H⟩:=H
  ·(first|rw[e0]|(simp only[i64_w,i32_w];rw[e0])|skip);have H':=qa H;clear H;go_wp2;go_meet
   case rel=>exact⟨_,((a0==(wrap64 (-a0)))),(sd),H',⟨by first|omega|exact Nat.le_refl _⟩,⟨bl⟩⟩
  ·(first|rw[e0]|(simp only[i64_w,i32_w];rw[e0])|skip);have H':=qa H;clear H;go_wp2;go_meet
   case rel=>exact⟨_,(false),(sd),H',⟨by first|omega|exact Nat.le_refl _⟩,⟨bl⟩⟩
 case rest=>
  clear b0;obtain⟨kq,d0,rfl,HA,g0,HB⟩:=hcut;obtain⟨l0,rfl,H⟩:=kz kq HA;clear HA;simp only[spec_l1Number.j0]at H;replace H:=qc H;obtain⟨rfl,H⟩|⟨rfl,H⟩:=H
  ·obtain rfl:=sj H;go_wp2;go_ret;exact⟨er,bl⟩
  ·replace H:=qe H;obtain⟨n0,H⟩|⟨n0,H⟩:=H
   ·replace H:=qb H;obtain⟨p0,q0,H⟩:=H;replace H:=qN H;obtain⟨r0,s0,t0,v0,H⟩:=H;obtain rfl:=sj H
    go_wp2_with(first|(refine gb 15 Tryz.func82 (ih l0 (by have:=g0.out;omega) (wrap64 (-a0)) p0 _ q0.out) fun w0 hb=>?_;replace HB:=bs hb))
    go_ret;exact⟨er,bl⟩
   ·replace H:=qe H;obtain⟨x0,H⟩|⟨x0,H⟩:=H
    ·obtain⟨y0,A0⟩:∃y_:List Int,y_=(([(wrap64 (48+a0))%256]:List Int)):=⟨_,rfl⟩;(replace H:(some (strOfNums y0))=some r:=by first|(rw[A0];with_reducible exact H)|(have H2_:=(Option.bind_some _ _).symm.trans H;rw[A0];with_reducible exact H2_)|(have H2_:=(Option.bind_some _ _).symm.trans H;with_reducible exact H2_)|with_reducible exact H|(rw[A0];exact H)|exact H);have B0:=qa A0;clear A0;obtain rfl:=sj H
     go_wp2_with(first|((with_reducible refine gate_dst (N:=22) rfl ?_);refine Kd.R_lit (Kd.int .u8) _ 5 ?hg (N:=22) ?hd (xs:=([(wrap64 (48+a0))%256]:List Int)) (inner:=[.int .u8 ((wrap64 (48+a0))%256)]) (ok:=fun _=>True) (okp:=fun _=>True) ?hr ?hp (fun _ hk=>hk) trivial (Below.refl _ _) (Nat.le_refl _) (by simp) ?_;(case hd=>rfl);(case hg=>rfl);(case hr=>exact gr);(case hp=>exact(Reps.one (show Kd.M (Kd.int .u8) _ _ _ ((wrap64 (48+a0))%256) [.int .u8 ((wrap64 (48+a0))%256)]from rfl) (Reps.none _ _)));intro C0 D0 E0 hb hg_ hnew_;clear hg_ hnew_;(first|rw[←B0.out]at E0|(simp only[Int.reduceToNat]at E0;rw[←B0.out]at E0));have G0:=qa (Kd.R_lower E0 (below_size (bl)));replace HB:=bs hb;clear hb E0;have J0:=own_string (P:=Tryz.prog) Tryz.underlying34 Tryz.underlying5 Tryz.underlying9 (Kd.own_of_R G0.out)))
     go_ret;exact⟨er,bl⟩
    ·replace H:=qb H;obtain⟨K0,L0,H⟩:=H;replace H:=qs H;obtain⟨M0,N0,H⟩:=H
     by_cases P0:K0.size+(strOfNums M0).size ≤9223372036854775807
     ·rw[if_pos P0]at H;have Q0:=eq_true P0;have R0:decide (K0.size+(strOfNums M0).size ≤9223372036854775807)=true:=decide_eq_true P0
      try have U0:(9223372036854775807<K0.size+(strOfNums M0).size)=False:=eq_false (Nat.not_lt.2 P0)
      obtain rfl:=sj H
      try go_wp2
      replace HB:=qa (below_drew1 HB.out);refine start_ (n:=11) (S:=fun w'=>True) (ds:=[]) #[false,false,false,false,false,false,false,false,false,false,false] (by kernel_rfl) rfl rfl trivial (fun hHeld=>?_);refine with_tabW spec_l1Number.tab7 spec_l1Number.bits7 (fun HT_ HW_=>?_);generalize wc.drew=V0 at HB hHeld ⊢;refine pur 0 24 #[true,false,false,false,false,false,false,false,false,false,false] HT_ ?_;refine pur 1 25 #[true,true,false,false,false,false,false,false,false,false,false] HT_ ?_;refine pur 3 27 #[true,true,false,true,false,false,false,false,false,false,false] HT_ ?_;refine pur 4 28 #[true,true,false,true,true,false,false,false,false,false,false] HT_ ?_;refine pur 5 29 #[true,true,false,true,true,true,false,false,false,false,false] HT_ ?_;refine pur 6 30 #[true,true,false,true,true,true,true,false,false,false,false] HT_ ?_;refine join_ (σ:=Value) 2 #[true,true,true,true,true,true,true,true,true,false,false] (fun s_=>[(26,.string K0),(31,s_),(32,.string (strOfNums M0))]) (fun s_ w'=>(Kd.R (Kd.int .u8) 5 w' w.heap.size (fun _=>True) s_ M0)∧(Below w.heap.size w w')) ?_ ?_;rotate_left
      ·intro hCont;refine two_ (i:=2) (j:=7) (Ni:=some 26) (Nj:=some 31) #[true,true,true,true,true,true,true,false,false,false,false] #[true,true,false,true,true,true,true,true,false,false,false] rfl rfl rfl rfl (two_of HT_.out (by kernel_rfl)) (by decide) (by decide) (fun K hK=>?_) (fun K hK=>?_)
       ·skip
        refine goes_ Tryz.func82 (by kernel_rfl) rfl #[.int .i64 (wrap64 (Int.tdiv a0 10))] (by rfl) rfl rfl am ?_
        with_reducible refine(ih l0 (by have:=g0.out;omega) (wrap64 (Int.tdiv a0 10)) K0 _ L0.out).mono ?_
        rintro e W0 ⟨rfl,hb⟩;refine⟨_,rfl,?_⟩;replace HB:=bs hb;(try clear hb);(try clear X0);(try clear hk);(try clear hi);refine hK.out _ _ trivial (fun hHeld=>?_);clear hK K;refine norm_ (a':=?_) ?_ ?_;rotate_left
        ·show Act.put _ (some 26) _=_;simp only[Act.put,List.setIfInBounds_toArray,List.set_cons_zero,List.set_cons_succ,i64_w,i32_w]
         rfl
        refine one_ (i:=7) (N:=some 31) #[true,true,true,true,true,true,true,true,false,false,false] rfl rfl (one_of HT_.out (by kernel_rfl)) (by decide) (fun K hK=>?_);refine Kd.R_lit_step (Kd.int .u8) _ 5 ?hg (N:=31) ?hd (xs:=([(wrap64 (48+(Int.tmod a0 10)))%256]:List Int)) (inner:=[.int .u8 ((wrap64 (48+(Int.tmod a0 10)))%256)]) (ok:=fun _=>True) (okp:=fun _=>True) ?hr ?hp (fun _ hk=>hk) trivial (Below.refl _ _) (Nat.le_refl _) (by simp) ?_;(case hd=>rfl);(case hg=>rfl);(case hr=>exact gr);(case hp=>exact(Reps.one (show Kd.M (Kd.int .u8) _ _ _ ((wrap64 (48+(Int.tmod a0 10)))%256) [.int .u8 ((wrap64 (48+(Int.tmod a0 10)))%256)]from rfl) (Reps.none _ _)));intro Y0 a1 b1 hb hg_ hnew_;clear hg_ hnew_;(first|rw[←N0.out]at b1|(simp only[Int.reduceToNat]at b1;rw[←N0.out]at b1));have c1:=qa (Kd.R_lower b1 (below_size (bl)));replace HB:=bs hb;clear hb b1;refine hK.out _ _ trivial (fun hHeld=>?_);clear hK K;refine norm_ (a':=?_) ?_ ?_;rotate_left
        ·show Act.put _ (some 31) _=_;simp only[Act.put,List.setIfInBounds_toArray,List.set_cons_zero,List.set_cons_succ,i64_w,i32_w]
         rfl
        refine one_ (i:=8) (N:=some 32) #[true,true,true,true,true,true,true,true,true,false,false] rfl rfl (one_of HT_.out (by kernel_rfl)) (by decide) (fun K hK=>?_);have d1:=own_string (P:=Tryz.prog) Tryz.underlying34 Tryz.underlying5 Tryz.underlying9 (Kd.own_of_R c1.out);refine value_ (w1:=?_) (v:=?_) (by rfl) rfl ?_ ?_;rotate_left 2
        ·go_simp
         constructor
         ·rfl
         ·rfl
        clear d1;refine hK.out _ _ trivial (fun hHeld=>?_);clear hK K;refine norm_ (a':=?_) ?_ ?_;rotate_left
        ·show Act.put _ (some 32) _=_;simp only[Act.put,List.setIfInBounds_toArray,List.set_cons_zero,List.set_cons_succ,i64_w,i32_w]
         rfl
        exact norm_ z60_ (hCont (Y0) _ ⟨(kR c1),(bl)⟩)
       ·skip
        refine Kd.R_lit_step (Kd.int .u8) _ 5 ?hg (N:=31) ?hd (xs:=([(wrap64 (48+(Int.tmod a0 10)))%256]:List Int)) (inner:=[.int .u8 ((wrap64 (48+(Int.tmod a0 10)))%256)]) (ok:=fun _=>True) (okp:=fun _=>True) ?hr ?hp (fun _ hk=>hk) trivial (Below.refl _ _) (Nat.le_refl _) (by simp) ?_;(case hd=>rfl);(case hg=>rfl);(case hr=>exact gr);(case hp=>exact(Reps.one (show Kd.M (Kd.int .u8) _ _ _ ((wrap64 (48+(Int.tmod a0 10)))%256) [.int .u8 ((wrap64 (48+(Int.tmod a0 10)))%256)]from rfl) (Reps.none _ _)));intro Y0 W0 e1 hb hg_ hnew_;clear hg_ hnew_;(first|rw[←N0.out]at e1|(simp only[Int.reduceToNat]at e1;rw[←N0.out]at e1));have c1:=qa (Kd.R_lower e1 (below_size (bl)));replace HB:=bs hb;clear hb e1;refine hK.out _ _ trivial (fun hHeld=>?_);clear hK K;refine norm_ (a':=?_) ?_ ?_;rotate_left
        ·show Act.put _ (some 31) _=_;simp only[Act.put,List.setIfInBounds_toArray,List.set_cons_zero,List.set_cons_succ,i64_w,i32_w]
         rfl
        refine two_ (i:=2) (j:=8) (Ni:=some 26) (Nj:=some 32) #[true,true,true,true,true,true,true,true,false,false,false] #[true,true,false,true,true,true,true,true,true,false,false] rfl rfl rfl rfl (two_of HT_.out (by kernel_rfl)) (by decide) (by decide) (fun K hK=>?_) (fun K hK=>?_)
        ·skip
         refine goes_ Tryz.func82 (by kernel_rfl) rfl #[.int .i64 (wrap64 (Int.tdiv a0 10))] (by rfl) rfl rfl am ?_
         with_reducible refine(ih l0 (by have:=g0.out;omega) (wrap64 (Int.tdiv a0 10)) K0 _ L0.out).mono ?_
         rintro e g1 ⟨rfl,hb⟩;refine⟨_,rfl,?_⟩;replace c1:=qa (Kd.R_below (kR c1) hb);replace HB:=bs hb;(try clear hb);(try clear X0);(try clear hk);(try clear hi);refine hK.out _ _ trivial (fun hHeld=>?_);clear hK K;refine norm_ (a':=?_) ?_ ?_;rotate_left
         ·show Act.put _ (some 26) _=_;simp only[Act.put,List.setIfInBounds_toArray,List.set_cons_zero,List.set_cons_succ,i64_w,i32_w]
          rfl
         refine one_ (i:=8) (N:=some 32) #[true,true,true,true,true,true,true,true,true,false,false] rfl rfl (one_of HT_.out (by kernel_rfl)) (by decide) (fun K hK=>?_);have d1:=own_string (P:=Tryz.prog) Tryz.underlying34 Tryz.underlying5 Tryz.underlying9 (Kd.own_of_R c1.out);refine value_ (w1:=?_) (v:=?_) (by rfl) rfl ?_ ?_;rotate_left 2
         ·go_simp
          constructor
          ·rfl
          ·rfl
         clear d1;refine hK.out _ _ trivial (fun hHeld=>?_);clear hK K;refine norm_ (a':=?_) ?_ ?_;rotate_left
         ·show Act.put _ (some 32) _=_;simp only[Act.put,List.setIfInBounds_toArray,List.set_cons_zero,List.set_cons_succ,i64_w,i32_w]
          rfl
         exact norm_ z60_ (hCont (Y0) _ ⟨(kR c1),(bl)⟩)
        ·skip
         have j1:=own_string (P:=Tryz.prog) Tryz.underlying34 Tryz.underlying5 Tryz.underlying9 (Kd.own_of_R c1.out);refine value_ (w1:=?_) (v:=?_) (by rfl) rfl ?_ ?_;rotate_left 2
         ·go_simp
          constructor
          ·rfl
          ·rfl
         clear j1;refine hK.out _ _ trivial (fun hHeld=>?_);clear hK K;refine norm_ (a':=?_) ?_ ?_;rotate_left
         ·show Act.put _ (some 32) _=_;simp only[Act.put,List.setIfInBounds_toArray,List.set_cons_zero,List.set_cons_succ,i64_w,i32_w]
          rfl
         refine one_ (i:=2) (N:=some 26) #[true,true,true,true,true,true,true,true,true,false,false] rfl rfl (one_of HT_.out (by kernel_rfl)) (by decide) (fun K hK=>?_);refine goes_ Tryz.func82 (by kernel_rfl) rfl #[.int .i64 (wrap64 (Int.tdiv a0 10))] (by rfl) rfl rfl am ?_
         with_reducible refine(ih l0 (by have:=g0.out;omega) (wrap64 (Int.tdiv a0 10)) K0 _ L0.out).mono ?_
         rintro e l1 ⟨rfl,hb⟩;refine⟨_,rfl,?_⟩;replace c1:=qa (Kd.R_below (kR c1) hb);replace HB:=bs hb;(try clear hb);(try clear X0);(try clear hk);(try clear hi);refine hK.out _ _ trivial (fun hHeld=>?_);clear hK K;refine norm_ (a':=?_) ?_ ?_;rotate_left
         ·show Act.put _ (some 26) _=_;simp only[Act.put,List.setIfInBounds_toArray,List.set_cons_zero,List.set_cons_succ,i64_w,i32_w]
          rfl
         exact norm_ z60_ (hCont (Y0) _ ⟨(kR c1),(bl)⟩)
      rintro Y0 n1 ⟨h0_,h1_⟩;have n0_:Aside0 (Kd.R (Kd.int .u8) 5 n1 w.heap.size (fun _=>True) Y0 M0):=⟨h0_⟩;have n1_:Aside0 (Below w.heap.size w n1):=⟨h1_⟩;clear HB;clear h0_ h1_;have c1:=n0_;have HB:=n1_;clear n0_ n1_;have hHeld:=trivial;refine norm_ (a':=?_) ?_ ?_;rotate_left
      ·simp only[putAll,Act.put,List.setIfInBounds_toArray,List.set_cons_zero,List.set_cons_succ]
       rfl
      refine pur 9 33 #[true,true,true,true,true,true,true,true,true,true,false] HT_ ?_;refine pur 10 2 #[true,true,true,true,true,true,true,true,true,true,true] HT_ ?_;refine done_ (done_of HT_.out (by kernel_rfl)) ?_
      try go_wp2
      go_ret;exact⟨er,bl⟩
     ·rw[if_neg P0]at H;exact absurd H (by simp)
attribute [local go_sem high] eqA55
mutual
def spec_DeedText.j0:Nat→Bool→Int→Int→Int→Option (ByteArray)
 |0,_,_,_,_=>none
 |k+1,a0,b0,c0,d0=>if a0=true then((spec_l1Number.f k c0).bind fun e0=>(if 6+e0.size≤9223372036854775807 then(some ((⟨#[116,105,109,101,115,32]⟩:ByteArray)++e0))else(none)))else(if b0=1 then((spec_l1In.f c0 0 9).bind fun g0=>(if g0=true then(spec_DeedText.j1 k (d0==0) b0 c0 d0)else(spec_DeedText.j1 k false b0 c0 d0)))else(spec_DeedText.j1 k false b0 c0 d0))
def spec_DeedText.j1:Nat→Bool→Int→Int→Int→Option (ByteArray)
 |0,_,_,_,_=>none
 |k+1,l0,b0,c0,d0=>if l0=true then((spec_l1Number.f k c0).bind fun n0=>(if 8+n0.size≤9223372036854775807 then(some ((⟨#[117,110,105,116,97,114,121,32]⟩:ByteArray)++n0))else(none)))else(if(b0==2&&(c0==0&&(d0==0)))=true then(some (⟨#[105,110,118,101,114,115,101]⟩:ByteArray))else(if b0=3 then((spec_l1In.f c0 0 99).bind fun p0=>(if p0=true then((spec_l1In.f d0 0 9999).bind fun q0=>(spec_DeedText.j2 k q0 b0 c0 d0))else(spec_DeedText.j2 k false b0 c0 d0)))else(spec_DeedText.j2 k false b0 c0 d0)))
def spec_DeedText.j2:Nat→Bool→Int→Int→Int→Option (ByteArray)
 |0,_,_,_,_=>none
 |k+1,r0,b0,c0,d0=>if r0=true then((spec_l1Number.f k c0).bind fun s0=>(if 4+s0.size≤9223372036854775807 then(if((⟨#[115,101,116,32]⟩:ByteArray)++s0).size +1≤9223372036854775807 then((spec_l1Number.f k d0).bind fun t0=>(if(((⟨#[115,101,116,32]⟩:ByteArray)++s0)++(⟨#[32]⟩:ByteArray)).size +t0.size≤9223372036854775807 then(some ((((⟨#[115,101,116,32]⟩:ByteArray)++s0)++(⟨#[32]⟩:ByteArray))++t0))else(none)))else(none))else(none)))else(if(b0==4&&(c0==0&&(d0==0)))=true then(some (⟨#[98,97,99,107]⟩:ByteArray))else(some (⟨#[]⟩:ByteArray)))
end

def spec_DeedText.f (k:Nat) (a0:Int) (b0:Int) (c0:Int):Option (ByteArray):=if a0=0 then((spec_l1In.f b0 0 9).bind fun d0=>(if d0=true then(spec_DeedText.j0 k (c0==0) a0 b0 c0)else(spec_DeedText.j0 k false a0 b0 c0)))else(spec_DeedText.j0 k false a0 b0 c0)
def spec_DeedText.T8:Bool×List (List Nat×List Nat):=(true,[([],[]),([0],[0]),([1],[1]),([2],[2]),([3],[3]),([],[]),([5],[5]),([6,2],[6]),([4,7],[4,7]),([8,7,0,1,2,3,4,5,6,7,8],[8])])
def spec_DeedText.B8:List Nat:=[0,1,3,7,15,0,32,103,255,511]
theorem spec_DeedText.tab8:rtab .any (opsOf Tryz.f79 8)=spec_DeedText.T8:=by kernel_rfl
theorem spec_DeedText.bits8:waitsOk spec_DeedText.T8.2 spec_DeedText.B8=true:=by kernel_rfl
set_option maxHeartbeats 8000000 in
set_option maxRecDepth 100000 in
theorem spec_DeedText.calls (k:Nat) (a0:Int) (b0:Int) (c0:Int) (r:ByteArray) (w:World) (h:spec_DeedText.f k a0 b0 c0=some r):
  Calls Tryz.prog 79 #[.agg #[.int .i64 a0,.int .i64 b0,.int .i64 c0]] w fun e w'=>e= .returned (.string r)∧Below w.heap.size w w':=by
 have d0:=Tryz.underlying55;have HB:=qa (Below.refl w.heap.size w);have H:=h;unfold spec_DeedText.f at H;clear h;have e0:=qa H;clear H
 go_enter Tryz.func79,Tryz.ntmps79
 go_upto_region 1 with(go_big_may;first|(refine bx 1 #[.int .i64 a0,.int .i64 b0,.int .i64 c0] 55 ?_;intro g0 hg l0 hbox hb;have n0:=qa (hbox);have p0:=gw hg;have q0:=gw hg;replace HB:=bs hb;clear hb hbox hg))
 (try simp only[Act.put,List.setIfInBounds_toArray,List.set_cons_zero,List.set_cons_succ])
 go_cut [3] (fun r0 wc=>∃(kq:Nat) (t0:Bool),r0= .bool t0∧Aside0 (spec_DeedText.j0 kq t0 a0 b0 c0=some r)∧Aside0 (kq≤k)∧Aside0 (wc.heap[g0]? =some (.cells #[.int .i64 a0,.int .i64 b0,.int .i64 c0] 55 (0,0)))∧Aside0 (Below w.heap.size w wc))
 case first=>
  have H:=e0.out;clear e0;replace H:=qq H;obtain⟨v0,w0,H⟩|⟨x0,v0,w0,H⟩:=H
  ·(first|rw[v0]|(simp only[i64_w,i32_w];rw[v0])|skip);replace H:=qb H;obtain⟨y0,A0,H⟩:=H;replace H:=qc H;obtain⟨rfl,H⟩|⟨rfl,H⟩:=H
   ·have H':=qa H;clear H;obtain⟨B0,C0,D0,E0,G0,J0⟩:=qk3 n0
    go_wp2_with(first|(go_at_call 84;(with_reducible refine gm (spec_l1In.calls b0 0 9 true _ A0.out) fun nd=>?_)))
    go_meet
    case rel=>exact⟨_,((c0==0)),(sd),H',⟨by first|omega|exact Nat.le_refl _⟩,⟨bk⟩,⟨bl⟩⟩
   ·have H':=qa H;clear H;obtain⟨K0,L0,M0,N0,P0,Q0⟩:=qk3 n0
    go_wp2_with(first|(go_at_call 84;(with_reducible refine gm (spec_l1In.calls b0 0 9 false _ A0.out) fun nd=>?_)))
    go_meet
    case rel=>exact⟨_,(false),(sd),H',⟨by first|omega|exact Nat.le_refl _⟩,⟨bk⟩,⟨bl⟩⟩
  ·(first|rw[v0]|(simp only[i64_w,i32_w];rw[v0])|skip);have H':=qa H;clear H;obtain⟨R0,U0,V0,W0,X0,Y0⟩:=qk3 n0;go_wp2;go_meet
   case rel=>exact⟨_,(false),(sd),H',⟨by first|omega|exact Nat.le_refl _⟩,⟨bk⟩,⟨bl⟩⟩
 case rest=>
  clear e0;obtain⟨kq,t0,rfl,HA,a1,n0,HB⟩:=hcut;obtain⟨b1,rfl,H⟩:=kz kq HA;clear HA;simp only[spec_DeedText.j0]at H;replace H:=qc H;obtain⟨rfl,H⟩|⟨rfl,H⟩:=H
  ·replace H:=qb H;obtain⟨c1,d1,H⟩:=H;replace H:=qN H;obtain⟨e1,g1,l1,n1,H⟩:=H;obtain rfl:=sj H;obtain⟨p1,q1,r1,t1,v1,w1⟩:=qk3 n0
   go_wp2_with(first|(refine gb 19 Tryz.func82 (spec_l1Number.calls b1 b0 c1 _ d1.out) fun x1 hb=>?_;replace n0:=qbb n0 hb;replace HB:=bs hb))
   go_ret;exact⟨er,bl⟩
  ·have y1:=qa H;clear H
   go_upto_region 3 with(fail)
   go_cut [21] (fun A1 wc=>∃(kq:Nat) (B1:Bool),A1= .bool B1∧Aside0 (spec_DeedText.j1 kq B1 a0 b0 c0=some r)∧Aside0 (kq≤b1)∧Aside0 (wc.heap[g0]? =some (.cells #[.int .i64 a0,.int .i64 b0,.int .i64 c0] 55 (0,0)))∧Aside0 (Below w.heap.size w wc))
   case first=>
    have H:=y1.out;clear y1;replace H:=qq H;obtain⟨C1,D1,H⟩|⟨E1,C1,D1,H⟩:=H
    ·(first|rw[C1]|(simp only[i64_w,i32_w];rw[C1])|skip);replace H:=qb H;obtain⟨G1,J1,H⟩:=H;replace H:=qc H;obtain⟨rfl,H⟩|⟨rfl,H⟩:=H
     ·have H':=qa H;clear H;obtain⟨K1,L1,M1,N1,P1,Q1⟩:=qk3 n0
      go_wp2_with(first|(go_at_call 84;(with_reducible refine gm (spec_l1In.calls b0 0 9 true _ J1.out) fun nd=>?_)))
      go_meet
      case rel=>exact⟨_,((c0==0)),(sd),H',⟨z58_⟩,⟨bk⟩,⟨bl⟩⟩
     ·have H':=qa H;clear H;obtain⟨R1,U1,V1,W1,X1,Y1⟩:=qk3 n0
      go_wp2_with(first|(go_at_call 84;(with_reducible refine gm (spec_l1In.calls b0 0 9 false _ J1.out) fun nd=>?_)))
      go_meet
      case rel=>exact⟨_,(false),(sd),H',⟨z58_⟩,⟨bk⟩,⟨bl⟩⟩
    ·(first|rw[C1]|(simp only[i64_w,i32_w];rw[C1])|skip);have H':=qa H;clear H;obtain⟨a2,b2,c2,d2,e2,g2⟩:=qk3 n0;go_wp2;go_meet
     case rel=>exact⟨_,(false),(sd),H',⟨z58_⟩,⟨bk⟩,⟨bl⟩⟩
   case rest=>
    clear y1;obtain⟨kq,B1,rfl,HA,l2,n0,HB⟩:=hcut;obtain⟨n2,rfl,H⟩:=kz kq HA;clear HA;simp only[spec_DeedText.j1]at H;replace H:=qc H;obtain⟨rfl,H⟩|⟨rfl,H⟩:=H
    ·replace H:=qb H;obtain⟨p2,q2,H⟩:=H;replace H:=qN H;obtain⟨r2,t2,v2,w2,H⟩:=H;obtain rfl:=sj H;obtain⟨x2,y2,A2,B2,C2,D2⟩:=qk3 n0
     go_wp2_with(first|(refine gb 37 Tryz.func82 (spec_l1Number.calls n2 b0 p2 _ q2.out) fun E2 hb=>?_;replace n0:=qbb n0 hb;replace HB:=bs hb))
     go_ret;exact⟨er,bl⟩
    ·by_cases G2:(a0==2&&(b0==0&&(c0==0)))=true
     ·rw[if_pos G2]at H;have J2:(a0==2&&(b0==0&&(c0==0)))=true:=G2;(try(have K2:decide (a0=2&&(b0==0&&(c0==0)))=true:=by simpa using G2));(try(have L2:(a0==2&&(b0==0&&(c0==0)))=true:=by simpa using G2));clear G2;obtain rfl:=sj H;obtain⟨M2,N2,P2,Q2,R2,U2⟩:=qk3 n0;go_wp2;go_ret;exact⟨er,bl⟩
     ·rw[if_neg G2]at H;(have J2:(a0==2&&(b0==0&&(c0==0)))=false:=by simpa using G2);(try(have K2:decide (a0=2&&(b0==0&&(c0==0)))=false:=by simpa using G2));(try(have L2:(a0==2&&(b0==0&&(c0==0)))=false:=by simpa using G2));(try(have V2:¬(a0=2&&(b0==0&&(c0==0))):=by simpa using G2));clear G2;have W2:=qa H;clear H;obtain⟨X2,Y2,a3,b3,c3,d3⟩:=qk3 n0
      go_upto_region 7 with(fail)
      go_cut [43] (fun e3 wc=>∃(kq:Nat) (g3:Bool),e3= .bool g3∧Aside0 (spec_DeedText.j2 kq g3 a0 b0 c0=some r)∧Aside0 (kq≤n2)∧Aside0 (wc.heap[g0]? =some (.cells #[.int .i64 a0,.int .i64 b0,.int .i64 c0] 55 (0,0)))∧Aside0 (Below w.heap.size w wc))
      case first=>
       have H:=W2.out;clear W2;replace H:=qq H;obtain⟨j3,l3,H⟩|⟨n3,j3,l3,H⟩:=H
       ·(first|rw[j3]|(simp only[i64_w,i32_w];rw[j3])|skip);replace H:=qb H;obtain⟨p3,q3,H⟩:=H;replace H:=qc H;obtain⟨rfl,H⟩|⟨rfl,H⟩:=H
        ·replace H:=qb H;obtain⟨r3,s3,H⟩:=H;have H':=qa H;clear H;obtain⟨t3,v3,w3,x3,y3,A3⟩:=qk3 n0
         go_wp2_with(first|(go_at_call 84;(with_reducible refine gm (spec_l1In.calls b0 0 99 true _ q3.out) fun nd=>?_))|(go_at_call 84;(with_reducible refine gm (spec_l1In.calls c0 0 9999 r3 _ s3.out) fun nd=>?_)))
         go_meet
         case rel=>exact⟨_,(r3),(sd),H',⟨by have:=a1.out;have:=l2.out;first|omega|exact Nat.le_refl _⟩,⟨bk⟩,⟨bl⟩⟩
        ·have H':=qa H;clear H;obtain⟨B3,C3,D3,E3,G3,J3⟩:=qk3 n0
         go_wp2_with(first|(go_at_call 84;(with_reducible refine gm (spec_l1In.calls b0 0 99 false _ q3.out) fun nd=>?_)))
         go_meet
         case rel=>exact⟨_,(false),(sd),H',⟨by have:=a1.out;have:=l2.out;first|omega|exact Nat.le_refl _⟩,⟨bk⟩,⟨bl⟩⟩
       ·(first|rw[j3]|(simp only[i64_w,i32_w];rw[j3])|skip);have H':=qa H;clear H;obtain⟨K3,L3,M3,N3,P3,Q3⟩:=qk3 n0;go_wp2;go_meet
        case rel=>exact⟨_,(false),(sd),H',⟨by have:=a1.out;have:=l2.out;first|omega|exact Nat.le_refl _⟩,⟨bk⟩,⟨bl⟩⟩
      case rest=>
       clear W2;obtain⟨kq,g3,rfl,HA,R3,n0,HB⟩:=hcut;obtain⟨U3,rfl,H⟩:=kz kq HA;clear HA;simp only[spec_DeedText.j2]at H;replace H:=qc H;obtain⟨rfl,H⟩|⟨rfl,H⟩:=H
       ·replace H:=qb H;obtain⟨V3,W3,H⟩:=H;replace H:=qN H;obtain⟨X3,Y3,a4,b4,H⟩:=H;replace H:=qN H;obtain⟨c4,d4,e4,g4,H⟩:=H
        try(have c41bq:=g4;simp only[ByteArray.size_append,show(⟨#[115,101,116,32]⟩:ByteArray).size =4 from rfl]at c41bq)
        replace H:=qb H;obtain⟨j4,l4,H⟩:=H;replace H:=qN H;obtain⟨n4,p4,q4,r4,H⟩:=H
        try(have c43bq:=r4;simp only[ByteArray.size_append,show(⟨#[115,101,116,32]⟩:ByteArray).size =4 from rfl,show(⟨#[32]⟩:ByteArray).size =1 from rfl]at c43bq)
        obtain rfl:=sj H
        try go_wp2
        replace n0:=qa (blk_drew n0.out);replace HB:=qa (below_drew1 HB.out);refine start_ (n:=10) (S:=fun w'=>w'.cell? ⟨g0,0,none⟩=some (.int .i64 a0)∧w'.cell? ⟨g0,1,none⟩=some (.int .i64 b0)∧w'.cell? ⟨g0,2,none⟩=some (.int .i64 c0)) (ds:=[]) #[false,false,false,false,false,false,false,false,false,false] (by kernel_rfl) rfl rfl ⟨(blk_cell n0.out 0).trans rfl,(blk_cell n0.out 1).trans rfl,(blk_cell n0.out 2).trans rfl⟩ (fun hHeld=>?_);refine with_tabW spec_DeedText.tab8 spec_DeedText.bits8 (fun HT_ HW_=>?_);generalize wc.drew=s4 at n0 HB hHeld ⊢;refine pur 0 57 #[true,false,false,false,false,false,false,false,false,false] HT_ ?_;refine pur 5 62 #[true,false,false,false,false,true,false,false,false,false] HT_ ?_;refine take_ (i:=1) (N:=some 58) (v:=?_) (a':=?_) #[true,true,false,false,false,true,false,false,false,false] rfl rfl (take_ofW HT_.out HW_.out (by kernel_rfl)) (fun _ _ _ h=>h) (Or.inl ⟨by rfl,?_⟩) hHeld ?_ ?_;rotate_left
        ·rintro w' ⟨s0,s1,s2⟩
         go_simp
         with_reducible rfl
        rotate_left
        ·simp only[Act.put,List.setIfInBounds_toArray,List.set_cons_zero,List.set_cons_succ,i64_w,i32_w]
         rfl
        refine take_ (i:=6) (N:=some 63) (v:=?_) (a':=?_) #[true,true,false,false,false,true,true,false,false,false] rfl rfl (take_ofW HT_.out HW_.out (by kernel_rfl)) (fun _ _ _ h=>h) (Or.inl ⟨by rfl,?_⟩) hHeld ?_ ?_;rotate_left
        ·rintro w' ⟨s0,s1,s2⟩
         go_simp
         with_reducible rfl
        rotate_left
        ·simp only[Act.put,List.setIfInBounds_toArray,List.set_cons_zero,List.set_cons_succ,i64_w,i32_w]
         rfl
        refine one_ (i:=2) (N:=some 59) #[true,true,true,false,false,true,true,false,false,false] rfl rfl (one_of HT_.out (by kernel_rfl)) (by decide) (fun K hK=>?_);refine goes_ Tryz.func82 (by kernel_rfl) rfl #[.int .i64 b0] (by rfl) rfl rfl am ?_
        with_reducible refine(spec_l1Number.calls U3 b0 V3 _ W3.out).mono ?_
        rintro e t4 ⟨rfl,hb⟩;refine⟨_,rfl,?_⟩;replace n0:=qbb n0 hb;replace HB:=bs hb;(try clear hb);(try clear v4);(try clear hk);(try clear hi);refine hK.out _ _ ⟨(blk_cell n0.out 0).trans rfl,(blk_cell n0.out 1).trans rfl,(blk_cell n0.out 2).trans rfl⟩ (fun hHeld=>?_);clear hK K;refine norm_ (a':=?_) ?_ ?_;rotate_left
        ·show Act.put _ (some 59) _=_;simp only[Act.put,List.setIfInBounds_toArray,List.set_cons_zero,List.set_cons_succ,i64_w,i32_w]
         rfl
        refine pur 3 60 #[true,true,true,true,false,true,true,false,false,false] HT_ ?_;refine pur 4 61 #[true,true,true,true,true,true,true,false,false,false] HT_ ?_;refine one_ (i:=7) (N:=some 64) #[true,true,true,true,true,true,true,true,false,false] rfl rfl (one_of HT_.out (by kernel_rfl)) (by decide) (fun K hK=>?_);refine goes_ Tryz.func82 (by kernel_rfl) rfl #[.int .i64 c0] (by rfl) rfl rfl am ?_
        with_reducible refine(spec_l1Number.calls U3 c0 j4 _ l4.out).mono ?_
        rintro e w4 ⟨rfl,hb⟩;refine⟨_,rfl,?_⟩;replace n0:=qbb n0 hb;replace HB:=bs hb;(try clear hb);(try clear v4);(try clear hk);(try clear hi);refine hK.out _ _ ⟨(blk_cell n0.out 0).trans rfl,(blk_cell n0.out 1).trans rfl,(blk_cell n0.out 2).trans rfl⟩ (fun hHeld=>?_);clear hK K;refine norm_ (a':=?_) ?_ ?_;rotate_left
        ·show Act.put _ (some 64) _=_;simp only[Act.put,List.setIfInBounds_toArray,List.set_cons_zero,List.set_cons_succ,i64_w,i32_w]
         rfl
        refine pur 8 65 #[true,true,true,true,true,true,true,true,true,false] HT_ ?_;refine pur 9 2 #[true,true,true,true,true,true,true,true,true,true] HT_ ?_;refine done_ (done_of HT_.out (by kernel_rfl)) ?_
        try go_wp2
        go_ret;exact⟨er,bl⟩
       ·by_cases x4:(a0==4&&(b0==0&&(c0==0)))=true
        ·rw[if_pos x4]at H;have y4:(a0==4&&(b0==0&&(c0==0)))=true:=x4;(try(have A4:decide (a0=4&&(b0==0&&(c0==0)))=true:=by simpa using x4));(try(have B4:(a0==4&&(b0==0&&(c0==0)))=true:=by simpa using x4));clear x4;obtain rfl:=sj H;obtain⟨C4,D4,E4,G4,J4,K4⟩:=qk3 n0;go_wp2;go_ret;exact⟨er,bl⟩
        ·rw[if_neg x4]at H;(have y4:(a0==4&&(b0==0&&(c0==0)))=false:=by simpa using x4);(try(have A4:decide (a0=4&&(b0==0&&(c0==0)))=false:=by simpa using x4));(try(have B4:(a0==4&&(b0==0&&(c0==0)))=false:=by simpa using x4));(try(have L4:¬(a0=4&&(b0==0&&(c0==0))):=by simpa using x4));clear x4;obtain rfl:=sj H;obtain⟨M4,N4,P4,Q4,R4,U4⟩:=qk3 n0;go_wp2;go_ret;exact⟨er,bl⟩
mutual
def spec_ReadDeed.j0:Nat→ByteArray→List ByteArray→List (S55)→Option (Int×Int×Int×Bool)
 |0,_,_,_=>none
 |k+1,a0,b0,c0=>if(b0.length:Int)=3 then(if 1<(b0.length:Int)then((spec_l1Digits.f k (rdOf ByteArray.empty b0 1)).bind fun d0=>(if 2<(b0.length:Int)then((spec_l1Digits.f k (rdOf ByteArray.empty b0 2)).bind fun e0=>(if c0.length<5864062014805 then(spec_ReadDeed.j1 k a0 (c0++[(⟨3,d0,e0⟩:S55)]))else(none)))else(none)))else(none))else(spec_ReadDeed.j1 k a0 c0)
def spec_ReadDeed.j1:Nat→ByteArray→List (S55)→Option (Int×Int×Int×Bool)
 |0,_,_=>none
 |k+1,a0,c0=>spec_ReadDeed.l0 k a0 c0 0
def spec_ReadDeed.l0:Nat→ByteArray→List (S55)→Int→Option (Int×Int×Int×Bool)
 |0,_,_,_=>none
 |k+1,a0,c0,g0=>if g0<(c0.length:Int)then(if a0.toList=([]:List UInt8)then(spec_ReadDeed.l0 k a0 c0 (wrap64 (g0+1)))else(if 0≤g0 then((spec_DeedText.f k ((rd_T55 c0 g0).f0) ((rd_T55 c0 g0).f1) ((rd_T55 c0 g0).f2)).bind fun n0=>(if n0.toList=a0.toList then(some ((rd_T55 c0 g0).f0,(rd_T55 c0 g0).f1,(rd_T55 c0 g0).f2,true))else(spec_ReadDeed.l0 k a0 c0 (wrap64 (g0+1)))))else(none)))else(some (0,0,0,false))
end

def spec_ReadDeed.f (k:Nat) (a0:ByteArray):Option (Int×Int×Int×Bool):=(spec_l1Cut.f k a0 32).bind fun b0=>((some (([(⟨2,0,0⟩:S55),(⟨4,0,0⟩:S55)]:List (S55)):List (S55))).bind fun c0=>(if(b0.length:Int)=2 then(if 1<(b0.length:Int)then((spec_l1Digits.f k (rdOf ByteArray.empty b0 1)).bind fun d0=>((spec_l1Digits.f k (rdOf ByteArray.empty b0 1)).bind fun e0=>((some (([(⟨0,d0,0⟩:S55),(⟨1,e0,0⟩:S55)]:List (S55)):List (S55))).bind fun g0=>(if c0.length+g0.length<5864062014805 then(spec_ReadDeed.j0 k a0 b0 (c0++g0))else(none)))))else(none))else(spec_ReadDeed.j0 k a0 b0 c0)))
def spec_ReadDeed.T4:Bool×List (List Nat×List Nat):=(true,[([],[]),([],[]),([1],[1]),([2],[2]),([3],[3]),([4],[4]),([],[]),([6],[6]),([7],[7]),([8,4],[8]),([9],[9]),([5,10],[5,10]),([0,11,9],[0,11]),([12,12,0,1,2,3,4,5,6,7,8,9,10,11,12],[0,12])])
def spec_ReadDeed.B4:List Nat:=[0,0,2,6,14,30,0,64,192,478,990,2046,4095,8191]
theorem spec_ReadDeed.tab4:rtab .any (opsOf Tryz.f41 4)=spec_ReadDeed.T4:=by kernel_rfl
theorem spec_ReadDeed.bits4:waitsOk spec_ReadDeed.T4.2 spec_ReadDeed.B4=true:=by kernel_rfl
def spec_ReadDeed.T6:Bool×List (List Nat×List Nat):=(true,[([],[]),([],[]),([1],[1]),([2],[2]),([3],[3]),([],[]),([5],[5]),([6],[6]),([7,4],[7]),([4,8],[4,8]),([9],[9]),([0,10,8],[0,10]),([11,11,0,1,2,3,4,5,6,7,8,9,10,11],[0,11])])
def spec_ReadDeed.B6:List Nat:=[0,0,2,6,14,0,32,96,254,510,1022,2047,4095]
theorem spec_ReadDeed.tab6:rtab .any (opsOf Tryz.f41 6)=spec_ReadDeed.T6:=by kernel_rfl
theorem spec_ReadDeed.bits6:waitsOk spec_ReadDeed.T6.2 spec_ReadDeed.B6=true:=by kernel_rfl
set_option maxHeartbeats 8000000 in
set_option maxRecDepth 100000 in
theorem spec_ReadDeed.calls (k:Nat) (a0:ByteArray) (b0:Int) (c0:Int) (d0:Int) (e0:Bool) (w:World) (h:spec_ReadDeed.f k a0=some (b0,c0,d0,e0)):
  Calls Tryz.prog 41 #[.string a0] w fun e w'=>e= .returned (.tuple #[.agg #[.int .i64 b0,.int .i64 c0,.int .i64 d0],.bool e0])∧Below w.heap.size w w':=by
 have g0:=Tryz.underlying55;have HB:=qa (Below.refl w.heap.size w);have H:=h;unfold spec_ReadDeed.f at H;clear h;replace H:=qb H;obtain⟨n0,p0,H⟩:=H;replace H:=qs H;obtain⟨q0,r0,H⟩:=H;have t0:=qa H;clear H
 go_enter Tryz.func41,Tryz.ntmps41
 go_upto_if 14 with(go_big_may;first|(refine bx 2 #[.int .i64 0,.int .i64 0,.int .i64 0] 55 ?_;intro v0 hg w0 hbox hb;have x0:=qa (hbox);have y0:=gw hg;have A0:=gw hg;replace HB:=bs hb;clear hb hbox hg)|(refine ge_ 8 Tryz.func47 (spec_l1Cut.calls k a0 32 n0 _ p0.out) fun B0 C0 D0 hb=>?_;have E0:=qa (Kd.R_lower D0 (below_size (bl)));replace x0:=qbb x0 hb;replace HB:=bs hb)|((with_reducible refine gate_dst (N:=11) rfl ?_);refine Kd.R_lit k55 _ 55 ?hg (N:=11) ?hd (xs:=([(⟨2,0,0⟩:S55),(⟨4,0,0⟩:S55)]:List (S55))) (inner:=[.int .i64 2,.int .i64 0,.int .i64 0,.int .i64 4,.int .i64 0,.int .i64 0]) (ok:=fun _=>True) (okp:=fun _=>True) ?hr ?hp (fun _ hk=>hk) trivial (Below.refl _ _) (Nat.le_refl _) (by simp) ?_;(case hd=>rfl);(case hg=>rfl);(case hr=>exact gr);(case hp=>exact(Reps.c3 (show Kd.M k55 _ _ _ (⟨2,0,0⟩:S55) [.int .i64 2,.int .i64 0,.int .i64 0]from(k55_mkM _ _ _ (⟨2,0,0⟩:S55))) (Reps.c3 (show Kd.M k55 _ _ _ (⟨4,0,0⟩:S55) [.int .i64 4,.int .i64 0,.int .i64 0]from(k55_mkM _ _ _ (⟨4,0,0⟩:S55))) (Reps.none _ _))));intro G0 J0 K0 hb hg_ hnew_;clear hg_ hnew_;(first|rw[←r0.out]at K0|(simp only[Int.reduceToNat]at K0;rw[←r0.out]at K0));replace E0:=qa (Kd.R_below (kR E0) hb);have L0:=qa (Kd.R_lower (Kd.R_newB K0 (g:=v0) (o:= .cells #[.int .i64 0,.int .i64 0,.int .i64 0] 55 (0,0)) (bk)) (below_size (bl)));replace x0:=qbb x0 hb;replace HB:=bs hb;clear hb K0;obtain⟨M0,N0,rfl⟩:=Kd.R_slice E0.out))
 (try simp only[Act.put,List.setIfInBounds_toArray,List.set_cons_zero,List.set_cons_succ])
 go_cut [5] (fun P0 wc=>∃(kq:Nat) (Q0:List (S55)),Aside0 (spec_ReadDeed.j0 kq a0 n0 Q0=some (b0,c0,d0,e0))∧Aside0 (kq≤k)∧Aside0 (Kd.R Kd.string 9 wc w.heap.size (fun _=>True) (.slice M0 n0.length N0) n0)∧Aside0 (Kd.R k55 55 wc w.heap.size (fun k_=>k_≠v0) P0 Q0)∧Aside0 (wc.heap[v0]? =some (.cells #[.int .i64 0,.int .i64 0,.int .i64 0] 55 (0,0)))∧Aside0 (Below w.heap.size w wc))
 case first=>
  have H:=t0.out;clear t0;replace H:=qq H;obtain⟨R0,U0,H⟩|⟨V0,R0,U0,H⟩:=H
  ·(first|rw[R0]|(simp only[i64_w,i32_w];rw[R0])|skip);replace H:=qL 1 H;obtain⟨W0,X0,H⟩:=H;replace H:=qb H;obtain⟨Y0,a1,H⟩:=H;replace H:=qb H;obtain⟨b1,c1,H⟩:=H;replace H:=qs H;obtain⟨d1,e1,H⟩:=H;replace H:=qn H;obtain⟨g1,H⟩:=H;have l1:=qa g1;clear g1;obtain⟨n1,hy_⟩:∃y_:List (S55),y_=(q0++d1):=⟨_,rfl⟩;replace H:(spec_ReadDeed.j0 k a0 n0 n1)=some (b0,c0,d0,e0):=yh;have p1:=qa hy_;clear hy_;have H':=qa H;clear H
   try go_wp2
   replace E0:=qa (Kd.R_drew E0.out);replace L0:=qa (Kd.R_drew L0.out);replace x0:=qa (blk_drew x0.out);replace HB:=qa (below_drew1 HB.out);have q1:0≤(1:Int):=(by omega);have r1:1<(n0.length:Int):=qo;obtain⟨t1,v1,w1⟩:=Kd.at_string (Kd.R_reads' E0.out).2.2 1 q1 r1;cases v1;(try simp only[show(1:Int).toNat =1 from rfl,Nat.reduceMul,Nat.reduceEqDiff,Go.Addr.add,↓reduceIte]at w1);have qi165:(1<n0.length)=True:=eq_true (by omega);(try rw[show((1:Int)).toNat =1 from rfl]at w1);replace q1:=eq_true q1;replace r1:=eq_true r1;have x1:0≤(1:Int):=(by omega);have y1:1<(n0.length:Int):=qo;obtain⟨A1,B1,C1⟩:=Kd.at_string (Kd.R_reads' E0.out).2.2 1 x1 y1;obtain rfl:t1=A1:=(by injection B1);(try simp only[show(1:Int).toNat =1 from rfl,Nat.reduceMul,Nat.reduceEqDiff,Go.Addr.add,↓reduceIte]at C1);have qi167:(1<n0.length)=True:=eq_true (by omega);(try rw[show((1:Int)).toNat =1 from rfl]at C1);replace x1:=eq_true x1;replace y1:=eq_true y1;refine start_ (n:=14) (S:=fun w'=>w'.cell? ⟨t1.block,t1.off+1,none⟩=some (.string (rdOf ByteArray.empty n0 1))∧w'.cell? ⟨t1.block,t1.off+1,none⟩=some (.string (rdOf ByteArray.empty n0 1))) (ds:=[12]) #[false,false,false,false,false,false,false,false,false,false,false,false,false,false] (by kernel_rfl) rfl rfl ⟨w1,C1⟩ (fun hHeld=>?_);refine with_tabW spec_ReadDeed.tab4 spec_ReadDeed.bits4 (fun HT_ HW_=>?_);generalize J0.drew=D1 at E0 L0 x0 HB w1 C1 hHeld ⊢;refine pur 0 15 #[true,false,false,false,false,false,false,false,false,false,false,false,false,false] HT_ ?_;refine pur 1 16 #[true,true,false,false,false,false,false,false,false,false,false,false,false,false] HT_ ?_;refine pur 2 17 #[true,true,true,false,false,false,false,false,false,false,false,false,false,false] HT_ ?_;refine pur 6 21 #[true,true,true,false,false,false,true,false,false,false,false,false,false,false] HT_ ?_;refine pur 7 22 #[true,true,true,false,false,false,true,true,false,false,false,false,false,false] HT_ ?_;refine take_ (i:=3) (N:=some 18) (v:=?_) (a':=?_) #[true,true,true,true,false,false,true,true,false,false,false,false,false,false] rfl rfl (take_ofW HT_.out HW_.out (by kernel_rfl)) (fun _ _ _ h=>h) (Or.inl ⟨by rfl,?_⟩) hHeld ?_ ?_;rotate_left
   ·rintro w' ⟨s0,s1⟩
    go_simp
    with_reducible rfl
   rotate_left
   ·simp only[Act.put,List.setIfInBounds_toArray,List.set_cons_zero,List.set_cons_succ,i64_w,i32_w]
    rfl
   refine take_ (i:=8) (N:=some 23) (v:=?_) (a':=?_) #[true,true,true,true,false,false,true,true,true,false,false,false,false,false] rfl rfl (take_ofW HT_.out HW_.out (by kernel_rfl)) (fun _ _ _ h=>h) (Or.inl ⟨by rfl,?_⟩) hHeld ?_ ?_;rotate_left
   ·rintro w' ⟨s0,s1⟩
    go_simp
    with_reducible rfl
   rotate_left
   ·simp only[Act.put,List.setIfInBounds_toArray,List.set_cons_zero,List.set_cons_succ,i64_w,i32_w]
    rfl
   refine one_ (i:=4) (N:=some 19) #[true,true,true,true,true,false,true,true,true,false,false,false,false,false] rfl rfl (one_of HT_.out (by kernel_rfl)) (by decide) (fun K hK=>?_);refine goes_ Tryz.func48 (by kernel_rfl) rfl #[.string (rdOf ByteArray.empty n0 1)] (by rfl) rfl rfl am ?_
   with_reducible refine(spec_l1Digits.calls k (rdOf ByteArray.empty n0 1) Y0 _ a1.out).mono ?_
   rintro e w' ⟨rfl,⟨nd,rfl⟩⟩;refine⟨_,rfl,?_⟩;refine hK.out _ _ ⟨hHeld.1,hHeld.2⟩ (fun hHeld=>?_);clear hK K;refine norm_ (a':=?_) ?_ ?_;rotate_left
   ·show Act.put _ (some 19) _=_;simp only[Act.put,List.setIfInBounds_toArray,List.set_cons_zero,List.set_cons_succ,i64_w,i32_w]
    rfl
   refine pur 5 20 #[true,true,true,true,true,true,true,true,true,false,false,false,false,false] HT_ ?_;refine one_ (i:=9) (N:=some 24) #[true,true,true,true,true,true,true,true,true,true,false,false,false,false] rfl rfl (one_of HT_.out (by kernel_rfl)) (by decide) (fun K hK=>?_);refine goes_ Tryz.func48 (by kernel_rfl) rfl #[.string (rdOf ByteArray.empty n0 1)] (by rfl) rfl rfl am ?_
   with_reducible refine(spec_l1Digits.calls k (rdOf ByteArray.empty n0 1) b1 _ c1.out).mono ?_
   rintro e w' ⟨rfl,⟨nd,rfl⟩⟩;refine⟨_,rfl,?_⟩;refine hK.out _ _ ⟨hHeld.1,hHeld.2⟩ (fun hHeld=>?_);clear hK K;refine norm_ (a':=?_) ?_ ?_;rotate_left
   ·show Act.put _ (some 24) _=_;simp only[Act.put,List.setIfInBounds_toArray,List.set_cons_zero,List.set_cons_succ,i64_w,i32_w]
    rfl
   refine pur 10 25 #[true,true,true,true,true,true,true,true,true,true,true,false,false,false] HT_ ?_;refine one_ (i:=11) (N:=some 26) #[true,true,true,true,true,true,true,true,true,true,true,true,false,false] rfl rfl (one_of HT_.out (by kernel_rfl)) (by decide) (fun K hK=>?_);refine Kd.R_lit_step k55 _ 55 ?hg (N:=26) ?hd (xs:=([(⟨0,Y0,0⟩:S55),(⟨1,b1,0⟩:S55)]:List (S55))) (inner:=[.int .i64 0,.int .i64 Y0,.int .i64 0,.int .i64 1,.int .i64 b1,.int .i64 0]) (ok:=fun _=>True) (okp:=fun _=>True) ?hr ?hp (fun _ hk=>hk) trivial (Below.refl _ _) (Nat.le_refl _) (by simp) ?_;(case hd=>rfl);(case hg=>rfl);(case hr=>exact gr);(case hp=>exact(Reps.c3 (show Kd.M k55 _ _ _ (⟨0,Y0,0⟩:S55) [.int .i64 0,.int .i64 Y0,.int .i64 0]from(k55_mkM _ _ _ (⟨0,Y0,0⟩:S55))) (Reps.c3 (show Kd.M k55 _ _ _ (⟨1,b1,0⟩:S55) [.int .i64 1,.int .i64 b1,.int .i64 0]from(k55_mkM _ _ _ (⟨1,b1,0⟩:S55))) (Reps.none _ _))));intro E1 G1 J1 hb hg_ hnew_;have HS0_:=(hb.cell (World.block_lt_of_cell? _ _ (hHeld.1))).trans (hHeld.1);have HS1_:=(hb.cell (World.block_lt_of_cell? _ _ (hHeld.2))).trans (hHeld.2);clear hg_ hnew_;(first|rw[←e1.out]at J1|(simp only[Int.reduceToNat]at J1;rw[←e1.out]at J1));replace E0:=qa (Kd.R_below (kR E0) hb);have K1:=qa (Kd.R_lower (Kd.R_newB (Kd.R_new' J1 (Kd.R_lt (kR L0))) (g:=v0) (o:= .cells #[.int .i64 0,.int .i64 0,.int .i64 0] 55 (0,0)) (bk)) (below_size (bl)));replace L0:=qa (Kd.R_elder' (kR L0) (Kd.R_base J1) hb);replace x0:=qbb x0 hb;replace HB:=bs hb;clear hb J1;obtain⟨L1,M1,N1⟩:=Kd.R_slice K1.out;(first|subst N1|(injection N1 with f1_ f2_ f3_;have f4_:=f1_.symm;have f5_:=f3_.symm;clear f1_ f2_ f3_;subst f4_;subst f5_));refine hK.out _ _ ⟨HS0_,HS1_⟩ (fun hHeld=>?_);clear hK K;refine norm_ (a':=?_) ?_ ?_;rotate_left
   ·show Act.put _ (some 26) _=_;simp only[Act.put,List.setIfInBounds_toArray,List.set_cons_zero,List.set_cons_succ,i64_w,i32_w]
    rfl
   refine last_ (i:=12) (N:=some 27) #[true,true,true,true,true,true,true,true,true,true,true,true,true,false] rfl rfl (one_of HT_.out (by kernel_rfl)) (by decide) (fun K hK=>?_);refine Kd.R_append_rows_step k55 (w0:=w) w.heap.size (by rfl) (.tmp 15) (.tmp 26) 47 55 (.agg #[(.int .i64 0),(.int .i64 0),(.int .i64 0)]) 24 rfl Tryz.underlying47 info55 rfl (by decide) (by omega) G0 q0 d1 _ _ _ (fun k_=>some k_≠(.slice L1 d1.length M1:Value).ownBlock ∧k_≠v0) (fun _=>False) rfl rfl ?aO ?aR (fun _ _ h=>h) (fun _ h=>h.elim) ?aF ?aB ?aS ?aL ?_;(case aR=>exact cx (Kd.R_reads' K1.out).2.2);(case aB=>exact(bl));(case aF=>exact(fun k_ hk=>⟨Kd.fresh' (Kd.R_lt (kR K1)) k_ hk,Kd.freshB (g:=v0) (o:= .cells #[.int .i64 0,.int .i64 0,.int .i64 0] 55 (0,0)) (bk) k_ hk⟩));(case aO=>exact(by(with_reducible repeat(first|apply Kd.R_alloc|apply Kd.R_drewN|apply Kd.R_drew));exact Kd.R_mono L0.out (fun _ hk=>⟨hk.2,hk.1.2⟩)));(case aS=>exact(below_size (bl)));(case aL=>have:=l1.out;omega);intro P1 Q1 ho hb hg hat;rw[←p1.out]at ho;replace x0:=qa (blk_grown (g:=v0) (o:= .cells #[.int .i64 0,.int .i64 0,.int .i64 0] 55 (0,0)) (bk) hg (Kd.R_away L0.out (fun _ hk=>hk.1.2)));replace E0:=qa (Kd.R_over' (kR E0) (Kd.R_typed (kR L0)) (by decide) hg);replace K1:=qa (Kd.R_after (ok:=(fun k_=>k_≠v0)) (by(with_reducible repeat(first|apply Kd.R_alloc|apply Kd.R_drewN|apply Kd.R_drew));exact Kd.R_mono K1.out (fun _ hk=>⟨hk.2,hk.1.2⟩)) hg hat);replace HB:=qa (hb);have R1:=qa (ho);clear L0;clear ho hb hg hat;refine hK.out _ _ ?_;clear hK K;refine norm_ (a':=?_) ?_ ?_;rotate_left
   ·show Act.put _ (some 27) _=_;simp only[Act.put,List.setIfInBounds_toArray,List.set_cons_zero,List.set_cons_succ,i64_w,i32_w]
    rfl
   refine pur 13 5 #[true,true,true,true,true,true,true,true,true,true,true,true,true,true] HT_ ?_;refine done_ (done_of HT_.out (by kernel_rfl)) ?_
   try go_wp2
   go_meet
   case rel=>exact⟨_,(n1),H',⟨by first|omega|exact Nat.le_refl _⟩,⟨kR E0⟩,⟨by(with_reducible repeat(first|apply Kd.R_alloc|apply Kd.R_drewN|apply Kd.R_drew));exact Kd.R_mono R1.out (fun _ hk=>hk.2)⟩,⟨bk⟩,⟨bl⟩⟩
  ·(first|rw[R0]|(simp only[i64_w,i32_w];rw[R0])|skip);have H':=qa H;clear H;go_wp2;go_meet
   case rel=>exact⟨_,(q0),H',⟨by first|omega|exact Nat.le_refl _⟩,⟨kR E0⟩,⟨by(with_reducible repeat(first|apply Kd.R_alloc|apply Kd.R_drewN|apply Kd.R_drew));exact Kd.R_mono L0.out (fun _ hk=>hk.2)⟩,⟨bk⟩,⟨bl⟩⟩
 case rest=>
  clear t0;obtain⟨kq,Q0,HA,U1,V1,W1,x0,HB⟩:=hcut;obtain⟨X1,rfl,H⟩:=kz kq HA;clear HA;simp only[spec_ReadDeed.j0]at H;have Y1:=qa H;clear H
  go_upto_if 30 with(fail)
  go_cut [5] (fun P0 wc=>∃(kq:Nat) (a2:List (S55)),Aside0 (spec_ReadDeed.j1 kq a0 a2=some (b0,c0,d0,e0))∧Aside0 (kq≤X1)∧Aside0 (Kd.R k55 55 wc w.heap.size (fun k_=>k_≠v0) P0 a2)∧Aside0 (wc.heap[v0]? =some (.cells #[.int .i64 0,.int .i64 0,.int .i64 0] 55 (0,0)))∧Aside0 (Below w.heap.size w wc))
  case first=>
   have H:=Y1.out;clear Y1;replace H:=qq H;obtain⟨b2,c2,H⟩|⟨d2,b2,c2,H⟩:=H
   ·(first|rw[b2]|(simp only[i64_w,i32_w];rw[b2])|skip);replace H:=qL 1 H;obtain⟨e2,g2,H⟩:=H;replace H:=qb H;obtain⟨j2,l2,H⟩:=H;replace H:=qL 2 H;obtain⟨n2,p2,H⟩:=H;replace H:=qb H;obtain⟨q2,r2,H⟩:=H;replace H:=qn H;obtain⟨s2,H⟩:=H;have t2:=qa s2;clear s2;obtain⟨v2,hy_⟩:∃y_:List (S55),y_=(Q0++[(⟨3,j2,q2⟩:S55)]):=⟨_,rfl⟩;replace H:(spec_ReadDeed.j1 X1 a0 v2)=some (b0,c0,d0,e0):=yh;have w2:=qa hy_;clear hy_;have H':=qa H;clear H
    try go_wp2
    replace V1:=qa (Kd.R_drew V1.out);replace W1:=qa (Kd.R_drew W1.out);replace x0:=qa (blk_drew x0.out);replace HB:=qa (below_drew1 HB.out);have x2:0≤(1:Int):=(by omega);have y2:1<(n0.length:Int):=qo;obtain⟨A2,B2,C2⟩:=Kd.at_string (Kd.R_reads' V1.out).2.2 1 x2 y2;cases B2;(try simp only[show(1:Int).toNat =1 from rfl,Nat.reduceMul,Nat.reduceEqDiff,Go.Addr.add,↓reduceIte]at C2);have qi175:(1<n0.length)=True:=eq_true (by omega);(try rw[show((1:Int)).toNat =1 from rfl]at C2);replace x2:=eq_true x2;replace y2:=eq_true y2;have D2:0≤(2:Int):=(by omega);have E2:2<(n0.length:Int):=qo;obtain⟨G2,J2,K2⟩:=Kd.at_string (Kd.R_reads' V1.out).2.2 2 D2 E2;obtain rfl:A2=G2:=(by injection J2);(try simp only[show(2:Int).toNat =2 from rfl,Nat.reduceMul,Nat.reduceEqDiff,Go.Addr.add,↓reduceIte]at K2);have qi177:(2<n0.length)=True:=eq_true (by omega);(try rw[show((2:Int)).toNat =2 from rfl]at K2);replace D2:=eq_true D2;replace E2:=eq_true E2;refine start_ (n:=13) (S:=fun w'=>w'.cell? ⟨A2.block,A2.off+1,none⟩=some (.string (rdOf ByteArray.empty n0 1))∧w'.cell? ⟨A2.block,A2.off+2,none⟩=some (.string (rdOf ByteArray.empty n0 2))) (ds:=[10,11]) #[false,false,false,false,false,false,false,false,false,false,false,false,false] (by kernel_rfl) rfl rfl ⟨C2,K2⟩ (fun hHeld=>?_);refine with_tabW spec_ReadDeed.tab6 spec_ReadDeed.bits6 (fun HT_ HW_=>?_);generalize wc.drew=L2 at V1 W1 x0 HB C2 K2 hHeld ⊢;refine pur 0 31 #[true,false,false,false,false,false,false,false,false,false,false,false,false] HT_ ?_;refine pur 1 32 #[true,true,false,false,false,false,false,false,false,false,false,false,false] HT_ ?_;refine pur 2 33 #[true,true,true,false,false,false,false,false,false,false,false,false,false] HT_ ?_;refine pur 5 36 #[true,true,true,false,false,true,false,false,false,false,false,false,false] HT_ ?_;refine pur 6 37 #[true,true,true,false,false,true,true,false,false,false,false,false,false] HT_ ?_;refine take_ (i:=3) (N:=some 34) (v:=?_) (a':=?_) #[true,true,true,true,false,true,true,false,false,false,false,false,false] rfl rfl (take_ofW HT_.out HW_.out (by kernel_rfl)) (fun _ _ _ h=>h) (Or.inl ⟨by rfl,?_⟩) hHeld ?_ ?_;rotate_left
    ·rintro w' ⟨s0,s1⟩
     go_simp
     with_reducible rfl
    rotate_left
    ·simp only[Act.put,List.setIfInBounds_toArray,List.set_cons_zero,List.set_cons_succ,i64_w,i32_w]
     rfl
    refine take_ (i:=7) (N:=some 38) (v:=?_) (a':=?_) #[true,true,true,true,false,true,true,true,false,false,false,false,false] rfl rfl (take_ofW HT_.out HW_.out (by kernel_rfl)) (fun _ _ _ h=>h) (Or.inl ⟨by rfl,?_⟩) hHeld ?_ ?_;rotate_left
    ·rintro w' ⟨s0,s1⟩
     go_simp
     with_reducible rfl
    rotate_left
    ·simp only[Act.put,List.setIfInBounds_toArray,List.set_cons_zero,List.set_cons_succ,i64_w,i32_w]
     rfl
    refine one_ (i:=4) (N:=some 35) #[true,true,true,true,true,true,true,true,false,false,false,false,false] rfl rfl (one_of HT_.out (by kernel_rfl)) (by decide) (fun K hK=>?_);refine goes_ Tryz.func48 (by kernel_rfl) rfl #[.string (rdOf ByteArray.empty n0 1)] (by rfl) rfl rfl am ?_
    with_reducible refine(spec_l1Digits.calls X1 (rdOf ByteArray.empty n0 1) j2 _ l2.out).mono ?_
    rintro e w' ⟨rfl,⟨nd,rfl⟩⟩;refine⟨_,rfl,?_⟩;refine hK.out _ _ ⟨hHeld.1,hHeld.2⟩ (fun hHeld=>?_);clear hK K;refine norm_ (a':=?_) ?_ ?_;rotate_left
    ·show Act.put _ (some 35) _=_;simp only[Act.put,List.setIfInBounds_toArray,List.set_cons_zero,List.set_cons_succ,i64_w,i32_w]
     rfl
    refine one_ (i:=8) (N:=some 39) #[true,true,true,true,true,true,true,true,true,false,false,false,false] rfl rfl (one_of HT_.out (by kernel_rfl)) (by decide) (fun K hK=>?_);refine goes_ Tryz.func48 (by kernel_rfl) rfl #[.string (rdOf ByteArray.empty n0 2)] (by rfl) rfl rfl am ?_
    with_reducible refine(spec_l1Digits.calls X1 (rdOf ByteArray.empty n0 2) q2 _ r2.out).mono ?_
    rintro e w' ⟨rfl,⟨nd,rfl⟩⟩;refine⟨_,rfl,?_⟩;refine hK.out _ _ ⟨hHeld.1,hHeld.2⟩ (fun hHeld=>?_);clear hK K;refine norm_ (a':=?_) ?_ ?_;rotate_left
    ·show Act.put _ (some 39) _=_;simp only[Act.put,List.setIfInBounds_toArray,List.set_cons_zero,List.set_cons_succ,i64_w,i32_w]
     rfl
    refine pur 9 40 #[true,true,true,true,true,true,true,true,true,true,false,false,false] HT_ ?_;refine last_ (i:=10) (N:=some 41) #[true,true,true,true,true,true,true,true,true,true,true,false,false] rfl rfl (one_of HT_.out (by kernel_rfl)) (by decide) (fun K hK=>?_);refine value_ (w1:=?_) (v:=?_) (by rfl) rfl ?_ ?_;rotate_left 2
    ·go_simp
     constructor
     ·rfl
     ·rfl
    refine hK.out _ _ ?_;clear hK K;refine norm_ (a':=?_) ?_ ?_;rotate_left
    ·show Act.put _ (some 41) _=_;simp only[Act.put,List.setIfInBounds_toArray,List.set_cons_zero,List.set_cons_succ,i64_w,i32_w]
     rfl
    refine last_ (i:=11) (N:=some 42) #[true,true,true,true,true,true,true,true,true,true,true,true,false] rfl rfl (one_of HT_.out (by kernel_rfl)) (by decide) (fun K hK=>?_);refine Kd.R_append_step k55 (w0:=w) w.heap.size (by rfl) (.tmp 31) (.tmp 41) 47 55 (.agg #[(.int .i64 0),(.int .i64 0),(.int .i64 0)]) 24 rfl Tryz.underlying47 info55 rfl (by decide) (by omega) u5 Q0 (⟨3,j2,q2⟩:S55) [.int .i64 3,.int .i64 j2,.int .i64 q2] (fun k_=>k_≠v0) (fun _=>False) rfl rfl ?aP (fun _ hk=>hk.elim) ?aF ?aO ?aB ?aS ?aL ?_;(case aP=>exact k55_mkM _ _ _ (⟨3,j2,q2⟩:S55));(case aB=>exact(bl));(case aF=>exact(fun k_ hk=>Kd.freshB (g:=v0) (o:= .cells #[.int .i64 0,.int .i64 0,.int .i64 0] 55 (0,0)) (bk) k_ hk));(case aO=>exact(kR W1));(case aS=>exact(below_size (bl)));(case aL=>have:=t2.out;omega);intro M2 N2 ho hb hg hat;rw[←w2.out]at ho;replace V1:=qa (Kd.R_over' (kR V1) (Kd.R_typed (kR W1)) (by decide) hg);replace x0:=qa (blk_grown (g:=v0) (o:= .cells #[.int .i64 0,.int .i64 0,.int .i64 0] 55 (0,0)) (bk) hg (Kd.R_away W1.out (fun _ hk=>hk)));replace HB:=qa (hb);have P2:=qa (ho);clear W1;clear ho hb hg hat;refine hK.out _ _ ?_;clear hK K;refine norm_ (a':=?_) ?_ ?_;rotate_left
    ·show Act.put _ (some 42) _=_;simp only[Act.put,List.setIfInBounds_toArray,List.set_cons_zero,List.set_cons_succ,i64_w,i32_w]
     rfl
    refine pur 12 5 #[true,true,true,true,true,true,true,true,true,true,true,true,true] HT_ ?_;refine done_ (done_of HT_.out (by kernel_rfl)) ?_
    try go_wp2
    go_meet
    case rel=>exact⟨_,(v2),H',⟨by have:=U1.out;first|omega|exact Nat.le_refl _⟩,⟨kR P2⟩,⟨bk⟩,⟨bl⟩⟩
   ·(first|rw[b2]|(simp only[i64_w,i32_w];rw[b2])|skip);have H':=qa H;clear H;go_wp2;go_meet
    case rel=>exact⟨_,(Q0),H',⟨by have:=U1.out;first|omega|exact Nat.le_refl _⟩,⟨kR W1⟩,⟨bk⟩,⟨bl⟩⟩
  case rest=>
   clear Y1;obtain⟨kq,a2,HA,Q2,W1,x0,HB⟩:=hcut;obtain⟨R2,rfl,H⟩:=kz kq HA;clear HA;simp only[spec_ReadDeed.j1]at H;have H':=qa H;clear H;go_wp2
   go_loopg [6] R2 (fun kq U2 w'=>∃(V2:Int) (W2:Int) (X2:Int) (Y2:Int),U2= .int .i64 V2∧Aside0 (spec_ReadDeed.l0 kq a0 a2 V2=some (b0,c0,d0,e0))∧Aside0 (kq≤R2)∧Aside0 (Kd.R k55 55 w' w.heap.size (fun k_=>k_≠v0) u5 a2)∧Aside0 (w'.heap[v0]? =some (.cells #[.int .i64 W2,.int .i64 X2,.int .i64 Y2] 55 (0,0)))∧Aside0 (Below w.heap.size w w'))
   case atStart=>exact⟨(0),(0),(0),(0),(sd),H',⟨Nat.le_refl _⟩,⟨kR W1⟩,⟨bk⟩,⟨bl⟩⟩
   case round=>
    clear H';obtain⟨V2,W2,X2,Y2,rfl,HA,HK3,W1,x0,HB⟩:=hrel;obtain⟨k3,rfl,H⟩:=kz gk HA;clear HA;simp only[spec_ReadDeed.l0]at H;replace H:=qe H;obtain⟨a3,H⟩|⟨a3,H⟩:=H
    ·replace H:=qq H;obtain⟨b3,d3,H⟩|⟨e3,b3,d3,H⟩:=H
     ·have H':=qa H;clear H;obtain⟨g3,j3,rfl⟩:=Kd.R_slice W1.out;go_wp2
      go_roundg k3
      case measure=>have:=U1.out;have:=Q2.out;have:=HK3.out;omega
      case rel=>exact⟨(wrap64 (V2+1)),(W2),(X2),(Y2),(sd),H',⟨by have:=U1.out;have:=Q2.out;have:=HK3.out;omega⟩,⟨kR W1⟩,⟨bk⟩,⟨bl⟩⟩
     ·replace H:=qd H;obtain⟨l3,H⟩:=H;replace H:=qb H;obtain⟨n3,p3,H⟩:=H;replace H:=qq H;obtain⟨q3,r3,H⟩|⟨s3,q3,r3,H⟩:=H
      ·simp only[Option.some.injEq,Prod.mk.injEq]at H;obtain⟨rfl,rfl,rfl,rfl⟩:=H;obtain⟨t3,v3,rfl⟩:=Kd.R_slice W1.out;have w3:0≤(V2:Int):=qo;have x3:V2<(a2.length:Int):=qo;obtain⟨y3,A3,B3,C3,D3⟩:=at_T55 (Kd.R_reads' W1.out).2.2 V2 w3 x3;cases A3;replace w3:=eq_true w3;replace x3:=eq_true x3
       go_wp2_with(first|(go_at_call 79;(with_reducible refine(spec_DeedText.calls k3 ((rd_T55 a2 V2).f0) ((rd_T55 a2 V2).f1) ((rd_T55 a2 V2).f2) n3 _ p3.out).mono ?_);rintro e E3 ⟨rfl,hb⟩;replace W1:=qa (Kd.R_below (kR W1) hb);replace x0:=qbb x0 hb;replace HB:=bs hb;have G3:0≤(V2:Int):=qo;have J3:V2<(a2.length:Int):=qo;obtain⟨K3,L3,M3,N3,P3⟩:=at_T55 (Kd.R_reads' W1.out).2.2 V2 G3 J3;obtain rfl:y3=K3:=(by injection L3);replace G3:=eq_true G3;replace J3:=eq_true J3;obtain⟨Q3,R3,U3,V3,W3,X3⟩:=qk3 x0))
       refine bodyPost_ret (results_ct rfl _ _ v0 55 #[.int .i64 ((rd_T55 a2 V2).f0),.int .i64 ((rd_T55 a2 V2).f1),.int .i64 ((rd_T55 a2 V2).f2)] (0,0) _ rfl (kP x0) Tryz.underlying55 rfl (by kernel_rfl)) rfl ?_;exact⟨er,bl⟩
      ·have H':=qa H;clear H;obtain⟨Y3,a4,rfl⟩:=Kd.R_slice W1.out;have w3:0≤(V2:Int):=qo;have x3:V2<(a2.length:Int):=qo;obtain⟨y3,A3,B3,C3,D3⟩:=at_T55 (Kd.R_reads' W1.out).2.2 V2 w3 x3;cases A3;replace w3:=eq_true w3;replace x3:=eq_true x3
       go_wp2_with(first|(go_at_call 79;(with_reducible refine(spec_DeedText.calls k3 ((rd_T55 a2 V2).f0) ((rd_T55 a2 V2).f1) ((rd_T55 a2 V2).f2) n3 _ p3.out).mono ?_);rintro e b4 ⟨rfl,hb⟩;replace W1:=qa (Kd.R_below (kR W1) hb);replace x0:=qbb x0 hb;replace HB:=bs hb))
       go_roundg k3
       case measure=>have:=U1.out;have:=Q2.out;have:=HK3.out;omega
       case rel=>exact⟨(wrap64 (V2+1)),(W2),(X2),(Y2),(sd),H',⟨by have:=U1.out;have:=Q2.out;have:=HK3.out;omega⟩,⟨kR W1⟩,⟨bk⟩,⟨bl⟩⟩
    ·simp only[Option.some.injEq,Prod.mk.injEq]at H;obtain⟨rfl,rfl,rfl,rfl⟩:=H;obtain⟨c4,d4,rfl⟩:=Kd.R_slice W1.out;obtain⟨e4,g4,j4,l4,n4,p4⟩:=qk3 x0;go_wp2;refine bodyPost_ret (results_ct rfl _ _ v0 55 #[.int .i64 0,.int .i64 0,.int .i64 0] (0,0) _ rfl (kP x0) Tryz.underlying55 rfl (by kernel_rfl)) rfl ?_;exact⟨er,bl⟩
end Go.Proofs.YtdmlkjjlgkdnlaaGreatDoor.PFnExactDeskLine
