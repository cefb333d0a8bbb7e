import Derived.Test.YtdmlkjjlgkdnlaaGreatDoorPFnExactDeskSayx21
namespace Go.Proofs.YtdmlkjjlgkdnlaaGreatDoor.PFnExactDeskSay
open Go.RowKit Go.Proofs.YtdmlkjjlgkdnlaaGreatDoorW.PrintWords Go.Proofs.YtdmlkjjlgkdnlaaGreatDoorW.PrintLast Go.Proofs.YtdmlkjjlgkdnlaaGreatDoorW.PrintMore
attribute [local go_sem] max2_int min2_int max_two min_two max_three min_three max_four min_four
set_option linter.unusedVariables false
set_option linter.unusedSimpArgs false
set_option maxHeartbeats 8000000
set_option maxRecDepth 100000
mutual
def spec_CommonOf.j0:Nat→Int→Int→Bool→Option (Int)
 |0,_,_,_=>none
 |k+1,a0,b0,c0=>if c0=true then(some (-1))else(spec_CommonOf.l0 k a0 b0)
def spec_CommonOf.l0:Nat→Int→Int→Option (Int)
 |0,_,_=>none
 |k+1,a0,b0=>if b0>0 then(if b0=0 then(none)else(spec_CommonOf.l0 k b0 (Int.tmod a0 b0)))else(some a0)
end

def spec_CommonOf.f (k:Nat) (a0:Int) (b0:Int):Option (Int):=(spec_l1In.f a0 1 10000).bind fun c0=>(if c0=true then((spec_l1In.f b0 1 10000).bind fun d0=>(spec_CommonOf.j0 k a0 b0 (!d0)))else(spec_CommonOf.j0 k a0 b0 true))
theorem spec_CommonOf.mono_l:∀k,(∀a0 b0 c0,LeO (spec_CommonOf.j0 k a0 b0 c0) (spec_CommonOf.j0 (k+1) a0 b0 c0))∧(∀a0 b0,LeO (spec_CommonOf.l0 k a0 b0) (spec_CommonOf.l0 (k+1) a0 b0))
 |0=>⟨fun _ _ _ r h=>by simp[spec_CommonOf.j0]at h,fun _ _ r h=>by simp[spec_CommonOf.l0]at h⟩
 |k+1=>by
  obtain⟨ih0,ih1⟩:=spec_CommonOf.mono_l k;refine⟨?_,?_⟩
  ·intro a0 b0 c0;unfold spec_CommonOf.j0;exact mz
  ·intro a0 b0;unfold spec_CommonOf.l0;exact mz
theorem spec_CommonOf.mono:∀a0 b0 k,LeO (spec_CommonOf.f k a0 b0) (spec_CommonOf.f (k+1) a0 b0):=by
 intro a0 b0 k;obtain⟨ih0,ih1⟩:=spec_CommonOf.mono_l k;unfold spec_CommonOf.f;exact mz
theorem spec_CommonOf.calls (k:Nat) (a0:Int) (b0:Int) (r:Int) (w:World) (h:spec_CommonOf.f k a0 b0=some r):
  Calls Tryz.prog 125 #[.int .i64 a0,.int .i64 b0] w fun e w'=>e= .returned (.int .i64 r)∧Drawn0 w w':=by
 have H:=h;unfold spec_CommonOf.f at H;clear h;have c0:=qa H;clear H
 go_enter Tryz.func125,Tryz.ntmps125
 go_upto_region 1 with(fail)
 go_cut [13] (fun d0 wc=>∃(kq:Nat) (e0:Bool),d0= .bool e0∧Aside0 (spec_CommonOf.j0 kq a0 b0 e0=some r)∧Aside0 (kq≤k)∧Drawn0 w wc)
 case first=>
  have H:=c0.out;clear c0;replace H:=qb H;obtain⟨g0,n0,H⟩:=H;replace H:=qc H;obtain⟨rfl,H⟩|⟨rfl,H⟩:=H
  ·replace H:=qb H;obtain⟨p0,q0,H⟩:=H;have H':=qa H;clear H
   go_wp2_with(first|(refine gd 7 Tryz.func84 (spec_l1In.calls a0 1 10000 true _ n0.out) fun nd=>?_)|(go_at_call 84;(with_reducible refine gm (spec_l1In.calls b0 1 10000 p0 _ q0.out) fun nd=>?_)))
   go_meet
   case rel=>exact⟨_,(!p0),(sd),H',⟨by first|omega|exact Nat.le_refl _⟩,dr⟩
  ·have H':=qa H;clear H
   go_wp2_with(first|(refine gd 7 Tryz.func84 (spec_l1In.calls a0 1 10000 false _ n0.out) fun nd=>?_))
   go_meet
   case rel=>exact⟨_,(true),(sd),H',⟨by first|omega|exact Nat.le_refl _⟩,dr⟩
 case rest=>
  clear c0;obtain⟨kq,e0,rfl,HA,r0,⟨mc2,rfl⟩⟩:=hcut;obtain⟨s0,rfl,H⟩:=kz kq HA;clear HA;simp only[spec_CommonOf.j0]at H;replace H:=qc H;obtain⟨rfl,H⟩|⟨rfl,H⟩:=H
  ·obtain rfl:=sj H;go_wp2;go_ret;exact⟨sd,dr⟩
  ·have H':=qa H;clear H;go_wp2
   go_loopg [0,1] s0 (fun kq t0 v0 w'=>∃(w0:Int) (x0:Int),t0= .int .i64 w0∧v0= .int .i64 x0∧Aside0 (spec_CommonOf.l0 kq w0 x0=some r)∧Aside0 (kq≤s0)∧Drawn0 w w')
   case atStart=>exact⟨(a0),(b0),(sd),(sd),H',⟨Nat.le_refl _⟩,dr⟩
   case round=>
    clear H';obtain⟨w0,x0,rfl,rfl,HA,HK2,⟨m2,rfl⟩⟩:=hrel;obtain⟨k2,rfl,H⟩:=kz gk HA;clear HA;simp only[spec_CommonOf.l0]at H;replace H:=qg H;obtain⟨y0,H⟩|⟨y0,H⟩:=H
    ·by_cases A0:x0=0
     ·rw[if_pos A0]at H;exact absurd H (by simp)
     ·rw[if_neg A0]at H;have B0:(x0==0)=false:=beq_eq_false_iff_ne.mpr A0;have C0:(x0 != 0)=true:=bne_iff_ne.mpr A0;have H':=qa H;clear H;go_wp2
      go_roundg k2
      case measure=>have:=r0.out;have:=HK2.out;omega
      case rel=>exact⟨(x0),(Int.tmod w0 x0),(sd),(sd),H',⟨by have:=r0.out;have:=HK2.out;omega⟩,dr⟩
    ·obtain rfl:=sj H;go_wp2;go_ret;exact⟨sd,dr⟩

def spec_ApartOk.f (k:Nat) (a0:Int) (b0:Int):Option (Bool):=(spec_CommonOf.f k a0 b0).bind fun c0=>(some (c0==1))
theorem spec_ApartOk.mono:∀a0 b0 k,LeO (spec_ApartOk.f k a0 b0) (spec_ApartOk.f (k+1) a0 b0):=by
 intro a0 b0 k;unfold spec_ApartOk.f;have m0:= @spec_CommonOf.mono;exact mz
theorem spec_ApartOk.calls (k:Nat) (a0:Int) (b0:Int) (r:Bool) (w:World) (h:spec_ApartOk.f k a0 b0=some r):
  Calls Tryz.prog 83 #[.int .i64 a0,.int .i64 b0] w fun e w'=>e= .returned (.bool r)∧Drawn0 w w':=by
 have H:=h;unfold spec_ApartOk.f at H;clear h;replace H:=qb H;obtain⟨c0,d0,H⟩:=H;obtain rfl:=sj H
 go_enter Tryz.func83,Tryz.ntmps83
 go_wp2_with(first|(refine gd 7 Tryz.func125 (spec_CommonOf.calls k a0 b0 c0 _ d0.out) fun nd=>?_))
 go_ret;exact⟨sd,dr⟩

mutual
def spec_DivisorsOf.l0:Nat→Int→List Int→Int→Option (List Int)
 |0,_,_,_=>none
 |k+1,a0,b0,c0=>if c0≤a0 then(spec_DivisorsOf.j1 k a0 b0 c0 (decide (a0≤10000)))else(spec_DivisorsOf.j1 k a0 b0 c0 false)
def spec_DivisorsOf.j1:Nat→Int→List Int→Int→Bool→Option (List Int)
 |0,_,_,_,_=>none
 |k+1,a0,b0,c0,d0=>if d0=true then(if c0=0 then(none)else(if(Int.tmod a0 c0)=0 then(if b0.length<17592186044416 then(spec_DivisorsOf.l0 k a0 (b0++[c0]) (wrap64 (c0+1)))else(none))else(spec_DivisorsOf.l0 k a0 b0 (wrap64 (c0+1)))))else(some b0)
end

def spec_DivisorsOf.f (k:Nat) (a0:Int):Option (List Int):=spec_DivisorsOf.l0 k a0 (([]:List Int)) 1
theorem spec_DivisorsOf.mono_l:∀k,(∀a0 b0 c0,LeO (spec_DivisorsOf.l0 k a0 b0 c0) (spec_DivisorsOf.l0 (k+1) a0 b0 c0))∧(∀a0 b0 c0 d0,LeO (spec_DivisorsOf.j1 k a0 b0 c0 d0) (spec_DivisorsOf.j1 (k+1) a0 b0 c0 d0))
 |0=>⟨fun _ _ _ r h=>by simp[spec_DivisorsOf.l0]at h,fun _ _ _ _ r h=>by simp[spec_DivisorsOf.j1]at h⟩
 |k+1=>by
  obtain⟨ih0,ih1⟩:=spec_DivisorsOf.mono_l k;refine⟨?_,?_⟩
  ·intro a0 b0 c0;unfold spec_DivisorsOf.l0;exact mz
  ·intro a0 b0 c0 d0;unfold spec_DivisorsOf.j1;exact mz
theorem spec_DivisorsOf.mono:∀a0 k,LeO (spec_DivisorsOf.f k a0) (spec_DivisorsOf.f (k+1) a0):=by
 intro a0 k;obtain⟨ih0,ih1⟩:=spec_DivisorsOf.mono_l k;unfold spec_DivisorsOf.f;exact mz
theorem spec_DivisorsOf.calls (k:Nat) (a0:Int) (r:List Int) (w:World) (h:spec_DivisorsOf.f k a0=some r):
  Calls Tryz.prog 86 #[.int .i64 a0] w fun e w'=>∃v0_:Value,e= .returned (v0_)∧Kd.R (Kd.int .i64) 3 w' w.heap.size (fun _=>True) v0_ r∧Below w.heap.size w w':=by
 have HB:=qa (Below.refl w.heap.size w);have H:=h;unfold spec_DivisorsOf.f at H;clear h;obtain⟨b0,hy_⟩:∃y_:List Int,y_=(([]:List Int)):=⟨_,rfl⟩;replace H:(spec_DivisorsOf.l0 k a0 b0 1)=some r:=yh;have c0:=qa hy_;clear hy_;have H':=qa H;clear H
 go_enter Tryz.func86,Tryz.ntmps86
 go_wp2_with(first|(refine rli .i64 3 5 c0.out fun d0 e0 g0 hb=>?_;have j0:=qa (Kd.R_lower g0 (below_size (bl)));replace HB:=bs hb;clear hb g0))
 go_loopg [3,4] k (fun kq n0 p0 w'=>∃(q0:List Int) (r0:Int),p0= .int .i64 r0∧Aside0 (spec_DivisorsOf.l0 kq a0 q0 r0=some r)∧Aside0 (kq≤k)∧Aside0 (Kd.R (Kd.int .i64) 3 w' w.heap.size (fun _=>True) n0 q0)∧Aside0 (Below w.heap.size w w'))
 case atStart=>exact⟨(b0),(1),(sd),H',⟨Nat.le_refl _⟩,⟨kR j0⟩,⟨bl⟩⟩
 case round=>
  clear H';obtain⟨q0,r0,rfl,HA,HK1,s0,HB⟩:=hrel;obtain⟨k1,rfl,H⟩:=kz gk HA;clear HA;simp only[spec_DivisorsOf.l0]at H;have t0:=qa H;clear H
  go_upto_region 3 with(fail)
  go_cut [12] (fun v0 wc=>∃(kq:Nat) (w0:Bool),v0= .bool w0∧Aside0 (spec_DivisorsOf.j1 kq a0 q0 r0 w0=some r)∧Aside0 (kq≤k1)∧Aside0 (Kd.R (Kd.int .i64) 3 wc w.heap.size (fun _=>True) u3 q0)∧Aside0 (Below w.heap.size w wc))
  case first=>
   have H:=t0.out;clear t0;replace H:=qe H;obtain⟨x0,H⟩|⟨x0,H⟩:=H
   ·(first|rw[x0]|(simp only[i64_w,i32_w];rw[x0])|skip);have H':=qa H;clear H;go_wp2;go_meet
    case rel=>exact⟨_,(decide (a0≤10000)),(sd),H',⟨z12_⟩,⟨kR s0⟩,⟨bl⟩⟩
   ·(first|rw[x0]|(simp only[i64_w,i32_w];rw[x0])|skip);have H':=qa H;clear H;go_wp2;go_meet
    case rel=>exact⟨_,(false),(sd),H',⟨z12_⟩,⟨kR s0⟩,⟨bl⟩⟩
  case rest=>
   clear t0;obtain⟨kq,w0,rfl,HA,y0,s0,HB⟩:=hcut;obtain⟨A0,rfl,H⟩:=kz kq HA;clear HA;simp only[spec_DivisorsOf.j1]at H;replace H:=qc H;obtain⟨rfl,H⟩|⟨rfl,H⟩:=H
   ·by_cases B0:r0=0
    ·rw[if_pos B0]at H;exact absurd H (by simp)
    ·rw[if_neg B0]at H;have C0:(r0==0)=false:=beq_eq_false_iff_ne.mpr B0;have D0:(r0 != 0)=true:=bne_iff_ne.mpr B0;replace H:=qq H;obtain⟨E0,G0,H⟩|⟨J0,E0,G0,H⟩:=H
     ·replace H:=qn H;obtain⟨K0,H⟩:=H;have L0:=qa K0;clear K0;obtain⟨M0,hy_⟩:∃y_:List Int,y_=(q0++[r0]):=⟨_,rfl⟩;replace H:(spec_DivisorsOf.l0 A0 a0 M0 (wrap64 (r0+1)))=some r:=yh;have N0:=qa hy_;clear hy_;have H':=qa H;clear H
      go_wp2_with(first|((with_reducible refine gate_builtin (b:= .append) (xs:=#[.tmp 19,.tmp 21]) rfl ?_);at_builtin;refine Kd.R_append (Kd.int .i64) (w0:=w) w.heap.size rfl (.tmp 19) (.tmp 21) 22 3 (.int .i64 0) 8 rfl Tryz.underlying22 info3 rfl kd_ ko_ u3 q0 r0 [.int .i64 r0] (fun _=>True) (fun _=>False) rfl rfl ?aP (fun _ hk=>hk.elim) ?aF ?aO ?aB ?aS ?aL ?_;(case aP=>exact rfl);(case aB=>exact(bl));(case aF=>exact(fun _ _=>trivial));(case aO=>exact(kR s0));(case aS=>exact(below_size (bl)));(case aL=>have:=L0.out;omega);intro P0 Q0 ho hb hg hat;rw[←N0.out]at ho;replace HB:=qa (hb);have R0:=qa (ho);clear s0;clear ho hb hg hat))
      go_roundg A0
      case measure=>have:=HK1.out;have:=y0.out;omega
      case rel=>exact⟨(M0),(wrap64 (r0+1)),(sd),H',⟨by have:=HK1.out;have:=y0.out;omega⟩,⟨kR R0⟩,⟨bl⟩⟩
     ·have H':=qa H;clear H;go_wp2
      go_roundg A0
      case measure=>have:=HK1.out;have:=y0.out;omega
      case rel=>exact⟨(q0),(wrap64 (r0+1)),(sd),H',⟨by have:=HK1.out;have:=y0.out;omega⟩,⟨kR s0⟩,⟨bl⟩⟩
   ·obtain rfl:=sj H;go_wp2;go_ret;exact⟨_,er,kR s0,bl⟩

mutual
def spec_FactorsOf.l0:Nat→Int→List (List Int)→Int→Int→Option ((List (List Int)))
 |0,_,_,_,_=>none
 |k+1,a0,b0,c0,d0=>if d0≤c0 then((spec_l1In.f a0 1 10000).bind fun e0=>(spec_FactorsOf.j1 k a0 b0 c0 d0 e0))else(spec_FactorsOf.j1 k a0 b0 c0 d0 false)
def spec_FactorsOf.j1:Nat→Int→List (List Int)→Int→Int→Bool→Option ((List (List Int)))
 |0,_,_,_,_,_=>none
 |k+1,a0,b0,c0,d0,g0=>if g0=true then(spec_FactorsOf.l1 k a0 b0 c0 d0 0)else(some b0)
def spec_FactorsOf.l1:Nat→Int→List (List Int)→Int→Int→Int→Option ((List (List Int)))
 |0,_,_,_,_,_=>none
 |k+1,a0,b0,c0,d0,j0=>if d0=0 then(none)else(if(Int.tmod c0 d0)=0 then(spec_FactorsOf.l1 k a0 b0 (wrap64 (Int.tdiv c0 d0)) d0 (wrap64 (j0+1)))else(if j0>0 then(if b0.length<5864062014805 then(spec_FactorsOf.l0 k a0 (b0++[(([d0,j0]:List Int))]) c0 (wrap64 (d0+1)))else(none))else(spec_FactorsOf.l0 k a0 b0 c0 (wrap64 (d0+1)))))
end

def spec_FactorsOf.f (k:Nat) (a0:Int):Option ((List (List Int))):=spec_FactorsOf.l0 k a0 (([]:List (List Int))) a0 2
theorem spec_FactorsOf.mono_l:∀k,(∀a0 b0 c0 d0,LeO (spec_FactorsOf.l0 k a0 b0 c0 d0) (spec_FactorsOf.l0 (k+1) a0 b0 c0 d0))∧(∀a0 b0 c0 d0 e0,LeO (spec_FactorsOf.j1 k a0 b0 c0 d0 e0) (spec_FactorsOf.j1 (k+1) a0 b0 c0 d0 e0))∧(∀a0 b0 c0 d0 e0,LeO (spec_FactorsOf.l1 k a0 b0 c0 d0 e0) (spec_FactorsOf.l1 (k+1) a0 b0 c0 d0 e0))
 |0=>⟨fun _ _ _ _ r h=>by simp[spec_FactorsOf.l0]at h,fun _ _ _ _ _ r h=>by simp[spec_FactorsOf.j1]at h,fun _ _ _ _ _ r h=>by simp[spec_FactorsOf.l1]at h⟩
 |k+1=>by
  obtain⟨ih0,ih1,ih2⟩:=spec_FactorsOf.mono_l k;refine⟨?_,?_,?_⟩
  ·intro a0 b0 c0 d0;unfold spec_FactorsOf.l0;exact mz
  ·intro a0 b0 c0 d0 e0;unfold spec_FactorsOf.j1;exact mz
  ·intro a0 b0 c0 d0 e0;unfold spec_FactorsOf.l1;exact mz
theorem spec_FactorsOf.mono:∀a0 k,LeO (spec_FactorsOf.f k a0) (spec_FactorsOf.f (k+1) a0):=by
 intro a0 k;obtain⟨ih0,ih1,ih2⟩:=spec_FactorsOf.mono_l k;unfold spec_FactorsOf.f;exact mz
theorem spec_FactorsOf.calls (k:Nat) (a0:Int) (r:List (List Int)) (w:World) (h:spec_FactorsOf.f k a0=some r):
  Calls Tryz.prog 126 #[.int .i64 a0] w fun e w'=>∃v0_:Value,e= .returned (v0_)∧Kd.S (Kd.slice 3 (Kd.int .i64)) 22 w' w.heap.size (fun _=>True) v0_ r∧Below w.heap.size w w':=by
 have HB:=qa (Below.refl w.heap.size w);have H:=h;unfold spec_FactorsOf.f at H;clear h;obtain⟨b0,hy_⟩:∃y_:List (List Int),y_=(([]:List (List Int))):=⟨_,rfl⟩;replace H:(spec_FactorsOf.l0 k a0 b0 a0 2)=some r:=yh;have c0:=qa hy_;clear hy_;have H':=qa H;clear H
 go_enter Tryz.func126,Tryz.ntmps126
 go_wp2_with(first|((with_reducible refine gate_dst (N:=7) rfl ?_);refine Kd.S_lit (Kd.slice 3 (Kd.int .i64)) _ 22 ?hg (N:=7) ?hd (xs:=([]:List (List Int))) (inner:=[]) (ok:=fun _=>True) (okp:=fun _=>True) ?hr ?hp (fun _ hk=>hk) trivial (Below.refl _ _) (Nat.le_refl _) (by simp) ?_;(case hd=>rfl);(case hg=>rfl);(case hr=>exact gr);(case hp=>exact(Reps.none _ _));intro d0 e0 g0 hb hg_ hnew_;clear hg_ hnew_;(first|rw[←c0.out]at g0|(simp only[Int.reduceToNat]at g0;rw[←c0.out]at g0));have j0:=qa (Kd.S_lower g0 (below_size (bl)));replace HB:=bs hb;clear hb g0))
 go_loopg [3,4,5] k (fun kq n0 p0 q0 w'=>∃(r0:List (List Int)) (s0:Int) (t0:Int),p0= .int .i64 s0∧q0= .int .i64 t0∧Aside0 (spec_FactorsOf.l0 kq a0 r0 s0 t0=some r)∧Aside0 (kq≤k)∧Aside0 (Kd.S (Kd.slice 3 (Kd.int .i64)) 22 w' w.heap.size (fun _=>True) n0 r0)∧Aside0 (Below w.heap.size w w'))
 case atStart=>exact⟨(b0),(a0),(2),(sd),(sd),H',⟨Nat.le_refl _⟩,⟨kS j0⟩,⟨bl⟩⟩
 case round=>
  clear H';obtain⟨r0,s0,t0,rfl,rfl,HA,HK1,v0,HB⟩:=hrel;obtain⟨k1,rfl,H⟩:=kz gk HA;clear HA;simp only[spec_FactorsOf.l0]at H;have w0:=qa H;clear H
  go_upto_region 4 with(fail)
  go_cut [15] (fun x0 wc=>∃(kq:Nat) (y0:Bool),x0= .bool y0∧Aside0 (spec_FactorsOf.j1 kq a0 r0 s0 t0 y0=some r)∧Aside0 (kq≤k1)∧Aside0 (Kd.S (Kd.slice 3 (Kd.int .i64)) 22 wc w.heap.size (fun _=>True) u3 r0)∧Aside0 (Below w.heap.size w wc))
  case first=>
   have H:=w0.out;clear w0;replace H:=qe H;obtain⟨A0,H⟩|⟨A0,H⟩:=H
   ·(first|rw[A0]|(simp only[i64_w,i32_w];rw[A0])|skip);replace H:=qb H;obtain⟨B0,C0,H⟩:=H;have H':=qa H;clear H
    go_wp2_with(first|(go_at_call 84;(with_reducible refine gm (spec_l1In.calls a0 1 10000 B0 _ C0.out) fun nd=>?_)))
    go_meet
    case rel=>exact⟨_,(B0),(sd),H',⟨z12_⟩,⟨kS v0⟩,⟨bl⟩⟩
   ·(first|rw[A0]|(simp only[i64_w,i32_w];rw[A0])|skip);have H':=qa H;clear H;go_wp2;go_meet
    case rel=>exact⟨_,(false),(sd),H',⟨z12_⟩,⟨kS v0⟩,⟨bl⟩⟩
  case rest=>
   clear w0;obtain⟨kq,y0,rfl,HA,D0,v0,HB⟩:=hcut;obtain⟨E0,rfl,H⟩:=kz kq HA;clear HA;simp only[spec_FactorsOf.j1]at H;replace H:=qc H;obtain⟨rfl,H⟩|⟨rfl,H⟩:=H
   ·have H':=qa H;clear H;go_wp2
    go_loopg [4,6] E0 (fun kq p0 G0 w'=>∃(J0:Int) (K0:Int),p0= .int .i64 J0∧G0= .int .i64 K0∧Aside0 (spec_FactorsOf.l1 kq a0 r0 J0 t0 K0=some r)∧Aside0 (kq≤E0)∧Aside0 (Kd.S (Kd.slice 3 (Kd.int .i64)) 22 w' w.heap.size (fun _=>True) u3 r0)∧Aside0 (Below w.heap.size w w'))
    case atStart=>exact⟨(s0),(0),(sd),(sd),H',⟨Nat.le_refl _⟩,⟨kS v0⟩,⟨bl⟩⟩
    case round=>
     clear H';obtain⟨J0,K0,rfl,rfl,HA,HK3,v0,HB⟩:=hrel;obtain⟨k3,rfl,H⟩:=kz gk HA;clear HA;simp only[spec_FactorsOf.l1]at H
     by_cases L0:t0=0
     ·rw[if_pos L0]at H;exact absurd H (by simp)
     ·rw[if_neg L0]at H;have M0:(t0==0)=false:=beq_eq_false_iff_ne.mpr L0;have N0:(t0 != 0)=true:=bne_iff_ne.mpr L0;replace H:=qq H;obtain⟨P0,Q0,H⟩|⟨R0,P0,Q0,H⟩:=H
      ·have H':=qa H;clear H;go_wp2
       go_roundg k3
       case measure=>have:=HK1.out;have:=D0.out;have:=HK3.out;omega
       case rel=>exact⟨(wrap64 (Int.tdiv J0 t0)),(wrap64 (K0+1)),(sd),(sd),H',⟨by have:=HK1.out;have:=D0.out;have:=HK3.out;omega⟩,⟨kS v0⟩,⟨bl⟩⟩
      ·replace H:=qg H;obtain⟨U0,H⟩|⟨U0,H⟩:=H
       ·obtain⟨V0,hy_⟩:∃y_:List Int,y_=(([t0,K0]:List Int)):=⟨_,rfl⟩;replace H:(if r0.length<5864062014805 then(spec_FactorsOf.l0 k3 a0 (r0++[V0]) J0 (wrap64 (t0+1)))else(none))=some r:=yh;have W0:=qa hy_;clear hy_;replace H:=qn H;obtain⟨X0,H⟩:=H;have Y0:=qa X0;clear X0;obtain⟨a1,hy_⟩:∃y_:List (List Int),y_=(r0++[V0]):=⟨_,rfl⟩;replace H:(spec_FactorsOf.l0 k3 a0 a1 J0 (wrap64 (t0+1)))=some r:=yh;have b1:=qa hy_;clear hy_;have H':=qa H;clear H
        go_wp2_with(first|(refine rli .i64 3 32 W0.out fun c1 d1 e1 hb=>?_;replace v0:=qa (Kd.S_elder' (kS v0) (Kd.R_base e1) hb);have g1:=qa (Kd.R_lower e1 (below_size (bl)));replace HB:=bs hb;clear hb e1;obtain⟨n1,p1,rfl⟩:=Kd.R_slice g1.out)|((with_reducible refine gate_builtin (b:= .append) (xs:=#[.tmp 29,.tmp 33]) rfl ?_);at_builtin;refine Kd.S_append (Kd.slice 3 (Kd.int .i64)) (w0:=w) w.heap.size rfl (.tmp 29) (.tmp 33) 23 22 (.slice none 0 0) 24 rfl Tryz.underlying23 info22 rfl kd_ ko_ u3 r0 V0 [.slice n1 V0.length p1] (fun _=>True) (fun k_=>some k_=(.slice n1 V0.length p1:Value).ownBlock) rfl rfl ?aP (fun k_ hk_=>((Kd.R_mono (ok':=fun k_=>((fun _=>True)) k_∧some k_≠(u3:Value).ownBlock) (Kd.R_apart' (g1.out) (Kd.S_typed v0.out) kd_) (fun k_ hk=>⟨trivial,hk.2⟩))).1 k_ hk_.symm) ?aF ?aO ?aB ?aS ?aL ?_;(case aP=>exact Kd.M_row (Kd.R_mono (Kd.R_tight rfl (Kd.R_mono (ok':=fun k_=>((fun _=>True)) k_∧some k_≠(u3:Value).ownBlock) (Kd.R_apart' (g1.out) (Kd.S_typed v0.out) kd_) (fun k_ hk=>⟨trivial,hk.2⟩))) (fun _ h_=>h_)));(case aB=>exact(bl));(case aF=>exact(fun _ _=>trivial));(case aO=>exact z78_);(case aS=>exact(below_size (bl)));(case aL=>have:=Y0.out;omega);intro q1 r1 ho hb hg hat;rw[←b1.out]at ho;replace HB:=qa (hb);have s1:=qa (ho);clear v0 g1;clear ho hb hg hat))
        go_roundg k3
        case measure=>have:=HK1.out;have:=D0.out;have:=HK3.out;omega
        case rel=>exact⟨(a1),(J0),(wrap64 (t0+1)),(sd),(sd),H',⟨by have:=HK1.out;have:=D0.out;have:=HK3.out;omega⟩,⟨kS s1⟩,⟨bl⟩⟩
       ·have H':=qa H;clear H;go_wp2
        go_roundg k3
        case measure=>have:=HK1.out;have:=D0.out;have:=HK3.out;omega
        case rel=>exact⟨(r0),(J0),(wrap64 (t0+1)),(sd),(sd),H',⟨by have:=HK1.out;have:=D0.out;have:=HK3.out;omega⟩,⟨kS v0⟩,⟨bl⟩⟩
   ·obtain rfl:=sj H;go_wp2;go_ret;exact⟨_,er,kS v0,bl⟩
mutual
def spec_l2Named.l0:Nat→List Int→Int→Int→Option (Int)
 |0,_,_,_=>none
 |k+1,a0,b0,c0=>if c0<(a0.length:Int)then(if 0≤c0 then(spec_l2Named.l0 k a0 (wrap64 (b0+(rd a0 c0))) (wrap64 (c0+1)))else(none))else(some b0)
def spec_l2Named.l1:Nat→Int→Int→Int→Option (Int)
 |0,_,_,_=>none
 |k+1,d0,e0,g0=>if g0≤d0 then((spec_ApartOk.f k g0 d0).bind fun j0=>(if j0=true then(spec_l2Named.l1 k d0 (wrap64 (e0+1)) (wrap64 (g0+1)))else(spec_l2Named.l1 k d0 e0 (wrap64 (g0+1)))))else(some e0)
def spec_l2Named.l2:Nat→Int→List (List Int)→Int→Int→Option (Int)
 |0,_,_,_,_=>none
 |k+1,n0,p0,q0,r0=>if r0<(p0.length:Int)then(if n0=6 then(if 0≤r0 then(if 1<((rd_L1 p0 r0).length :Int)then(spec_l2Named.j3 k n0 p0 q0 r0 (decide ((rd (rd_L1 p0 r0) 1)>1)))else(none))else(none))else(spec_l2Named.j3 k n0 p0 q0 r0 false))else(some q0)
def spec_l2Named.j3:Nat→Int→List (List Int)→Int→Int→Bool→Option (Int)
 |0,_,_,_,_,_=>none
 |k+1,n0,p0,q0,r0,s0=>if s0=true then(some 0)else(if 0≤r0 then(if r0<(p0.length:Int)then(if 1<((rd_L1 p0 r0).length :Int)then(if(Int.tmod (rd (rd_L1 p0 r0) 1) 2)=1 then(spec_l2Named.l2 k n0 p0 (wrap64 (-q0)) (wrap64 (r0+1)))else(spec_l2Named.l2 k n0 p0 q0 (wrap64 (r0+1))))else(none))else(none))else(none))
end

def spec_l2Named.f (k:Nat) (a0:Int) (b0:Int):Option (Int):=(spec_FactorsOf.f k b0).bind fun c0=>((spec_DivisorsOf.f k b0).bind fun d0=>(if a0=0 then(if b0=1 then(some 1)else(some 0))else(if a0=1 then(some 1)else(if a0=2 then(some b0)else(if a0=3 then(some (d0.length:Int))else(if a0=4 then(spec_l2Named.l0 k d0 0 0)else(if a0=5 then(spec_l2Named.l1 k b0 0 1)else(spec_l2Named.l2 k a0 c0 1 0))))))))
theorem spec_l2Named.mono_l:∀k,(∀a0 b0 c0,LeO (spec_l2Named.l0 k a0 b0 c0) (spec_l2Named.l0 (k+1) a0 b0 c0))∧(∀a0 b0 c0,LeO (spec_l2Named.l1 k a0 b0 c0) (spec_l2Named.l1 (k+1) a0 b0 c0))∧(∀a0 b0 c0 d0,LeO (spec_l2Named.l2 k a0 b0 c0 d0) (spec_l2Named.l2 (k+1) a0 b0 c0 d0))∧(∀a0 b0 c0 d0 e0,LeO (spec_l2Named.j3 k a0 b0 c0 d0 e0) (spec_l2Named.j3 (k+1) a0 b0 c0 d0 e0))
 |0=>⟨fun _ _ _ r h=>by simp[spec_l2Named.l0]at h,fun _ _ _ r h=>by simp[spec_l2Named.l1]at h,fun _ _ _ _ r h=>by simp[spec_l2Named.l2]at h,fun _ _ _ _ _ r h=>by simp[spec_l2Named.j3]at h⟩
 |k+1=>by
  obtain⟨ih0,ih1,ih2,ih3⟩:=spec_l2Named.mono_l k;refine⟨?_,?_,?_,?_⟩
  ·intro a0 b0 c0;unfold spec_l2Named.l0;have m0:= @spec_ApartOk.mono;have m1:= @spec_DivisorsOf.mono;have m2:= @spec_FactorsOf.mono;exact mz
  ·intro a0 b0 c0;unfold spec_l2Named.l1;have m0:= @spec_ApartOk.mono;have m1:= @spec_DivisorsOf.mono;have m2:= @spec_FactorsOf.mono;exact mz
  ·intro a0 b0 c0 d0;unfold spec_l2Named.l2;have m0:= @spec_ApartOk.mono;have m1:= @spec_DivisorsOf.mono;have m2:= @spec_FactorsOf.mono;exact mz
  ·intro a0 b0 c0 d0 e0;unfold spec_l2Named.j3;have m0:= @spec_ApartOk.mono;have m1:= @spec_DivisorsOf.mono;have m2:= @spec_FactorsOf.mono;exact mz
theorem spec_l2Named.mono:∀a0 b0 k,LeO (spec_l2Named.f k a0 b0) (spec_l2Named.f (k+1) a0 b0):=by
 intro a0 b0 k;obtain⟨ih0,ih1,ih2,ih3⟩:=spec_l2Named.mono_l k;unfold spec_l2Named.f;have m0:= @spec_ApartOk.mono;have m1:= @spec_DivisorsOf.mono;have m2:= @spec_FactorsOf.mono;exact mz
theorem spec_l2Named.calls (k:Nat) (a0:Int) (b0:Int) (r:Int) (w:World) (h:spec_l2Named.f k a0 b0=some r):
  Calls Tryz.prog 152 #[.int .i64 a0,.int .i64 b0] w fun e w'=>e= .returned (.int .i64 r)∧Below w.heap.size w w':=by
 have HB:=qa (Below.refl w.heap.size w);have H:=h;unfold spec_l2Named.f at H;clear h;replace H:=qb H;obtain⟨c0,d0,H⟩:=H;replace H:=qb H;obtain⟨e0,g0,H⟩:=H;replace H:=qq H;obtain⟨j0,n0,H⟩|⟨p0,j0,n0,H⟩:=H
 ·replace H:=qq H;obtain⟨q0,r0,H⟩|⟨s0,q0,r0,H⟩:=H
  ·obtain rfl:=sj H
   go_enter Tryz.func152,Tryz.ntmps152
   go_wp2_with(first|(refine ge_ 14 Tryz.func126 (spec_FactorsOf.calls k b0 c0 _ d0.out) fun t0 v0 w0 hb=>?_;have x0:=qa (Kd.S_lower w0 (below_size (bl)));replace HB:=bs hb)|(refine ge_ 16 Tryz.func86 (spec_DivisorsOf.calls k b0 e0 _ g0.out) fun y0 A0 w0 hb=>?_;replace x0:=qa (Kd.S_elder' (kS x0) (Kd.R_base w0) hb);have B0:=qa (Kd.R_lower w0 (below_size (bl)));replace HB:=bs hb))
   go_ret;exact⟨er,bl⟩
  ·obtain rfl:=sj H
   go_enter Tryz.func152,Tryz.ntmps152
   go_wp2_with(first|(refine ge_ 14 Tryz.func126 (spec_FactorsOf.calls k b0 c0 _ d0.out) fun t0 C0 w0 hb=>?_;have x0:=qa (Kd.S_lower w0 (below_size (bl)));replace HB:=bs hb)|(refine ge_ 16 Tryz.func86 (spec_DivisorsOf.calls k b0 e0 _ g0.out) fun y0 D0 w0 hb=>?_;replace x0:=qa (Kd.S_elder' (kS x0) (Kd.R_base w0) hb);have B0:=qa (Kd.R_lower w0 (below_size (bl)));replace HB:=bs hb))
   go_ret;exact⟨er,bl⟩
 ·replace H:=qq H;obtain⟨E0,G0,H⟩|⟨J0,E0,G0,H⟩:=H
  ·obtain rfl:=sj H
   go_enter Tryz.func152,Tryz.ntmps152
   go_wp2_with(first|(refine ge_ 14 Tryz.func126 (spec_FactorsOf.calls k b0 c0 _ d0.out) fun t0 K0 w0 hb=>?_;have x0:=qa (Kd.S_lower w0 (below_size (bl)));replace HB:=bs hb)|(refine ge_ 16 Tryz.func86 (spec_DivisorsOf.calls k b0 e0 _ g0.out) fun y0 L0 w0 hb=>?_;replace x0:=qa (Kd.S_elder' (kS x0) (Kd.R_base w0) hb);have B0:=qa (Kd.R_lower w0 (below_size (bl)));replace HB:=bs hb))
   go_ret;exact⟨er,bl⟩
  ·replace H:=qq H;obtain⟨M0,N0,H⟩|⟨P0,M0,N0,H⟩:=H
   ·obtain rfl:=sj H
    go_enter Tryz.func152,Tryz.ntmps152
    go_wp2_with(first|(refine ge_ 14 Tryz.func126 (spec_FactorsOf.calls k b0 c0 _ d0.out) fun t0 Q0 w0 hb=>?_;have x0:=qa (Kd.S_lower w0 (below_size (bl)));replace HB:=bs hb)|(refine ge_ 16 Tryz.func86 (spec_DivisorsOf.calls k b0 e0 _ g0.out) fun y0 R0 w0 hb=>?_;replace x0:=qa (Kd.S_elder' (kS x0) (Kd.R_base w0) hb);have B0:=qa (Kd.R_lower w0 (below_size (bl)));replace HB:=bs hb))
    go_ret;exact⟨er,bl⟩
   ·replace H:=qq H;obtain⟨U0,V0,H⟩|⟨W0,U0,V0,H⟩:=H
    ·obtain rfl:=sj H
     go_enter Tryz.func152,Tryz.ntmps152
     go_wp2_with(first|(refine ge_ 14 Tryz.func126 (spec_FactorsOf.calls k b0 c0 _ d0.out) fun t0 X0 w0 hb=>?_;have x0:=qa (Kd.S_lower w0 (below_size (bl)));replace HB:=bs hb)|(refine ge_ 16 Tryz.func86 (spec_DivisorsOf.calls k b0 e0 _ g0.out) fun y0 Y0 w0 hb=>?_;replace x0:=qa (Kd.S_elder' (kS x0) (Kd.R_base w0) hb);have B0:=qa (Kd.R_lower w0 (below_size (bl)));replace HB:=bs hb;obtain⟨a1,b1,rfl⟩:=Kd.R_slice B0.out))
     go_ret;exact⟨er,bl⟩
    ·replace H:=qq H;obtain⟨c1,d1,H⟩|⟨e1,c1,d1,H⟩:=H
     ·have H':=qa H;clear H
      go_enter Tryz.func152,Tryz.ntmps152
      go_wp2_with(first|(refine ge_ 14 Tryz.func126 (spec_FactorsOf.calls k b0 c0 _ d0.out) fun t0 g1 w0 hb=>?_;have x0:=qa (Kd.S_lower w0 (below_size (bl)));replace HB:=bs hb)|(refine ge_ 16 Tryz.func86 (spec_DivisorsOf.calls k b0 e0 _ g0.out) fun y0 j1 w0 hb=>?_;replace x0:=qa (Kd.S_elder' (kS x0) (Kd.R_base w0) hb);have B0:=qa (Kd.R_lower w0 (below_size (bl)));replace HB:=bs hb))
      go_loopg [7,8] k (fun kq n1 p1 w'=>∃(q1:Int) (r1:Int),n1= .int .i64 q1∧p1= .int .i64 r1∧Aside0 (spec_l2Named.l0 kq e0 q1 r1=some r)∧Aside0 (kq≤k)∧Aside0 (Kd.R (Kd.int .i64) 3 w' w.heap.size (fun _=>True) y0 e0)∧Aside0 (Below w.heap.size w w'))
      case atStart=>exact⟨(0),(0),(sd),(sd),H',⟨Nat.le_refl _⟩,⟨kR B0⟩,⟨bl⟩⟩
      case round=>
       clear H';obtain⟨q1,r1,rfl,rfl,HA,HK1,s1,HB⟩:=hrel;obtain⟨k1,rfl,H⟩:=kz gk HA;clear HA;simp only[spec_l2Named.l0]at H;replace H:=qe H;obtain⟨t1,H⟩|⟨t1,H⟩:=H
       ·replace H:=qd H;obtain⟨v1,H⟩:=H;have H':=qa H;clear H;obtain⟨w1,x1,rfl⟩:=Kd.R_slice s1.out;obtain⟨y1,⟨⟩,A1,B1,C1⟩:=ai (Kd.R_reads' s1.out).2.2 r1;go_wp2
        go_roundg k1
        case measure=>have:=HK1.out;omega
        case rel=>exact⟨(wrap64 (q1+(rd e0 r1))),(wrap64 (r1+1)),(sd),(sd),H',⟨by have:=HK1.out;omega⟩,⟨kR s1⟩,⟨bl⟩⟩
       ·obtain rfl:=sj H;obtain⟨D1,E1,rfl⟩:=Kd.R_slice s1.out;go_wp2;go_ret;exact⟨er,bl⟩
     ·replace H:=qq H;obtain⟨G1,J1,H⟩|⟨K1,G1,J1,H⟩:=H
      ·have H':=qa H;clear H
       go_enter Tryz.func152,Tryz.ntmps152
       go_wp2_with(first|(refine ge_ 14 Tryz.func126 (spec_FactorsOf.calls k b0 c0 _ d0.out) fun t0 L1 w0 hb=>?_;have x0:=qa (Kd.S_lower w0 (below_size (bl)));replace HB:=bs hb)|(refine ge_ 16 Tryz.func86 (spec_DivisorsOf.calls k b0 e0 _ g0.out) fun y0 M1 w0 hb=>?_;replace x0:=qa (Kd.S_elder' (kS x0) (Kd.R_base w0) hb);have B0:=qa (Kd.R_lower w0 (below_size (bl)));replace HB:=bs hb))
       go_loopg [9,10] k (fun kq N1 P1 w'=>∃(Q1:Int) (R1:Int),N1= .int .i64 Q1∧P1= .int .i64 R1∧Aside0 (spec_l2Named.l1 kq b0 Q1 R1=some r)∧Aside0 (kq≤k)∧Aside0 (Below w.heap.size w w'))
       case atStart=>exact⟨(0),(1),(sd),(sd),H',⟨Nat.le_refl _⟩,⟨bl⟩⟩
       case round=>
        clear H';obtain⟨Q1,R1,rfl,rfl,HA,HK1,HB⟩:=hrel;obtain⟨k1,rfl,H⟩:=kz gk HA;clear HA;simp only[spec_l2Named.l1]at H;replace H:=qe H;obtain⟨U1,H⟩|⟨U1,H⟩:=H
        ·replace H:=qb H;obtain⟨V1,W1,H⟩:=H;replace H:=qc H;obtain⟨rfl,H⟩|⟨rfl,H⟩:=H
         ·have H':=qa H;clear H
          go_wp2_with(first|(refine gd 55 Tryz.func83 (spec_ApartOk.calls k1 R1 b0 true _ W1.out) fun nd=>?_))
          go_roundg k1
          case measure=>have:=HK1.out;omega
          case rel=>exact⟨(wrap64 (Q1+1)),(wrap64 (R1+1)),(sd),(sd),H',⟨by have:=HK1.out;omega⟩,⟨bl⟩⟩
         ·have H':=qa H;clear H
          go_wp2_with(first|(refine gd 55 Tryz.func83 (spec_ApartOk.calls k1 R1 b0 false _ W1.out) fun nd=>?_))
          go_roundg k1
          case measure=>have:=HK1.out;omega
          case rel=>exact⟨(Q1),(wrap64 (R1+1)),(sd),(sd),H',⟨by have:=HK1.out;omega⟩,⟨bl⟩⟩
        ·obtain rfl:=sj H;go_wp2;go_ret;exact⟨er,bl⟩
      ·have H':=qa H;clear H
       go_enter Tryz.func152,Tryz.ntmps152
       go_wp2_with(first|(refine ge_ 14 Tryz.func126 (spec_FactorsOf.calls k b0 c0 _ d0.out) fun t0 X1 w0 hb=>?_;have x0:=qa (Kd.S_lower w0 (below_size (bl)));replace HB:=bs hb)|(refine ge_ 16 Tryz.func86 (spec_DivisorsOf.calls k b0 e0 _ g0.out) fun y0 Y1 w0 hb=>?_;replace x0:=qa (Kd.S_elder' (kS x0) (Kd.R_base w0) hb);have B0:=qa (Kd.R_lower w0 (below_size (bl)));replace HB:=bs hb))
       go_loopg [11,12] k (fun kq a2 b2 w'=>∃(c2:Int) (d2:Int),a2= .int .i64 c2∧b2= .int .i64 d2∧Aside0 (spec_l2Named.l2 kq a0 c0 c2 d2=some r)∧Aside0 (kq≤k)∧Aside0 (Kd.S (Kd.slice 3 (Kd.int .i64)) 22 w' w.heap.size (fun _=>True) t0 c0)∧Aside0 (Below w.heap.size w w'))
       case atStart=>exact⟨(1),(0),(sd),(sd),H',⟨Nat.le_refl _⟩,⟨by(with_reducible repeat(first|apply Kd.S_alloc|apply Kd.S_drewN|apply Kd.S_drew));exact Kd.S_mono x0.out (fun _ hk=>trivial)⟩,⟨bl⟩⟩
       case round=>
        clear H';obtain⟨c2,d2,rfl,rfl,HA,HK1,e2,HB⟩:=hrel;obtain⟨k1,rfl,H⟩:=kz gk HA;clear HA;simp only[spec_l2Named.l2]at H;replace H:=qe H;obtain⟨g2,H⟩|⟨g2,H⟩:=H
        ·have j2:=qa H;clear H;obtain⟨n2,p2,rfl⟩:=Kd.S_slice e2.out
         go_upto_region 33 with(fail)
         go_cut [75] (fun q2 wc=>∃(kq:Nat) (r2:Bool),q2= .bool r2∧Aside0 (spec_l2Named.j3 kq a0 c0 c2 d2 r2=some r)∧Aside0 (kq≤k1)∧Aside0 (Kd.S (Kd.slice 3 (Kd.int .i64)) 22 wc w.heap.size (fun _=>True) (.slice n2 c0.length p2) c0)∧Aside0 (Below w.heap.size w wc))
         case first=>
          have H:=j2.out;clear j2;replace H:=qq H;obtain⟨s2,t2,H⟩|⟨v2,s2,t2,H⟩:=H
          ·(first|rw[s2]|(simp only[i64_w,i32_w];rw[s2])|skip);replace H:=qd H;obtain⟨w2,H⟩:=H;replace H:=qL 1 H;obtain⟨x2,y2,H⟩:=H;have H':=qa H;clear H;obtain⟨A2,B2,C2,⟨⟩,D2,HL635_0,E2,G2,J2,K2⟩:=sg_L1 e2.out d2;have L2:0≤(1:Int):=ko_;have M2:1<((rd_L1 c0 d2).length :Int):=qo;obtain⟨N2,P2,Q2⟩:=Kd.at_int (by repeat(first|(with_reducible exact E2.out)|(with_reducible refine Kd.C_alloc ?_ _)|(with_reducible refine Kd.C_drewN ?_ _)|(with_reducible refine Kd.C_drew ?_)|exact E2.out)) 1 L2 M2;cases P2;(try simp only[show(1:Int).toNat =1 from rfl,Nat.reduceMul,Nat.reduceEqDiff,Go.Addr.add,↓reduceIte]at Q2);have qi636:(1<(rd_L1 c0 d2).length)=True:=eq_true ko_;(try rw[show((1:Int)).toNat =1 from rfl]at Q2);replace L2:=eq_true L2;replace M2:=eq_true M2;go_wp2;go_meet
           case rel=>exact⟨_,(decide ((rd (rd_L1 c0 d2) 1)>1)),(sd),H',⟨z12_⟩,⟨kS e2⟩,⟨bl⟩⟩
          ·(first|rw[s2]|(simp only[i64_w,i32_w];rw[s2])|skip);have H':=qa H;clear H;go_wp2;go_meet
           case rel=>exact⟨_,(false),(sd),H',⟨z12_⟩,⟨kS e2⟩,⟨bl⟩⟩
         case rest=>
          clear j2;obtain⟨kq,r2,rfl,HA,R2,e2,HB⟩:=hcut;obtain⟨U2,rfl,H⟩:=kz kq HA;clear HA;simp only[spec_l2Named.j3]at H;replace H:=qc H;obtain⟨rfl,H⟩|⟨rfl,H⟩:=H
          ·obtain rfl:=sj H;go_wp2;go_ret;exact⟨er,bl⟩
          ·replace H:=qd H;obtain⟨V2,H⟩:=H;replace H:=qd H;obtain⟨W2,H⟩:=H;replace H:=qL 1 H;obtain⟨X2,Y2,H⟩:=H;replace H:=qq H;obtain⟨a3,b3,H⟩|⟨c3,a3,b3,H⟩:=H
           ·have H':=qa H;clear H;obtain⟨d3,e3,g3,⟨⟩,l3,HL637_0,n3,p3,q3,r3⟩:=sg_L1 e2.out d2;have s3:0≤(1:Int):=ko_;have t3:1<((rd_L1 c0 d2).length :Int):=qo;obtain⟨v3,w3,x3⟩:=Kd.at_int z65_ 1 s3 t3;cases w3;(try simp only[show(1:Int).toNat =1 from rfl,Nat.reduceMul,Nat.reduceEqDiff,Go.Addr.add,↓reduceIte]at x3);have qi638:(1<(rd_L1 c0 d2).length)=True:=eq_true ko_;(try rw[show((1:Int)).toNat =1 from rfl]at x3);replace s3:=eq_true s3;replace t3:=eq_true t3;go_wp2
            go_roundg U2
            case measure=>have:=HK1.out;have:=R2.out;omega
            case rel=>exact⟨(wrap64 (-c2)),(wrap64 (d2+1)),(sd),(sd),H',⟨by have:=HK1.out;have:=R2.out;omega⟩,⟨kS e2⟩,⟨bl⟩⟩
           ·have H':=qa H;clear H;obtain⟨d3,e3,g3,⟨⟩,l3,HL637_0,n3,p3,q3,r3⟩:=sg_L1 e2.out d2;have s3:0≤(1:Int):=ko_;have t3:1<((rd_L1 c0 d2).length :Int):=qo;obtain⟨v3,w3,x3⟩:=Kd.at_int z65_ 1 s3 t3;cases w3;(try simp only[show(1:Int).toNat =1 from rfl,Nat.reduceMul,Nat.reduceEqDiff,Go.Addr.add,↓reduceIte]at x3);have qi638:(1<(rd_L1 c0 d2).length)=True:=eq_true ko_;(try rw[show((1:Int)).toNat =1 from rfl]at x3);replace s3:=eq_true s3;replace t3:=eq_true t3;go_wp2
            go_roundg U2
            case measure=>have:=HK1.out;have:=R2.out;omega
            case rel=>exact⟨(c2),(wrap64 (d2+1)),(sd),(sd),H',⟨by have:=HK1.out;have:=R2.out;omega⟩,⟨kS e2⟩,⟨bl⟩⟩
        ·obtain rfl:=sj H;obtain⟨y3,A3,rfl⟩:=Kd.S_slice e2.out;go_wp2;go_ret;exact⟨er,bl⟩

def spec_NamedRow.l0:Nat→Int→List Int→Int→Option (List Int)
 |0,_,_,_=>none
 |k+1,a0,b0,c0=>if c0≤24 then((spec_l1In.f a0 0 7).bind fun d0=>(if d0=true then((spec_l2Named.f k a0 c0).bind fun e0=>(if b0.length<17592186044416 then(spec_NamedRow.l0 k a0 (b0++[e0]) (wrap64 (c0+1)))else(none)))else(some b0)))else(some b0)
def spec_NamedRow.f (k:Nat) (a0:Int):Option (List Int):=spec_NamedRow.l0 k a0 (([]:List Int)) 1
theorem spec_NamedRow.mono_l:∀k,(∀a0 b0 c0,LeO (spec_NamedRow.l0 k a0 b0 c0) (spec_NamedRow.l0 (k+1) a0 b0 c0))
 |0=>fun _ _ _ r h=>by simp[spec_NamedRow.l0]at h
 |k+1=>by
  have ih0:=spec_NamedRow.mono_l k
  ·intro a0 b0 c0;unfold spec_NamedRow.l0;have m0:= @spec_l2Named.mono;exact mz
theorem spec_NamedRow.mono:∀a0 k,LeO (spec_NamedRow.f k a0) (spec_NamedRow.f (k+1) a0):=by
 intro a0 k;have ih0:=spec_NamedRow.mono_l k;unfold spec_NamedRow.f;have m0:= @spec_l2Named.mono;exact mz
theorem spec_NamedRow.calls (k:Nat) (a0:Int) (r:List Int) (w:World) (h:spec_NamedRow.f k a0=some r):
  Calls Tryz.prog 122 #[.int .i64 a0] w fun e w'=>∃v0_:Value,e= .returned (v0_)∧Kd.R (Kd.int .i64) 3 w' w.heap.size (fun _=>True) v0_ r∧Below w.heap.size w w':=by
 have HB:=qa (Below.refl w.heap.size w);have H:=h;unfold spec_NamedRow.f at H;clear h;obtain⟨b0,hy_⟩:∃y_:List Int,y_=(([]:List Int)):=⟨_,rfl⟩;replace H:(spec_NamedRow.l0 k a0 b0 1)=some r:=yh;have c0:=qa hy_;clear hy_;have H':=qa H;clear H
 go_enter Tryz.func122,Tryz.ntmps122
 go_wp2_with(first|(refine rli .i64 3 5 c0.out fun d0 e0 g0 hb=>?_;have j0:=qa (Kd.R_lower g0 (below_size (bl)));replace HB:=bs hb;clear hb g0))
 go_loopg [3,4] k (fun kq n0 p0 w'=>∃(q0:List Int) (r0:Int),p0= .int .i64 r0∧Aside0 (spec_NamedRow.l0 kq a0 q0 r0=some r)∧Aside0 (kq≤k)∧Aside0 (Kd.R (Kd.int .i64) 3 w' w.heap.size (fun _=>True) n0 q0)∧Aside0 (Below w.heap.size w w'))
 case atStart=>exact⟨(b0),(1),(sd),H',⟨Nat.le_refl _⟩,⟨kR j0⟩,⟨bl⟩⟩
 case round=>
  clear H';obtain⟨q0,r0,rfl,HA,HK1,s0,HB⟩:=hrel;obtain⟨k1,rfl,H⟩:=kz gk HA;clear HA;simp only[spec_NamedRow.l0]at H;replace H:=qe H;obtain⟨t0,H⟩|⟨t0,H⟩:=H
  ·replace H:=qb H;obtain⟨v0,w0,H⟩:=H;replace H:=qc H;obtain⟨rfl,H⟩|⟨rfl,H⟩:=H
   ·replace H:=qb H;obtain⟨x0,y0,H⟩:=H;replace H:=qn H;obtain⟨A0,H⟩:=H;have B0:=qa A0;clear A0;obtain⟨C0,hy_⟩:∃y_:List Int,y_=(q0++[x0]):=⟨_,rfl⟩;replace H:(spec_NamedRow.l0 k1 a0 C0 (wrap64 (r0+1)))=some r:=yh;have D0:=qa hy_;clear hy_;have H':=qa H;clear H
    go_wp2_with(first|(go_at_call 84;(with_reducible refine gm (spec_l1In.calls a0 0 7 true _ w0.out) fun nd=>?_))|(refine gb 17 Tryz.func152 (spec_l2Named.calls k1 a0 r0 x0 _ y0.out) fun E0 hb=>?_;replace s0:=qa (Kd.R_below (kR s0) hb);replace HB:=bs hb)|((with_reducible refine gate_builtin (b:= .append) (xs:=#[.tmp 14,.tmp 18]) rfl ?_);at_builtin;refine Kd.R_append (Kd.int .i64) (w0:=w) w.heap.size rfl (.tmp 14) (.tmp 18) 22 3 (.int .i64 0) 8 rfl Tryz.underlying22 info3 rfl kd_ ko_ u3 q0 x0 [.int .i64 x0] (fun _=>True) (fun _=>False) rfl rfl ?aP (fun _ hk=>hk.elim) ?aF ?aO ?aB ?aS ?aL ?_;(case aP=>exact rfl);(case aB=>exact(bl));(case aF=>exact(fun _ _=>trivial));(case aO=>exact(kR s0));(case aS=>exact(below_size (bl)));(case aL=>have:=B0.out;omega);intro G0 J0 ho hb hg hat;rw[←D0.out]at ho;replace HB:=qa (hb);have K0:=qa (ho);clear s0;clear ho hb hg hat))
    go_roundg k1
    case measure=>have:=HK1.out;omega
    case rel=>exact⟨(C0),(wrap64 (r0+1)),(sd),H',⟨by have:=HK1.out;omega⟩,⟨kR K0⟩,⟨bl⟩⟩
   ·obtain rfl:=sj H
    go_wp2_with(first|(go_at_call 84;(with_reducible refine gm (spec_l1In.calls a0 0 7 false _ w0.out) fun nd=>?_)))
    go_ret;exact⟨_,er,kR s0,bl⟩
  ·obtain rfl:=sj H;go_wp2;go_ret;exact⟨_,er,kR s0,bl⟩
def spec_DividesOk.f (a0:Int) (b0:Int):Option (Bool):=(spec_l1In.f a0 1 10000).bind fun c0=>(if c0=true then((spec_l1In.f b0 1 10000).bind fun d0=>(if d0=true then(if a0=0 then(none)else(some ((Int.tmod b0 a0)==0)))else(some false)))else(some false))
theorem spec_DividesOk.calls (a0:Int) (b0:Int) (r:Bool) (w:World) (h:spec_DividesOk.f a0 b0=some r):
  Calls Tryz.prog 178 #[.int .i64 a0,.int .i64 b0] w fun e w'=>e= .returned (.bool r)∧Drawn0 w w':=by
 have H:=h;unfold spec_DividesOk.f at H;clear h;replace H:=qb H;obtain⟨c0,d0,H⟩:=H;replace H:=qc H;obtain⟨rfl,H⟩|⟨rfl,H⟩:=H
 ·replace H:=qb H;obtain⟨e0,g0,H⟩:=H;replace H:=qc H;obtain⟨rfl,H⟩|⟨rfl,H⟩:=H
  ·by_cases j0:a0=0
   ·rw[if_pos j0]at H;exact absurd H (by simp)
   ·rw[if_neg j0]at H;have l0:(a0==0)=false:=beq_eq_false_iff_ne.mpr j0;have n0:(a0 != 0)=true:=bne_iff_ne.mpr j0;obtain rfl:=sj H
    go_enter Tryz.func178,Tryz.ntmps178
    go_wp2_with(first|(refine gd 6 Tryz.func84 (spec_l1In.calls a0 1 10000 true _ d0.out) fun nd=>?_)|(go_at_call 84;(with_reducible refine gm (spec_l1In.calls b0 1 10000 true _ g0.out) fun nd=>?_)))
    go_ret;exact⟨sd,dr⟩
  ·obtain rfl:=sj H
   go_enter Tryz.func178,Tryz.ntmps178
   go_wp2_with(first|(refine gd 6 Tryz.func84 (spec_l1In.calls a0 1 10000 true _ d0.out) fun nd=>?_)|(go_at_call 84;(with_reducible refine gm (spec_l1In.calls b0 1 10000 false _ g0.out) fun nd=>?_)))
   go_ret;exact⟨sd,dr⟩
 ·obtain rfl:=sj H
  go_enter Tryz.func178,Tryz.ntmps178
  go_wp2_with(first|(refine gd 6 Tryz.func84 (spec_l1In.calls a0 1 10000 false _ d0.out) fun nd=>?_))
  go_ret;exact⟨sd,dr⟩

def spec_UnitaryOk.f (k:Nat) (a0:Int) (b0:Int):Option (Bool):=(spec_DividesOk.f a0 b0).bind fun c0=>(if c0=true then(if a0=0 then(none)else((spec_ApartOk.f k a0 (wrap64 (Int.tdiv b0 a0))).bind fun d0=>(some d0)))else(some false))
theorem spec_UnitaryOk.mono:∀a0 b0 k,LeO (spec_UnitaryOk.f k a0 b0) (spec_UnitaryOk.f (k+1) a0 b0):=by
 intro a0 b0 k;unfold spec_UnitaryOk.f;have m0:= @spec_ApartOk.mono;exact mz
theorem spec_UnitaryOk.calls (k:Nat) (a0:Int) (b0:Int) (r:Bool) (w:World) (h:spec_UnitaryOk.f k a0 b0=some r):
  Calls Tryz.prog 153 #[.int .i64 a0,.int .i64 b0] w fun e w'=>e= .returned (.bool r)∧Drawn0 w w':=by
 have H:=h;unfold spec_UnitaryOk.f at H;clear h;replace H:=qb H;obtain⟨c0,d0,H⟩:=H;replace H:=qc H;obtain⟨rfl,H⟩|⟨rfl,H⟩:=H
 ·by_cases e0:a0=0
  ·rw[if_pos e0]at H;exact absurd H (by simp)
  ·rw[if_neg e0]at H;have g0:(a0==0)=false:=beq_eq_false_iff_ne.mpr e0;have j0:(a0 != 0)=true:=bne_iff_ne.mpr e0;replace H:=qb H;obtain⟨l0,n0,H⟩:=H;obtain rfl:=sj H
   go_enter Tryz.func153,Tryz.ntmps153
   go_wp2_with(first|(refine gd 7 Tryz.func178 (spec_DividesOk.calls a0 b0 true _ d0.out) fun nd=>?_)|(go_at_call 83;(with_reducible refine gm (spec_ApartOk.calls k a0 (wrap64 (Int.tdiv b0 a0)) l0 _ n0.out) fun nd=>?_)))
   go_ret;exact⟨sd,dr⟩
 ·obtain rfl:=sj H
  go_enter Tryz.func153,Tryz.ntmps153
  go_wp2_with(first|(refine gd 7 Tryz.func178 (spec_DividesOk.calls a0 b0 false _ d0.out) fun nd=>?_))
  go_ret;exact⟨sd,dr⟩

mutual
def spec_UnitaryTimes.l0:Nat→List Int→List Int→Bool→List Int→Int→Option (List Int×Bool)
 |0,_,_,_,_,_=>none
 |k+1,a0,b0,c0,d0,e0=>if e0≤24 then(spec_UnitaryTimes.j1 k a0 b0 c0 d0 e0 c0)else(spec_UnitaryTimes.j1 k a0 b0 c0 d0 e0 false)
def spec_UnitaryTimes.j1:Nat→List Int→List Int→Bool→List Int→Int→Bool→Option (List Int×Bool)
 |0,_,_,_,_,_,_=>none
 |k+1,a0,b0,c0,d0,e0,g0=>if g0=true then(spec_UnitaryTimes.l1 k a0 b0 c0 d0 e0 0 1)else(some (d0,c0))
def spec_UnitaryTimes.l1:Nat→List Int→List Int→Bool→List Int→Int→Int→Int→Option (List Int×Bool)
 |0,_,_,_,_,_,_,_=>none
 |k+1,a0,b0,c0,d0,e0,j0,n0=>if n0≤e0 then((spec_UnitaryOk.f k n0 e0).bind fun p0=>(if p0=true then(if 0≤(wrap64 (n0-1))then(if(wrap64 (n0-1))<(a0.length:Int)then(if n0=0 then(none)else(if 0≤(wrap64 ((wrap64 (Int.tdiv e0 n0))-1))then(if(wrap64 ((wrap64 (Int.tdiv e0 n0))-1))<(b0.length:Int)then(spec_UnitaryTimes.l1 k a0 b0 c0 d0 e0 (wrap64 (j0+(wrap64 ((rd a0 (wrap64 (n0-1)))*(rd b0 (wrap64 ((wrap64 (Int.tdiv e0 n0))-1))))))) (wrap64 (n0+1)))else(none))else(none)))else(none))else(none))else(spec_UnitaryTimes.l1 k a0 b0 c0 d0 e0 j0 (wrap64 (n0+1)))))else(if d0.length<17592186044416 then(spec_UnitaryTimes.l0 k a0 b0 c0 (d0++[j0]) (wrap64 (e0+1)))else(none))
end

def spec_UnitaryTimes.f (k:Nat) (a0:List Int) (b0:List Int):Option (List Int×Bool):=(spec_TimesOf.f k a0 b0).bind fun c0=>(spec_UnitaryTimes.l0 k a0 b0 c0.2 (([]:List Int)) 1)
theorem spec_UnitaryTimes.mono_l:∀k,(∀a0 b0 c0 d0 e0,LeO (spec_UnitaryTimes.l0 k a0 b0 c0 d0 e0) (spec_UnitaryTimes.l0 (k+1) a0 b0 c0 d0 e0))∧(∀a0 b0 c0 d0 e0 g0,LeO (spec_UnitaryTimes.j1 k a0 b0 c0 d0 e0 g0) (spec_UnitaryTimes.j1 (k+1) a0 b0 c0 d0 e0 g0))∧(∀a0 b0 c0 d0 e0 g0 j0,LeO (spec_UnitaryTimes.l1 k a0 b0 c0 d0 e0 g0 j0) (spec_UnitaryTimes.l1 (k+1) a0 b0 c0 d0 e0 g0 j0))
 |0=>⟨fun _ _ _ _ _ r h=>by simp[spec_UnitaryTimes.l0]at h,fun _ _ _ _ _ _ r h=>by simp[spec_UnitaryTimes.j1]at h,fun _ _ _ _ _ _ _ r h=>by simp[spec_UnitaryTimes.l1]at h⟩
 |k+1=>by
  obtain⟨ih0,ih1,ih2⟩:=spec_UnitaryTimes.mono_l k;refine⟨?_,?_,?_⟩
  ·intro a0 b0 c0 d0 e0;unfold spec_UnitaryTimes.l0;have m0:= @spec_TimesOf.mono;have m1:= @spec_UnitaryOk.mono;exact mz
  ·intro a0 b0 c0 d0 e0 g0;unfold spec_UnitaryTimes.j1;have m0:= @spec_TimesOf.mono;have m1:= @spec_UnitaryOk.mono;exact mz
  ·intro a0 b0 c0 d0 e0 g0 j0;unfold spec_UnitaryTimes.l1;have m0:= @spec_TimesOf.mono;have m1:= @spec_UnitaryOk.mono;exact mz
theorem spec_UnitaryTimes.calls (k:Nat) (a0:Option Addr) (b0:Nat) (c0:List Int) (d0:Option Addr) (e0:Nat) (g0:List Int) (j0:List Int) (n0:Bool) (w:World) (p0:Kd.C (Kd.int .i64) w a0 c0.length c0) (q0:c0.length≤b0) (r0:Kd.C (Kd.int .i64) w d0 g0.length g0) (s0:g0.length≤e0) (h:spec_UnitaryTimes.f k c0 g0=some (j0,n0)):
  Calls Tryz.prog 123 #[.slice a0 c0.length b0,.slice d0 g0.length e0] w fun e w'=>∃v0_:Value,e= .returned (.tuple #[v0_,.bool n0])∧Kd.R (Kd.int .i64) 3 w' w.heap.size (fun _=>True) v0_ j0∧Below w.heap.size w w':=by
 have t0:=qa p0;have v0:=qa q0;clear p0 q0;have w0:=qa r0;have x0:=qa s0;clear r0 s0;have HB:=qa (Below.refl w.heap.size w);have H:=h;unfold spec_UnitaryTimes.f at H;clear h;replace H:=qb H;obtain⟨⟨y0,A0⟩,B0,H⟩:=H;(try dsimp only at H);obtain⟨C0,hy_⟩:∃y_:List Int,y_=(([]:List Int)):=⟨_,rfl⟩;replace H:(spec_UnitaryTimes.l0 k c0 g0 A0 C0 1)=some (j0,n0):=yh;have D0:=qa hy_;clear hy_;have H':=qa H;clear H
 go_enter Tryz.func123,Tryz.ntmps123
 go_wp2_with(first|(go_at_call 121;(with_reducible refine(spec_TimesOf.calls k _ _ c0 _ _ g0 y0 A0 _ ?E0 ?G0 ?J0 ?K0 B0.out).mono ?_);(case E0=>exact cx t0.out);(case G0=>exact v0.out);(case J0=>exact cx w0.out);(case K0=>exact x0.out);rintro e L0 ⟨M0,rfl,N0,hb⟩;have P0:=qa (Kd.R_lower N0 (below_size (bl)));replace HB:=bs hb)|(refine rli .i64 3 18 D0.out fun Q0 R0 U0 hb=>?_;have V0:=qa (Kd.R_lower (Kd.R_new' U0 (Kd.R_lt (kR P0))) (below_size (bl)));replace P0:=qa (Kd.R_elder' (kR P0) (Kd.R_base U0) hb);replace HB:=bs hb;clear hb U0))
 repeat(go_quiet(fail);try go_wp2_with(first|(go_at_call 121;(with_reducible refine(spec_TimesOf.calls k _ _ c0 _ _ g0 y0 A0 _ ?E0 ?G0 ?J0 ?K0 B0.out).mono ?_);(case E0=>exact cx t0.out);(case G0=>exact v0.out);(case J0=>exact cx w0.out);(case K0=>exact x0.out);rintro e L0 ⟨M0,rfl,N0,hb⟩;have P0:=qa (Kd.R_lower N0 (below_size (bl)));replace HB:=bs hb)|(refine rli .i64 3 18 D0.out fun Q0 R0 U0 hb=>?_;have V0:=qa (Kd.R_lower (Kd.R_new' U0 (Kd.R_lt (kR P0))) (below_size (bl)));replace P0:=qa (Kd.R_elder' (kR P0) (Kd.R_base U0) hb);replace HB:=bs hb;clear hb U0)))
 go_loopg [8,9] k (fun kq W0 X0 w'=>∃(Y0:List Int) (a1:Int),X0= .int .i64 a1∧Aside0 (spec_UnitaryTimes.l0 kq c0 g0 A0 Y0 a1=some (j0,n0))∧Aside0 (kq≤k)∧Aside0 (Kd.R (Kd.int .i64) 3 w' w.heap.size (fun _=>True) W0 Y0)∧Aside0 (Below w.heap.size w w'))
 case atStart=>exact⟨(C0),(1),(sd),H',⟨Nat.le_refl _⟩,⟨by(with_reducible repeat(first|apply Kd.R_alloc|apply Kd.R_drewN|apply Kd.R_drew));exact Kd.R_mono V0.out (fun _ hk=>trivial)⟩,⟨bl⟩⟩
 case round=>
  clear H';obtain⟨Y0,a1,rfl,HA,HK1,b1,HB⟩:=hrel;obtain⟨k1,rfl,H⟩:=kz gk HA;clear HA;simp only[spec_UnitaryTimes.l0]at H;have c1:=qa H;clear H
  go_upto_region 4 with(fail)
  repeat(go_quiet(fail);go_upto_region 4 with(fail))
  go_cut [23] (fun d1 wc=>∃(kq:Nat) (e1:Bool),d1= .bool e1∧Aside0 (spec_UnitaryTimes.j1 kq c0 g0 A0 Y0 a1 e1=some (j0,n0))∧Aside0 (kq≤k1)∧Aside0 (Kd.R (Kd.int .i64) 3 wc w.heap.size (fun _=>True) u8 Y0)∧Aside0 (Below w.heap.size w wc))
  case first=>
   have H:=c1.out;clear c1;replace H:=qe H;obtain⟨g1,H⟩|⟨g1,H⟩:=H
   ·(first|rw[g1]|(simp only[i64_w,i32_w];rw[g1])|skip);have H':=qa H;clear H;go_wp2
    repeat(go_quiet(fail);try go_wp2)
    go_meet
    case rel=>exact⟨_,(A0),(sd),H',⟨z12_⟩,⟨kR b1⟩,⟨bl⟩⟩
   ·(first|rw[g1]|(simp only[i64_w,i32_w];rw[g1])|skip);have H':=qa H;clear H;go_wp2
    repeat(go_quiet(fail);try go_wp2)
    go_meet
    case rel=>exact⟨_,(false),(sd),H',⟨z12_⟩,⟨kR b1⟩,⟨bl⟩⟩
  case rest=>
   clear c1;obtain⟨kq,e1,rfl,HA,n1,b1,HB⟩:=hcut;obtain⟨p1,rfl,H⟩:=kz kq HA;clear HA;simp only[spec_UnitaryTimes.j1]at H;replace H:=qc H;obtain⟨rfl,H⟩|⟨rfl,H⟩:=H
   ·have H':=qa H;clear H;go_wp2
    repeat(go_quiet(fail);try go_wp2)
    go_loopg [10,11] p1 (fun kq q1 r1 w'=>∃(s1:Int) (t1:Int),q1= .int .i64 s1∧r1= .int .i64 t1∧Aside0 (spec_UnitaryTimes.l1 kq c0 g0 A0 Y0 a1 s1 t1=some (j0,n0))∧Aside0 (kq≤p1)∧Aside0 (Kd.R (Kd.int .i64) 3 w' w.heap.size (fun _=>True) u8 Y0)∧Aside0 (Below w.heap.size w w'))
    case atStart=>exact⟨(0),(1),(sd),(sd),H',⟨Nat.le_refl _⟩,⟨kR b1⟩,⟨bl⟩⟩
    case round=>
     clear H';obtain⟨s1,t1,rfl,rfl,HA,HK3,b1,HB⟩:=hrel;obtain⟨k3,rfl,H⟩:=kz gk HA;clear HA;simp only[spec_UnitaryTimes.l1]at H;replace H:=qe H;obtain⟨v1,H⟩|⟨v1,H⟩:=H
     ·replace H:=qb H;obtain⟨w1,x1,H⟩:=H;replace H:=qc H;obtain⟨rfl,H⟩|⟨rfl,H⟩:=H
      ·obtain⟨y1,A1⟩:∃j_:Int,(wrap64 (t1-1))=j_:=⟨_,rfl⟩;(first|rw[A1]at H|(try simp only[A1]at H));(try rw[A1]at x1);have B1:(IntKind.i64.wrap (t1-1))=y1:=(i64_w _).trans A1;replace H:=qd H;obtain⟨C1,H⟩:=H;replace H:=qd H;obtain⟨D1,H⟩:=H
       by_cases E1:t1=0
       ·rw[if_pos E1]at H;exact absurd H (by simp)
       ·rw[if_neg E1]at H;have G1:(t1==0)=false:=beq_eq_false_iff_ne.mpr E1;have J1:(t1 != 0)=true:=bne_iff_ne.mpr E1;obtain⟨K1,L1⟩:∃j_:Int,(wrap64 ((wrap64 (Int.tdiv a1 t1))-1))=j_:=⟨_,rfl⟩;(first|rw[L1]at H|(try simp only[L1]at H));(try rw[L1]at x1);have M1:(IntKind.i64.wrap ((wrap64 (Int.tdiv a1 t1))-1))=K1:=(i64_w _).trans L1;replace H:=qd H;obtain⟨N1,H⟩:=H;replace H:=qd H;obtain⟨P1,H⟩:=H;have H':=qa H;clear H
        go_wp2_with(first|(go_at_call 153;(with_reducible refine gm (spec_UnitaryOk.calls k3 t1 a1 true _ x1.out) fun nd=>?_);(try exact dn);obtain⟨Q1,⟨⟩,R1,U1,V1⟩:=ai t0.out (y1);replace R1:=(HB.out.cell (World.block_lt_of_cell? w _ R1)).trans R1;obtain⟨W1,⟨⟩,X1,Y1,a2⟩:=ai w0.out (K1);replace X1:=(HB.out.cell (World.block_lt_of_cell? w _ X1)).trans X1))
        repeat(go_quiet(first|(go_at_call 153;(with_reducible refine gm (spec_UnitaryOk.calls k3 t1 a1 true _ x1.out) fun nd=>?_);(try exact dn);obtain⟨Q1,⟨⟩,R1,U1,V1⟩:=ai t0.out (y1);replace R1:=(HB.out.cell (World.block_lt_of_cell? w _ R1)).trans R1;obtain⟨W1,⟨⟩,X1,Y1,a2⟩:=ai w0.out (K1);replace X1:=(HB.out.cell (World.block_lt_of_cell? w _ X1)).trans X1));try go_wp2_with(first|(go_at_call 153;(with_reducible refine gm (spec_UnitaryOk.calls k3 t1 a1 true _ x1.out) fun nd=>?_);(try exact dn);obtain⟨Q1,⟨⟩,R1,U1,V1⟩:=ai t0.out (y1);replace R1:=(HB.out.cell (World.block_lt_of_cell? w _ R1)).trans R1;obtain⟨W1,⟨⟩,X1,Y1,a2⟩:=ai w0.out (K1);replace X1:=(HB.out.cell (World.block_lt_of_cell? w _ X1)).trans X1)))
        go_roundg k3
        case measure=>have:=HK1.out;have:=n1.out;have:=HK3.out;omega
        case rel=>exact⟨(wrap64 (s1+(wrap64 ((rd c0 (y1))*(rd g0 (K1)))))),(wrap64 (t1+1)),(by first|rfl|(simp;done)|(simp only[←A1,←L1] <;> (first|rfl|simp))|(simp[*];done)),(sd),H',⟨by have:=HK1.out;have:=n1.out;have:=HK3.out;omega⟩,⟨kR b1⟩,⟨bl⟩⟩
      ·have H':=qa H;clear H
       go_wp2_with(first|(go_at_call 153;(with_reducible refine gm (spec_UnitaryOk.calls k3 t1 a1 false _ x1.out) fun nd=>?_);(try exact dn)))
       repeat(go_quiet(first|(go_at_call 153;(with_reducible refine gm (spec_UnitaryOk.calls k3 t1 a1 false _ x1.out) fun nd=>?_);(try exact dn)));try go_wp2_with(first|(go_at_call 153;(with_reducible refine gm (spec_UnitaryOk.calls k3 t1 a1 false _ x1.out) fun nd=>?_);(try exact dn))))
       go_roundg k3
       case measure=>have:=HK1.out;have:=n1.out;have:=HK3.out;omega
       case rel=>exact⟨(s1),(wrap64 (t1+1)),(sd),(sd),H',⟨by have:=HK1.out;have:=n1.out;have:=HK3.out;omega⟩,⟨kR b1⟩,⟨bl⟩⟩
     ·replace H:=qn H;obtain⟨b2,H⟩:=H;have c2:=qa b2;clear b2;obtain⟨d2,hy_⟩:∃y_:List Int,y_=(Y0++[s1]):=⟨_,rfl⟩;replace H:(spec_UnitaryTimes.l0 k3 c0 g0 A0 d2 (wrap64 (a1+1)))=some (j0,n0):=yh;have e2:=qa hy_;clear hy_;have H':=qa H;clear H
      go_wp2_with(first|((with_reducible refine gate_builtin (b:= .append) (xs:=#[.tmp 49,.tmp 51]) rfl ?_);at_builtin;refine Kd.R_append (Kd.int .i64) (w0:=w) w.heap.size rfl (.tmp 49) (.tmp 51) 22 3 (.int .i64 0) 8 rfl Tryz.underlying22 info3 rfl kd_ ko_ u8 Y0 s1 [.int .i64 s1] (fun _=>True) (fun _=>False) rfl rfl ?aP (fun _ hk=>hk.elim) ?aF ?aO ?aB ?aS ?aL ?_;(case aP=>exact rfl);(case aB=>exact(bl));(case aF=>exact(fun _ _=>trivial));(case aO=>exact(kR b1));(case aS=>exact(below_size (bl)));(case aL=>have:=c2.out;omega);intro g2 j2 ho hb hg hat;rw[←e2.out]at ho;replace HB:=qa (hb);have l2:=qa (ho);clear b1;clear ho hb hg hat))
      repeat(go_quiet(fail);try go_wp2_with(first|((with_reducible refine gate_builtin (b:= .append) (xs:=#[.tmp 49,.tmp 51]) rfl ?_);at_builtin;refine Kd.R_append (Kd.int .i64) (w0:=w) w.heap.size rfl (.tmp 49) (.tmp 51) 22 3 (.int .i64 0) 8 rfl Tryz.underlying22 info3 rfl kd_ ko_ u8 Y0 s1 [.int .i64 s1] (fun _=>True) (fun _=>False) rfl rfl ?aP (fun _ hk=>hk.elim) ?aF ?aO ?aB ?aS ?aL ?_;(case aP=>exact rfl);(case aB=>exact(bl));(case aF=>exact(fun _ _=>trivial));(case aO=>exact(kR b1));(case aS=>exact(below_size (bl)));(case aL=>have:=c2.out;omega);intro g2 j2 ho hb hg hat;rw[←e2.out]at ho;replace HB:=qa (hb);have l2:=qa (ho);clear b1;clear ho hb hg hat)))
      go_roundg k3
      case measure=>have:=HK1.out;have:=n1.out;have:=HK3.out;omega
      case rel=>exact⟨(d2),(wrap64 (a1+1)),(sd),H',⟨by have:=HK1.out;have:=n1.out;have:=HK3.out;omega⟩,⟨kR l2⟩,⟨bl⟩⟩
   ·simp only[Option.some.injEq,Prod.mk.injEq]at H;obtain⟨rfl,rfl⟩:=H;go_wp2
    repeat(go_quiet(fail);try go_wp2)
    go_ret2;exact⟨_,er,kR b1,bl⟩

def spec_UnitOk.f (k:Nat) (a0:List Int):Option (Bool):=(spec_RowOk.f k a0).bind fun b0=>(if b0=true then(if 0<(a0.length:Int)then(if(rd a0 0)=1 then(some true)else(some ((rd a0 0)==(-1))))else(none))else(some false))
theorem spec_UnitOk.calls (k:Nat) (a0:Option Addr) (b0:Nat) (c0:List Int) (r:Bool) (w:World) (d0:Kd.C (Kd.int .i64) w a0 c0.length c0) (e0:c0.length≤b0) (h:spec_UnitOk.f k c0=some r):
  Calls Tryz.prog 179 #[.slice a0 c0.length b0] w fun e w'=>e= .returned (.bool r)∧Drawn0 w w':=by
 have g0:=qa d0;have j0:=qa e0;clear d0 e0;have H:=h;unfold spec_UnitOk.f at H;clear h;replace H:=qb H;obtain⟨l0,n0,H⟩:=H;replace H:=qc H;obtain⟨rfl,H⟩|⟨rfl,H⟩:=H
 ·replace H:=qL 0 H;obtain⟨p0,q0,H⟩:=H;replace H:=qq H;obtain⟨r0,s0,H⟩|⟨t0,r0,s0,H⟩:=H
  ·obtain rfl:=sj H
   go_enter Tryz.func179,Tryz.ntmps179
   go_wp2_with(first|(refine gd 4 Tryz.func69 (spec_RowOk.calls k _ _ c0 true _ (cx g0.out) j0.out n0.out) fun nd=>?_;obtain⟨v0,⟨⟩,w0,qi665,x0,y0⟩:=ain 0 g0.out 0;(try rw[Addr.add_zero']at w0)))
   go_ret;exact⟨sd,dr⟩
  ·obtain rfl:=sj H
   go_enter Tryz.func179,Tryz.ntmps179
   go_wp2_with(first|(refine gd 4 Tryz.func69 (spec_RowOk.calls k _ _ c0 true _ (cx g0.out) j0.out n0.out) fun nd=>?_;obtain⟨v0,⟨⟩,w0,qi665,x0,y0⟩:=ain 0 g0.out 0;(try rw[Addr.add_zero']at w0);obtain⟨A0,qi666,B0,C0⟩:=ajn 0 g0.out 0;(try rw[Addr.add_zero']at A0)))
   go_ret;exact⟨sd,dr⟩
 ·obtain rfl:=sj H
  go_enter Tryz.func179,Tryz.ntmps179
  go_wp2_with(first|(refine gd 4 Tryz.func69 (spec_RowOk.calls k _ _ c0 false _ (cx g0.out) j0.out n0.out) fun nd=>?_))
  go_ret;exact⟨sd,dr⟩

mutual
def spec_l3Divided.l0:Nat→List Int→List Int→List Int→Int→Option (List Int)
 |0,_,_,_,_=>none
 |k+1,a0,b0,c0,d0=>if d0≤24 then(if 0≤(wrap64 (d0-1))then(if(wrap64 (d0-1))<(a0.length:Int)then(spec_l3Divided.l1 k a0 b0 c0 d0 (rd a0 (wrap64 (d0-1))) 2)else(none))else(none))else(some c0)
def spec_l3Divided.l1:Nat→List Int→List Int→List Int→Int→Int→Int→Option (List Int)
 |0,_,_,_,_,_,_=>none
 |k+1,a0,b0,c0,d0,e0,g0=>if g0≤d0 then(if g0=0 then(none)else(if(Int.tmod d0 g0)=0 then(if 0≤(wrap64 (g0-1))then(if(wrap64 (g0-1))<(b0.length:Int)then(if 0≤(wrap64 ((wrap64 (Int.tdiv d0 g0))-1))then(if(wrap64 ((wrap64 (Int.tdiv d0 g0))-1))<(c0.length:Int)then(spec_l3Divided.l1 k a0 b0 c0 d0 (wrap64 (e0-(wrap64 ((rd b0 (wrap64 (g0-1)))*(rd c0 (wrap64 ((wrap64 (Int.tdiv d0 g0))-1))))))) (wrap64 (g0+1)))else(none))else(none))else(none))else(none))else(spec_l3Divided.l1 k a0 b0 c0 d0 e0 (wrap64 (g0+1)))))else(if 0<(b0.length:Int)then(if 0≤(wrap64 (d0-1))then(if(wrap64 (d0-1))<(c0.length:Int)then((some (c0.set ((wrap64 (d0-1)):Int).toNat (wrap64 (e0*(rd b0 0))):List Int)).bind fun j0=>((spec_l1In.f (rd j0 (wrap64 (d0-1))) (-1000000000) 1000000000).bind fun n0=>(if n0=true then(spec_l3Divided.l0 k a0 b0 j0 (wrap64 (d0+1)))else(some (([]:List Int))))))else(none))else(none))else(none))
end

def spec_l3Divided.f (k:Nat) (a0:List Int) (b0:List Int):Option (List Int):=if 24≤35184372088832 then(spec_l3Divided.l0 k a0 b0 (List.replicate 24 0) 1)else(none)
theorem spec_l3Divided.calls (k:Nat) (a0:Option Addr) (b0:Nat) (c0:List Int) (d0:Option Addr) (e0:Nat) (g0:List Int) (r:List Int) (w:World) (j0:Kd.C (Kd.int .i64) w a0 c0.length c0) (n0:c0.length≤b0) (p0:Kd.C (Kd.int .i64) w d0 g0.length g0) (q0:g0.length≤e0) (h:spec_l3Divided.f k c0 g0=some r):
  Calls Tryz.prog 180 #[.slice a0 c0.length b0,.slice d0 g0.length e0] w fun e w'=>∃v0_:Value,e= .returned (v0_)∧Kd.R (Kd.int .i64) 3 w' w.heap.size (fun _=>True) v0_ r∧Below w.heap.size w w':=by
 have r0:=qa j0;have s0:=qa n0;clear j0 n0;have t0:=qa p0;have v0:=qa q0;clear p0 q0;have HB:=qa (Below.refl w.heap.size w);have H:=h;unfold spec_l3Divided.f at H;clear h
 by_cases w0:24≤35184372088832
 ·rw[if_pos w0]at H;have x0:=eq_true w0;have y0:decide (24≤35184372088832)=true:=decide_eq_true w0;clear w0;obtain⟨A0,hy_⟩:∃y_:List Int,y_=(List.replicate 24 0):=⟨_,rfl⟩;replace H:(spec_l3Divided.l0 k c0 g0 A0 1)=some r:=yh;have B0:=qa hy_;clear hy_;have H':=qa H;clear H
  go_enter Tryz.func180,Tryz.ntmps180
  go_wp2_with(first|((with_reducible refine gate_dst (N:=9) rfl ?_);refine Kd.R_make (Kd.int .i64) _ 3 rfl (N:=9) rfl 22 _ _ rfl 24 rfl rfl Tryz.underlying22 (.int .i64 0) 8 info3 rfl kd_ ko_ 0 (ok:=fun _=>True) (okp:=fun _=>True) rfl (fun _ hk=>hk) trivial ko_ ko_ (Below.refl _ _) (Nat.le_refl _) ?_;intro C0 D0 E0 hb hg_ hnew_;clear hg_ hnew_;(first|rw[←B0.out]at E0|(simp only[Int.reduceToNat]at E0;rw[←B0.out]at E0));have G0:=qa (Kd.R_lower E0 (below_size (bl)));replace HB:=bs hb;clear hb E0))
  repeat(go_quiet(fail);try go_wp2_with(first|((with_reducible refine gate_dst (N:=9) rfl ?_);refine Kd.R_make (Kd.int .i64) _ 3 rfl (N:=9) rfl 22 _ _ rfl 24 rfl rfl Tryz.underlying22 (.int .i64 0) 8 info3 rfl kd_ ko_ 0 (ok:=fun _=>True) (okp:=fun _=>True) rfl (fun _ hk=>hk) trivial ko_ ko_ (Below.refl _ _) (Nat.le_refl _) ?_;intro C0 D0 E0 hb hg_ hnew_;clear hg_ hnew_;(first|rw[←B0.out]at E0|(simp only[Int.reduceToNat]at E0;rw[←B0.out]at E0));have G0:=qa (Kd.R_lower E0 (below_size (bl)));replace HB:=bs hb;clear hb E0)))
  go_loopg [6] k (fun kq J0 w'=>∃(K0:List Int) (L0:Int),J0= .int .i64 L0∧Aside0 (spec_l3Divided.l0 kq c0 g0 K0 L0=some r)∧Aside0 (kq≤k)∧Aside0 (Kd.R (Kd.int .i64) 3 w' w.heap.size (fun _=>True) C0 K0)∧Aside0 (Below w.heap.size w w'))
  case atStart=>exact⟨(A0),(1),(sd),H',⟨Nat.le_refl _⟩,⟨kR G0⟩,⟨bl⟩⟩
  case round=>
   clear H';obtain⟨K0,L0,rfl,HA,HK1,M0,HB⟩:=hrel;obtain⟨k1,rfl,H⟩:=kz gk HA;clear HA;simp only[spec_l3Divided.l0]at H;replace H:=qe H;obtain⟨N0,H⟩|⟨N0,H⟩:=H
   ·obtain⟨P0,Q0⟩:∃j_:Int,(wrap64 (L0-1))=j_:=⟨_,rfl⟩;(first|rw[Q0]at H|(try simp only[Q0]at H));have R0:(IntKind.i64.wrap (L0-1))=P0:=(i64_w _).trans Q0;replace H:=qd H;obtain⟨U0,H⟩:=H;replace H:=qd H;obtain⟨V0,H⟩:=H;have H':=qa H;clear H;obtain⟨W0,⟨⟩,X0,Y0,a1⟩:=ai r0.out (P0);(try replace X0:=(HB.out.cell (World.block_lt_of_cell? w _ X0)).trans X0);go_wp2
    repeat(go_quiet(fail);try go_wp2)
    go_loopg [7,8] k1 (fun kq b1 c1 w'=>∃(d1:Int) (e1:Int),b1= .int .i64 d1∧c1= .int .i64 e1∧Aside0 (spec_l3Divided.l1 kq c0 g0 K0 L0 d1 e1=some r)∧Aside0 (kq≤k1)∧Aside0 (Kd.R (Kd.int .i64) 3 w' w.heap.size (fun _=>True) C0 K0)∧Aside0 (Below w.heap.size w w'))
    case atStart=>exact⟨(rd c0 (P0)),(2),(by first|rfl|(simp;done)|(simp only[←Q0] <;> (first|rfl|simp))|(simp[*];done)),(sd),H',⟨Nat.le_refl _⟩,⟨kR M0⟩,⟨bl⟩⟩
    case round=>
     clear H';obtain⟨d1,e1,rfl,rfl,HA,HK2,M0,HB⟩:=hrel;obtain⟨k2,rfl,H⟩:=kz gk HA;clear HA;simp only[spec_l3Divided.l1]at H;replace H:=qe H;obtain⟨g1,H⟩|⟨g1,H⟩:=H
     ·by_cases j1:e1=0
      ·rw[if_pos j1]at H;exact absurd H (by simp)
      ·rw[if_neg j1]at H;have n1:(e1==0)=false:=beq_eq_false_iff_ne.mpr j1;have p1:(e1 != 0)=true:=bne_iff_ne.mpr j1;replace H:=qq H;obtain⟨q1,r1,H⟩|⟨s1,q1,r1,H⟩:=H
       ·obtain⟨t1,v1⟩:∃j_:Int,(wrap64 (e1-1))=j_:=⟨_,rfl⟩;(first|rw[v1]at H|(try simp only[v1]at H));have w1:(IntKind.i64.wrap (e1-1))=t1:=(i64_w _).trans v1;replace H:=qd H;obtain⟨x1,H⟩:=H;replace H:=qd H;obtain⟨y1,H⟩:=H;obtain⟨A1,B1⟩:∃j_:Int,(wrap64 ((wrap64 (Int.tdiv L0 e1))-1))=j_:=⟨_,rfl⟩;(first|rw[B1]at H|(try simp only[B1]at H));have C1:(IntKind.i64.wrap ((wrap64 (Int.tdiv L0 e1))-1))=A1:=(i64_w _).trans B1;replace H:=qd H;obtain⟨D1,H⟩:=H;replace H:=qd H;obtain⟨E1,H⟩:=H;have H':=qa H;clear H;obtain⟨G1,⟨⟩,J1,K1,L1⟩:=ai t0.out (t1);(try replace J1:=(HB.out.cell (World.block_lt_of_cell? w _ J1)).trans J1);obtain⟨M1,N1,rfl⟩:=Kd.R_slice M0.out;obtain⟨P1,⟨⟩,Q1,R1,U1⟩:=ai (Kd.R_reads' M0.out).2.2 (A1);go_wp2
        repeat(go_quiet(fail);try go_wp2)
        go_roundg k2
        case measure=>have:=HK1.out;have:=HK2.out;omega
        case rel=>exact⟨(wrap64 (d1-(wrap64 ((rd g0 (t1))*(rd K0 (A1)))))),(wrap64 (e1+1)),(by first|rfl|(simp;done)|(simp only[←v1,←B1] <;> (first|rfl|simp))|(simp[*];done)),(sd),H',⟨by have:=HK1.out;have:=HK2.out;omega⟩,⟨kR M0⟩,⟨bl⟩⟩
       ·have H':=qa H;clear H;go_wp2
        repeat(go_quiet(fail);try go_wp2)
        go_roundg k2
        case measure=>have:=HK1.out;have:=HK2.out;omega
        case rel=>exact⟨(d1),(wrap64 (e1+1)),(sd),(sd),H',⟨by have:=HK1.out;have:=HK2.out;omega⟩,⟨kR M0⟩,⟨bl⟩⟩
     ·replace H:=qL 0 H;obtain⟨V1,W1,H⟩:=H;obtain⟨X1,Y1⟩:∃j_:Int,(wrap64 (L0-1))=j_:=⟨_,rfl⟩;(try(have hq_:X1=P0:=Y1.symm.trans Q0;subst hq_));(first|rw[Y1]at H|(try simp only[Y1]at H));have a2:(IntKind.i64.wrap (L0-1))=X1:=(i64_w _).trans Y1;replace H:=qd H;obtain⟨b2,H⟩:=H;replace H:=qd H;obtain⟨c2,H⟩:=H;replace H:=qs H;obtain⟨d2,e2,H⟩:=H;replace H:=qb H;obtain⟨g2,j2,H⟩:=H;replace H:=qc H;obtain⟨rfl,H⟩|⟨rfl,H⟩:=H
      ·have H':=qa H;clear H;obtain⟨l2,⟨⟩,n2,qi673,p2,q2⟩:=ain 0 t0.out 0;(try rw[Addr.add_zero']at n2);(try replace n2:=(HB.out.cell (World.block_lt_of_cell? w _ n2)).trans n2);have r2:0≤((X1):Int):=qo;have s2:((X1):Int)<((K0.length:Int):Int):=qo;obtain⟨t2,v2,w2,x2,gl24,cl24,HG24⟩:=Kd.R_form M0.out ko_;(first|cases w2|(injection w2 with ea_ en_ ec_;(first|subst ea_|(injection ea_ with ea_;subst ea_));subst ec_;clear en_));have GB24:=qa x2;have GG24:=qa HG24;clear x2 gl24 HG24;obtain⟨y2,A2⟩:=Kd.R_celln 0 M0.out ((X1):Int) r2 s2;replace r2:=eq_true r2;replace s2:=eq_true s2;have HP27:=Kd.R_putg M0.out ((X1):Int) (wrap64 (d1*(rd g0 0)))
       go_wp2_with(first|((with_reducible refine gate_store (t:=3) (p:=51) rfl ?_);(try(rw[drewN_self wr];generalize hq_:World.drewN wr _=wr;have n0_:=qa (Kd.R_at hq_ M0.out);have n1_:=qa (below_at hq_ HB.out);clear hq_ M0 HB;have M0:=n0_;have HB:=n1_;clear n0_ n1_;(try(have HP27:=Kd.R_putg M0.out ((X1):Int) (wrap64 (d1*(rd g0 0)))))));refine store_event (t:=3) (p:=51) (v:=?vo_w28) (w1:=(wr.setCell ⟨t2,((X1):Int).toNat,none⟩ (.int .i64 (wrap64 (d1*(rd g0 0)))))) ?hg ?ho ?hn ?hr ?_;(case ho=>rfl);(case hg=>rfl);(case hn=>rfl);(case hr=>exact gr);intro B2 hw;have hg:wr.grownBy B2 (some t2):=(by rw[hw];exact HP27.2);have hp_:Kd.R (Kd.int .i64) 3 B2 w.heap.size (fun _=>True) (.slice (some ⟨t2,0,none⟩) K0.length v2) d2:=(by rw[hw,e2.out];exact HP27.1);clear HP27;replace M0:=qa (hp_);replace HB:=qa ((by rw[hw];exact below_set (HB.out) GB24.out:Below w.heap.size w B2));clear hg hw hp_;have ql675:(((X1):Int)<((K0.length:Int):Int))=True:=eq_true (qo);obtain⟨C2,D2,E2⟩:=aj (Kd.R_reads' M0.out).2.2 (X1) (q:=(by have h_:((X1):Int)<((K0.length:Int):Int):=qo;first|(have e_:=(Kd.R_reads' M0.out).1;omega)|simpa only[e2.out,List.length_set] using h_));(first|simp only[add_plain]at C2|simp only[add_at]at C2|simp only[Addr.add,Nat.zero_add]at C2|skip))|(go_at_call 84;(with_reducible refine gm (spec_l1In.calls (rd d2 (X1)) (-1000000000) 1000000000 true _ j2.out) fun nd=>?_);(try exact dn)))
       repeat(go_quiet(first|(go_at_call 84;(with_reducible refine gm (spec_l1In.calls (rd d2 (X1)) (-1000000000) 1000000000 true _ j2.out) fun nd=>?_);(try exact dn)));try go_wp2_with(first|((with_reducible refine gate_store (t:=3) (p:=51) rfl ?_);(try(rw[drewN_self wr];generalize hq_:World.drewN wr _=wr;have n0_:=qa (Kd.R_at hq_ M0.out);have n1_:=qa (below_at hq_ HB.out);clear hq_ M0 HB;have M0:=n0_;have HB:=n1_;clear n0_ n1_;(try(have HP27:=Kd.R_putg M0.out ((X1):Int) (wrap64 (d1*(rd g0 0)))))));refine store_event (t:=3) (p:=51) (v:=?vo_w28) (w1:=(wr.setCell ⟨t2,((X1):Int).toNat,none⟩ (.int .i64 (wrap64 (d1*(rd g0 0)))))) ?hg ?ho ?hn ?hr ?_;(case ho=>rfl);(case hg=>rfl);(case hn=>rfl);(case hr=>exact gr);intro B2 hw;have hg:wr.grownBy B2 (some t2):=(by rw[hw];exact HP27.2);have hp_:Kd.R (Kd.int .i64) 3 B2 w.heap.size (fun _=>True) (.slice (some ⟨t2,0,none⟩) K0.length v2) d2:=(by rw[hw,e2.out];exact HP27.1);clear HP27;replace M0:=qa (hp_);replace HB:=qa ((by rw[hw];exact below_set (HB.out) GB24.out:Below w.heap.size w B2));clear hg hw hp_;have ql675:(((X1):Int)<((K0.length:Int):Int))=True:=eq_true (qo);obtain⟨C2,D2,E2⟩:=aj (Kd.R_reads' M0.out).2.2 (X1) (q:=(by have h_:((X1):Int)<((K0.length:Int):Int):=qo;first|(have e_:=(Kd.R_reads' M0.out).1;omega)|simpa only[e2.out,List.length_set] using h_));(first|simp only[add_plain]at C2|simp only[add_at]at C2|simp only[Addr.add,Nat.zero_add]at C2|skip))|(go_at_call 84;(with_reducible refine gm (spec_l1In.calls (rd d2 (X1)) (-1000000000) 1000000000 true _ j2.out) fun nd=>?_);(try exact dn))))
       go_roundg k2
       case measure=>have:=HK1.out;have:=HK2.out;omega
       case rel=>exact⟨(d2),(wrap64 (L0+1)),(sd),H',⟨by have:=HK1.out;have:=HK2.out;omega⟩,⟨kR M0⟩,⟨bl⟩⟩
      ·obtain⟨G2,hy_⟩:∃y_:List Int,y_=(([]:List Int)):=⟨_,rfl⟩;replace H:(some G2)=some r:=yh;have J2:=qa hy_;clear hy_;obtain rfl:=sj H;obtain⟨l2,⟨⟩,n2,qi673,p2,q2⟩:=ain 0 t0.out 0;(try rw[Addr.add_zero']at n2);(try replace n2:=(HB.out.cell (World.block_lt_of_cell? w _ n2)).trans n2);have r2:0≤((X1):Int):=qo;have s2:((X1):Int)<((K0.length:Int):Int):=qo;obtain⟨t2,v2,w2,x2,gl24,cl24,HG24⟩:=Kd.R_form M0.out ko_;(first|cases w2|(injection w2 with ea_ en_ ec_;(first|subst ea_|(injection ea_ with ea_;subst ea_));subst ec_;clear en_));have GB24:=qa x2;have GG24:=qa HG24;clear x2 gl24 HG24;obtain⟨y2,A2⟩:=Kd.R_celln 0 M0.out ((X1):Int) r2 s2;replace r2:=eq_true r2;replace s2:=eq_true s2;have HP29:=Kd.R_putg M0.out ((X1):Int) (wrap64 (d1*(rd g0 0)))
       go_wp2_with(first|((with_reducible refine gate_store (t:=3) (p:=51) rfl ?_);(try(rw[drewN_self wr];generalize hq_:World.drewN wr _=wr;have n0_:=qa (Kd.R_at hq_ M0.out);have n1_:=qa (below_at hq_ HB.out);clear hq_ M0 HB;have M0:=n0_;have HB:=n1_;clear n0_ n1_;(try(have HP29:=Kd.R_putg M0.out ((X1):Int) (wrap64 (d1*(rd g0 0)))))));refine store_event (t:=3) (p:=51) (v:=?vo_w30) (w1:=(wr.setCell ⟨t2,((X1):Int).toNat,none⟩ (.int .i64 (wrap64 (d1*(rd g0 0)))))) ?hg ?ho ?hn ?hr ?_;(case ho=>rfl);(case hg=>rfl);(case hn=>rfl);(case hr=>exact gr);intro K2 hw;have hg:wr.grownBy K2 (some t2):=(by rw[hw];exact HP29.2);have hp_:Kd.R (Kd.int .i64) 3 K2 w.heap.size (fun _=>True) (.slice (some ⟨t2,0,none⟩) K0.length v2) d2:=(by rw[hw,e2.out];exact HP29.1);clear HP29;replace M0:=qa (hp_);replace HB:=qa ((by rw[hw];exact below_set (HB.out) GB24.out:Below w.heap.size w K2));clear hg hw hp_;have ql675:(((X1):Int)<((K0.length:Int):Int))=True:=eq_true (qo);obtain⟨C2,D2,E2⟩:=aj (Kd.R_reads' M0.out).2.2 (X1) (q:=(by have h_:((X1):Int)<((K0.length:Int):Int):=qo;first|(have e_:=(Kd.R_reads' M0.out).1;omega)|simpa only[e2.out,List.length_set] using h_));(first|simp only[add_plain]at C2|simp only[add_at]at C2|simp only[Addr.add,Nat.zero_add]at C2|skip))|(go_at_call 84;(with_reducible refine gm (spec_l1In.calls (rd d2 (X1)) (-1000000000) 1000000000 false _ j2.out) fun nd=>?_);(try exact dn))|(refine rli .i64 3 59 J2.out fun L2 M2 N2 hb=>?_;have P2:=qa (Kd.R_lower (Kd.R_new' N2 (Kd.R_lt (kR M0))) (below_size (bl)));replace M0:=qa (Kd.R_elder' (kR M0) (Kd.R_base N2) hb);replace HB:=bs hb;clear hb N2))
       repeat(go_quiet(first|(go_at_call 84;(with_reducible refine gm (spec_l1In.calls (rd d2 (X1)) (-1000000000) 1000000000 false _ j2.out) fun nd=>?_);(try exact dn)));try go_wp2_with(first|((with_reducible refine gate_store (t:=3) (p:=51) rfl ?_);(try(rw[drewN_self wr];generalize hq_:World.drewN wr _=wr;have n0_:=qa (Kd.R_at hq_ M0.out);have n1_:=qa (below_at hq_ HB.out);clear hq_ M0 HB;have M0:=n0_;have HB:=n1_;clear n0_ n1_;(try(have HP29:=Kd.R_putg M0.out ((X1):Int) (wrap64 (d1*(rd g0 0)))))));refine store_event (t:=3) (p:=51) (v:=?vo_w30) (w1:=(wr.setCell ⟨t2,((X1):Int).toNat,none⟩ (.int .i64 (wrap64 (d1*(rd g0 0)))))) ?hg ?ho ?hn ?hr ?_;(case ho=>rfl);(case hg=>rfl);(case hn=>rfl);(case hr=>exact gr);intro K2 hw;have hg:wr.grownBy K2 (some t2):=(by rw[hw];exact HP29.2);have hp_:Kd.R (Kd.int .i64) 3 K2 w.heap.size (fun _=>True) (.slice (some ⟨t2,0,none⟩) K0.length v2) d2:=(by rw[hw,e2.out];exact HP29.1);clear HP29;replace M0:=qa (hp_);replace HB:=qa ((by rw[hw];exact below_set (HB.out) GB24.out:Below w.heap.size w K2));clear hg hw hp_;have ql675:(((X1):Int)<((K0.length:Int):Int))=True:=eq_true (qo);obtain⟨C2,D2,E2⟩:=aj (Kd.R_reads' M0.out).2.2 (X1) (q:=(by have h_:((X1):Int)<((K0.length:Int):Int):=qo;first|(have e_:=(Kd.R_reads' M0.out).1;omega)|simpa only[e2.out,List.length_set] using h_));(first|simp only[add_plain]at C2|simp only[add_at]at C2|simp only[Addr.add,Nat.zero_add]at C2|skip))|(go_at_call 84;(with_reducible refine gm (spec_l1In.calls (rd d2 (X1)) (-1000000000) 1000000000 false _ j2.out) fun nd=>?_);(try exact dn))|(refine rli .i64 3 59 J2.out fun L2 M2 N2 hb=>?_;have P2:=qa (Kd.R_lower (Kd.R_new' N2 (Kd.R_lt (kR M0))) (below_size (bl)));replace M0:=qa (Kd.R_elder' (kR M0) (Kd.R_base N2) hb);replace HB:=bs hb;clear hb N2)))
       go_ret;exact⟨_,by first|rfl|(simp[errW_none,errW_some];exact⟨rfl,rfl⟩)|(simp[errW_none,errW_some] <;> rfl)|(simp only[←Q0,←Y1];first|rfl|(simp[errW_none,errW_some] <;> rfl))|(simp[*,errW_none,errW_some] <;> rfl),by(with_reducible repeat(first|apply Kd.R_alloc|apply Kd.R_drewN|apply Kd.R_drew));exact Kd.R_mono P2.out (fun _ hk=>trivial),bl⟩
   ·obtain rfl:=sj H;go_wp2
    repeat(go_quiet(fail);try go_wp2)
    go_ret;exact⟨_,er,kR M0,bl⟩
 ·rw[if_neg w0]at H;exact absurd H (by simp)
attribute [local go_sem high] eqA55
def spec_DividedOf.f (k:Nat) (a0:List Int) (b0:List Int):Option (List Int×Bool):=(spec_TimesOf.f k b0 a0).bind fun c0=>(if c0.2=true then((spec_UnitOk.f k b0).bind fun d0=>(if d0=true then((spec_l3Divided.f k a0 b0).bind fun e0=>(some (e0,((e0.length:Int)==24))))else(some ((([]:List Int)),false))))else(some ((([]:List Int)),false)))
theorem spec_DividedOf.calls (k:Nat) (a0:Option Addr) (b0:Nat) (c0:List Int) (d0:Option Addr) (e0:Nat) (g0:List Int) (j0:List Int) (l0:Bool) (w:World) (n0:Kd.C (Kd.int .i64) w a0 c0.length c0) (p0:c0.length≤b0) (q0:Kd.C (Kd.int .i64) w d0 g0.length g0) (r0:g0.length≤e0) (h:spec_DividedOf.f k c0 g0=some (j0,l0)):
  Calls Tryz.prog 154 #[.slice a0 c0.length b0,.slice d0 g0.length e0] w fun e w'=>∃v0_:Value,e= .returned (.tuple #[v0_,.bool l0])∧Kd.R (Kd.int .i64) 3 w' w.heap.size (fun _=>True) v0_ j0∧Below w.heap.size w w':=by
 have s0:=qa n0;have t0:=qa p0;clear n0 p0;have v0:=qa q0;have w0:=qa r0;clear q0 r0;have HB:=qa (Below.refl w.heap.size w);have H:=h;unfold spec_DividedOf.f at H;clear h;replace H:=qb H;obtain⟨⟨x0,y0⟩,A0,H⟩:=H;(try dsimp only at H);replace H:=qc H;obtain⟨rfl,H⟩|⟨rfl,H⟩:=H
 ·replace H:=qb H;obtain⟨B0,C0,H⟩:=H;replace H:=qc H;obtain⟨rfl,H⟩|⟨rfl,H⟩:=H
  ·replace H:=qb H;obtain⟨D0,E0,H⟩:=H;simp only[Option.some.injEq,Prod.mk.injEq]at H;obtain⟨rfl,rfl⟩:=H
   go_enter Tryz.func154,Tryz.ntmps154
   go_wp2_with(first|(refine ge_ 12 Tryz.func121 (spec_TimesOf.calls k _ _ g0 _ _ c0 x0 true _ (cx v0.out) w0.out (cx s0.out) t0.out A0.out) fun G0 J0 K0 hb=>?_;have L0:=qa (Kd.R_lower K0 (below_size (bl)));replace HB:=bs hb)|(go_at_call 179;(with_reducible refine(spec_UnitOk.calls k _ _ g0 true _ ?M0 ?N0 C0.out).mono ?_);(case M0=>exact cx (Kd.C_below v0.out HB.out));(case N0=>exact w0.out);rintro e w' ⟨rfl,⟨nd,rfl⟩⟩)|(refine ge_ 25 Tryz.func180 (spec_l3Divided.calls k _ _ c0 _ _ g0 D0 _ (cx (Kd.C_below s0.out (bl))) t0.out (cx (Kd.C_below v0.out (bl))) w0.out E0.out) fun P0 Q0 K0 hb=>?_;have R0:=qa (Kd.R_lower (Kd.R_new' K0 (Kd.R_lt (kR L0))) (below_size (bl)));replace L0:=qa (Kd.R_elder' (kR L0) (Kd.R_base K0) hb);replace HB:=bs hb;obtain⟨U0,V0,rfl⟩:=Kd.R_slice R0.out))
   go_ret2;exact⟨_,er,by(with_reducible repeat(first|apply Kd.R_alloc|apply Kd.R_drewN|apply Kd.R_drew));exact Kd.R_mono R0.out (fun _ hk=>trivial),bl⟩
  ·obtain⟨W0,hy_⟩:∃y_:List Int,y_=(([]:List Int)):=⟨_,rfl⟩;replace H:(some (W0,false))=some (j0,l0):=yh;have X0:=qa hy_;clear hy_;simp only[Option.some.injEq,Prod.mk.injEq]at H;obtain⟨rfl,rfl⟩:=H
   go_enter Tryz.func154,Tryz.ntmps154
   go_wp2_with(first|(refine ge_ 12 Tryz.func121 (spec_TimesOf.calls k _ _ g0 _ _ c0 x0 true _ (cx v0.out) w0.out (cx s0.out) t0.out A0.out) fun G0 Y0 K0 hb=>?_;have L0:=qa (Kd.R_lower K0 (below_size (bl)));replace HB:=bs hb)|(go_at_call 179;(with_reducible refine(spec_UnitOk.calls k _ _ g0 false _ ?M0 ?N0 C0.out).mono ?_);(case M0=>exact cx (Kd.C_below v0.out HB.out));(case N0=>exact w0.out);rintro e w' ⟨rfl,⟨nd,rfl⟩⟩)|(refine rli .i64 3 22 X0.out fun a1 b1 c1 hb=>?_;have d1:=qa (Kd.R_lower (Kd.R_new' c1 (Kd.R_lt (kR L0))) (below_size (bl)));replace L0:=qa (Kd.R_elder' (kR L0) (Kd.R_base c1) hb);replace HB:=bs hb;clear hb c1))
   go_ret2;exact⟨_,er,by(with_reducible repeat(first|apply Kd.R_alloc|apply Kd.R_drewN|apply Kd.R_drew));exact Kd.R_mono d1.out (fun _ hk=>trivial),bl⟩
 ·obtain⟨e1,hy_⟩:∃y_:List Int,y_=(([]:List Int)):=⟨_,rfl⟩;replace H:(some (e1,false))=some (j0,l0):=yh;have g1:=qa hy_;clear hy_;simp only[Option.some.injEq,Prod.mk.injEq]at H;obtain⟨rfl,rfl⟩:=H
  go_enter Tryz.func154,Tryz.ntmps154
  go_wp2_with(first|(refine ge_ 12 Tryz.func121 (spec_TimesOf.calls k _ _ g0 _ _ c0 x0 false _ (cx v0.out) w0.out (cx s0.out) t0.out A0.out) fun G0 j1 K0 hb=>?_;have L0:=qa (Kd.R_lower K0 (below_size (bl)));replace HB:=bs hb)|(refine rli .i64 3 22 g1.out fun l1 n1 p1 hb=>?_;have q1:=qa (Kd.R_lower (Kd.R_new' p1 (Kd.R_lt (kR L0))) (below_size (bl)));replace L0:=qa (Kd.R_elder' (kR L0) (Kd.R_base p1) hb);replace HB:=bs hb;clear hb p1))
  go_ret2;exact⟨_,er,by(with_reducible repeat(first|apply Kd.R_alloc|apply Kd.R_drewN|apply Kd.R_drew));exact Kd.R_mono q1.out (fun _ hk=>trivial),bl⟩

def spec_InverseOf.f (k:Nat) (a0:List Int):Option (List Int×Bool):=(spec_NamedRow.f k 0).bind fun b0=>((spec_DividedOf.f k b0 a0).bind fun c0=>(some (c0.1,c0.2)))
theorem spec_InverseOf.calls (k:Nat) (a0:Option Addr) (b0:Nat) (c0:List Int) (d0:List Int) (e0:Bool) (w:World) (g0:Kd.C (Kd.int .i64) w a0 c0.length c0) (j0:c0.length≤b0) (h:spec_InverseOf.f k c0=some (d0,e0)):
  Calls Tryz.prog 124 #[.slice a0 c0.length b0] w fun e w'=>∃v0_:Value,e= .returned (.tuple #[v0_,.bool e0])∧Kd.R (Kd.int .i64) 3 w' w.heap.size (fun _=>True) v0_ d0∧Below w.heap.size w w':=by
 have l0:=qa g0;have n0:=qa j0;clear g0 j0;have HB:=qa (Below.refl w.heap.size w);have H:=h;unfold spec_InverseOf.f at H;clear h;replace H:=qb H;obtain⟨p0,q0,H⟩:=H;replace H:=qb H;obtain⟨⟨r0,s0⟩,t0,H⟩:=H;(try dsimp only at H);simp only[Option.some.injEq,Prod.mk.injEq]at H;obtain⟨rfl,rfl⟩:=H
 go_enter Tryz.func124,Tryz.ntmps124
 go_wp2_with(first|(refine ge_ 4 Tryz.func122 (spec_NamedRow.calls k 0 p0 _ q0.out) fun v0 w0 x0 hb=>?_;have y0:=qa (Kd.R_lower x0 (below_size (bl)));replace HB:=bs hb;obtain⟨A0,B0,rfl⟩:=Kd.R_slice y0.out)|(refine ge_ 6 Tryz.func154 (spec_DividedOf.calls k _ _ p0 _ _ c0 r0 s0 _ (cx (Kd.R_reads' y0.out).2.2) ((Kd.R_reads' y0.out).2.1) (cx (Kd.C_below l0.out HB.out)) n0.out t0.out) fun C0 D0 x0 hb=>?_;have E0:=qa (Kd.R_lower (Kd.R_new' x0 (Kd.R_lt (kR y0))) (below_size (bl)));replace y0:=qa (Kd.R_elder' (kR y0) (Kd.R_base x0) hb);replace HB:=bs hb))
 go_ret2;exact⟨_,er,by(with_reducible repeat(first|apply Kd.R_alloc|apply Kd.R_drewN|apply Kd.R_drew));exact Kd.R_mono E0.out (fun _ hk=>trivial),bl⟩

mutual
def spec_l12Made.j0:Nat→List Int→Bool→Int→Int→Int→Option (List Int×Bool)
 |0,_,_,_,_,_=>none
 |k+1,a0,b0,c0,d0,e0=>if b0=true then((spec_NamedRow.f k d0).bind fun g0=>((spec_TimesOf.f k a0 g0).bind fun l0=>(some (l0.1,l0.2))))else(if c0=1 then(spec_l12Made.j1 k a0 (e0==0) c0 d0 e0)else(spec_l12Made.j1 k a0 false c0 d0 e0))
def spec_l12Made.j1:Nat→List Int→Bool→Int→Int→Int→Option (List Int×Bool)
 |0,_,_,_,_,_=>none
 |k+1,a0,n0,c0,d0,e0=>if n0=true then((spec_NamedRow.f k d0).bind fun p0=>((spec_UnitaryTimes.f k a0 p0).bind fun q0=>(some (q0.1,q0.2))))else(if(c0==2&&(d0==0&&(e0==0)))=true then((spec_InverseOf.f k a0).bind fun r0=>(some (r0.1,r0.2)))else(if c0=3 then((spec_l1In.f d0 1 24).bind fun s0=>(if s0=true then((spec_l1In.f e0 0 9999).bind fun t0=>(if t0=true then((some (([]:List Int):List Int)).bind fun v0=>(if v0.length+a0.length<17592186044416 then((some (v0++a0:List Int)).bind fun w0=>(if 0≤(wrap64 (d0-1))then(if(wrap64 (d0-1))<(w0.length:Int)then(some ((w0.set ((wrap64 (d0-1)):Int).toNat e0),true))else(none))else(none)))else(none)))else(some ((([]:List Int)),false))))else(some ((([]:List Int)),false))))else(some ((([]:List Int)),false))))
end

def spec_l12Made.f (k:Nat) (a0:List Int) (b0:Int) (c0:Int) (d0:Int):Option (List Int×Bool):=if b0=0 then(spec_l12Made.j0 k a0 (d0==0) b0 c0 d0)else(spec_l12Made.j0 k a0 false b0 c0 d0)
theorem spec_l12Made.calls (k:Nat) (a0:Option Addr) (b0:Nat) (c0:List Int) (d0:Int) (e0:Int) (g0:Int) (l0:List Int) (n0:Bool) (w:World) (p0:Kd.C (Kd.int .i64) w a0 c0.length c0) (q0:c0.length≤b0) (h:spec_l12Made.f k c0 d0 e0 g0=some (l0,n0)):
  Calls Tryz.prog 80 #[.slice a0 c0.length b0,.agg #[.int .i64 d0,.int .i64 e0,.int .i64 g0]] w fun e w'=>∃v0_:Value,e= .returned (.tuple #[v0_,.bool n0])∧Kd.R (Kd.int .i64) 3 w' w.heap.size (fun _=>True) v0_ l0∧Below w.heap.size w w':=by
 have r0:=Tryz.underlying55;have s0:=qa p0;have t0:=qa q0;clear p0 q0;have HB:=qa (Below.refl w.heap.size w);have H:=h;unfold spec_l12Made.f at H;clear h;have v0:=qa H;clear H
 go_enter Tryz.func80,Tryz.ntmps80
 go_upto_region 1 with(go_big_may;first|(refine bx 3 #[.int .i64 d0,.int .i64 e0,.int .i64 g0] 55 ?_;intro w0 hg x0 hbox hb;have y0:=qa (hbox);have A0:=gw hg;have B0:=gw hg;replace HB:=bs hb;clear hb hbox hg))
 (try simp only[Act.put,List.setIfInBounds_toArray,List.set_cons_zero,List.set_cons_succ])
 go_cut [7] (fun C0 wc=>∃(kq:Nat) (D0:Bool),C0= .bool D0∧Aside0 (spec_l12Made.j0 kq c0 D0 d0 e0 g0=some (l0,n0))∧Aside0 (kq≤k)∧Aside0 (wc.heap[w0]? =some (.cells #[.int .i64 d0,.int .i64 e0,.int .i64 g0] 55 (0,0)))∧Aside0 (Below w.heap.size w wc))
 case first=>
  have H:=v0.out;clear v0;replace H:=qq H;obtain⟨E0,G0,H⟩|⟨J0,E0,G0,H⟩:=H
  ·(first|rw[E0]|(simp only[i64_w,i32_w];rw[E0])|skip);have H':=qa H;clear H;obtain⟨K0,L0,M0,N0,P0,Q0⟩:=qk3 y0;go_wp2;go_meet
   case rel=>exact⟨_,((g0==0)),(sd),H',⟨by first|omega|exact Nat.le_refl _⟩,⟨bk⟩,⟨bl⟩⟩
  ·(first|rw[E0]|(simp only[i64_w,i32_w];rw[E0])|skip);have H':=qa H;clear H;obtain⟨R0,U0,V0,W0,X0,Y0⟩:=qk3 y0;go_wp2;go_meet
   case rel=>exact⟨_,(false),(sd),H',⟨by first|omega|exact Nat.le_refl _⟩,⟨bk⟩,⟨bl⟩⟩
 case rest=>
  clear v0;obtain⟨kq,D0,rfl,HA,a1,y0,HB⟩:=hcut;obtain⟨b1,rfl,H⟩:=kz kq HA;clear HA;simp only[spec_l12Made.j0]at H;replace H:=qc H;obtain⟨rfl,H⟩|⟨rfl,H⟩:=H
  ·replace H:=qb H;obtain⟨c1,d1,H⟩:=H;replace H:=qb H;obtain⟨⟨e1,g1⟩,l1,H⟩:=H;(try dsimp only at H);simp only[Option.some.injEq,Prod.mk.injEq]at H;obtain⟨rfl,rfl⟩:=H;obtain⟨n1,p1,q1,r1,s1,t1⟩:=qk3 y0
   go_wp2_with(first|(refine ge_ 19 Tryz.func122 (spec_NamedRow.calls b1 e0 c1 _ d1.out) fun v1 w1 x1 hb=>?_;have y1:=qa (Kd.R_lower x1 (below_size (bl)));replace y0:=qbb y0 hb;replace HB:=bs hb;obtain⟨A1,B1,rfl⟩:=Kd.R_slice y1.out)|(refine ge_ 20 Tryz.func121 (spec_TimesOf.calls b1 _ _ c0 _ _ c1 e1 g1 _ (cx (Kd.C_below s0.out HB.out)) t0.out (cx (Kd.R_reads' y1.out).2.2) ((Kd.R_reads' y1.out).2.1) l1.out) fun C1 D1 x1 hb=>?_;have E1:=qa (Kd.R_lower (Kd.R_new' x1 (Kd.R_lt (kR y1))) (below_size (bl)));replace y1:=qa (Kd.R_elder' (kR y1) (Kd.R_base x1) hb);replace y0:=qbb y0 hb;replace HB:=bs hb))
   go_ret2;exact⟨_,er,by(with_reducible repeat(first|apply Kd.R_alloc|apply Kd.R_drewN|apply Kd.R_drew));exact Kd.R_mono E1.out (fun _ hk=>trivial),bl⟩
  ·have G1:=qa H;clear H
   go_upto_region 3 with(fail)
   go_cut [23] (fun J1 wc=>∃(kq:Nat) (K1:Bool),J1= .bool K1∧Aside0 (spec_l12Made.j1 kq c0 K1 d0 e0 g0=some (l0,n0))∧Aside0 (kq≤b1)∧Aside0 (wc.heap[w0]? =some (.cells #[.int .i64 d0,.int .i64 e0,.int .i64 g0] 55 (0,0)))∧Aside0 (Below w.heap.size w wc))
   case first=>
    have H:=G1.out;clear G1;replace H:=qq H;obtain⟨L1,M1,H⟩|⟨N1,L1,M1,H⟩:=H
    ·(first|rw[L1]|(simp only[i64_w,i32_w];rw[L1])|skip);have H':=qa H;clear H;obtain⟨P1,Q1,R1,U1,V1,W1⟩:=qk3 y0;go_wp2;go_meet
     case rel=>exact⟨_,((g0==0)),(sd),H',⟨by have:=a1.out;first|omega|exact Nat.le_refl _⟩,⟨bk⟩,⟨bl⟩⟩
    ·(first|rw[L1]|(simp only[i64_w,i32_w];rw[L1])|skip);have H':=qa H;clear H;obtain⟨X1,Y1,a2,b2,c2,d2⟩:=qk3 y0;go_wp2;go_meet
     case rel=>exact⟨_,(false),(sd),H',⟨by have:=a1.out;first|omega|exact Nat.le_refl _⟩,⟨bk⟩,⟨bl⟩⟩
   case rest=>
    clear G1;obtain⟨kq,K1,rfl,HA,e2,y0,HB⟩:=hcut;obtain⟨g2,rfl,H⟩:=kz kq HA;clear HA;simp only[spec_l12Made.j1]at H;replace H:=qc H;obtain⟨rfl,H⟩|⟨rfl,H⟩:=H
    ·replace H:=qb H;obtain⟨j2,l2,H⟩:=H;replace H:=qb H;obtain⟨⟨n2,p2⟩,q2,H⟩:=H;(try dsimp only at H);simp only[Option.some.injEq,Prod.mk.injEq]at H;obtain⟨rfl,rfl⟩:=H;obtain⟨r2,s2,t2,v2,w2,x2⟩:=qk3 y0
     go_wp2_with(first|(refine ge_ 35 Tryz.func122 (spec_NamedRow.calls g2 e0 j2 _ l2.out) fun y2 A2 x1 hb=>?_;have B2:=qa (Kd.R_lower x1 (below_size (bl)));replace y0:=qbb y0 hb;replace HB:=bs hb;obtain⟨C2,D2,rfl⟩:=Kd.R_slice B2.out)|(refine ge_ 36 Tryz.func123 (spec_UnitaryTimes.calls g2 _ _ c0 _ _ j2 n2 p2 _ (cx (Kd.C_below s0.out HB.out)) t0.out (cx (Kd.R_reads' B2.out).2.2) ((Kd.R_reads' B2.out).2.1) q2.out) fun E2 G2 x1 hb=>?_;have J2:=qa (Kd.R_lower (Kd.R_new' x1 (Kd.R_lt (kR B2))) (below_size (bl)));replace B2:=qa (Kd.R_elder' (kR B2) (Kd.R_base x1) hb);replace y0:=qbb y0 hb;replace HB:=bs hb))
     go_ret2;exact⟨_,er,by(with_reducible repeat(first|apply Kd.R_alloc|apply Kd.R_drewN|apply Kd.R_drew));exact Kd.R_mono J2.out (fun _ hk=>trivial),bl⟩
    ·by_cases K2:(d0==2&&(e0==0&&(g0==0)))=true
     ·rw[if_pos K2]at H;have L2:(d0==2&&(e0==0&&(g0==0)))=true:=K2;(try(have M2:decide (d0=2&&(e0==0&&(g0==0)))=true:=by simpa using K2));(try(have N2:(d0==2&&(e0==0&&(g0==0)))=true:=by simpa using K2));clear K2;replace H:=qb H;obtain⟨⟨P2,Q2⟩,R2,H⟩:=H;(try dsimp only at H);simp only[Option.some.injEq,Prod.mk.injEq]at H;obtain⟨rfl,rfl⟩:=H;obtain⟨U2,V2,W2,X2,Y2,a3⟩:=qk3 y0
      go_wp2_with(first|(refine ge_ 44 Tryz.func124 (spec_InverseOf.calls g2 _ _ c0 P2 Q2 _ (cx (Kd.C_below s0.out HB.out)) t0.out R2.out) fun b3 c3 x1 hb=>?_;have d3:=qa (Kd.R_lower x1 (below_size (bl)));replace y0:=qbb y0 hb;replace HB:=bs hb))
      go_ret2;exact⟨_,er,kR d3,bl⟩
     ·rw[if_neg K2]at H;(have L2:(d0==2&&(e0==0&&(g0==0)))=false:=by simpa using K2);(try(have M2:decide (d0=2&&(e0==0&&(g0==0)))=false:=by simpa using K2));(try(have N2:(d0==2&&(e0==0&&(g0==0)))=false:=by simpa using K2));(try(have e3:¬(d0=2&&(e0==0&&(g0==0))):=by simpa using K2));clear K2;replace H:=qq H;obtain⟨g3,j3,H⟩|⟨l3,g3,j3,H⟩:=H
      ·replace H:=qb H;obtain⟨n3,p3,H⟩:=H;replace H:=qc H;obtain⟨rfl,H⟩|⟨rfl,H⟩:=H
       ·replace H:=qb H;obtain⟨q3,r3,H⟩:=H;replace H:=qc H;obtain⟨rfl,H⟩|⟨rfl,H⟩:=H
        ·replace H:=qs H;obtain⟨s3,t3,H⟩:=H;replace H:=qn H;obtain⟨v3,H⟩:=H;have w3:=qa v3;clear v3;replace H:=qs H;obtain⟨x3,y3,H⟩:=H;obtain⟨A3,B3⟩:∃j_:Int,(wrap64 (e0-1))=j_:=⟨_,rfl⟩;(first|rw[B3]at H|(try simp only[B3]at H));(try rw[B3]at p3);(try rw[B3]at r3);have C3:(IntKind.i64.wrap (e0-1))=A3:=(i64_w _).trans B3;replace H:=qd H;obtain⟨D3,H⟩:=H;replace H:=qd H;obtain⟨E3,H⟩:=H;obtain⟨G3,hy_⟩:∃y_:List Int,y_=(x3.set ((A3):Int).toNat g0):=⟨_,rfl⟩;replace H:(some (G3,true))=some (l0,n0):=yh;have J3:=qa hy_;clear hy_;simp only[Option.some.injEq,Prod.mk.injEq]at H;obtain⟨rfl,rfl⟩:=H;obtain⟨K3,L3,M3,N3,P3,Q3⟩:=qk3 y0
         go_wp2_with(first|(go_at_call 84;(with_reducible refine gm (spec_l1In.calls e0 1 24 true _ p3.out) fun nd=>?_);(try(rw[drewN_self wc];generalize hq_:World.drewN wc _=wc;have n0_:Aside0 (wc.heap[w0]? =some (.cells #[.int .i64 d0,.int .i64 e0,.int .i64 g0] 55 (0,0))):=⟨by rw[←hq_];exact(bk)⟩;have n1_:Aside0 (Below w.heap.size w wc):=⟨by rw[←hq_];exact(bl)⟩;clear y0 HB hq_;have y0:=n0_;have HB:=n1_;clear n0_ n1_));(try have R3:wc.cell? ⟨w0,0,none⟩=some (.int .i64 d0):=(blk_cell y0.out 0).trans rfl);(try have U3:wc.cell? ⟨w0,1,none⟩=some (.int .i64 e0):=(blk_cell y0.out 1).trans rfl);(try have V3:wc.cell? ⟨w0,2,none⟩=some (.int .i64 g0):=(blk_cell y0.out 2).trans rfl);(try have W3:=blk_frozen y0.out 0);(try have X3:=blk_frozen y0.out 1);(try have Y3:=blk_frozen y0.out 2))|(go_at_call 84;(with_reducible refine gm (spec_l1In.calls g0 0 9999 true _ r3.out) fun nd=>?_);(try(rw[drewN_self wc];generalize hq_:World.drewN wc _=wc;have n0_:Aside0 (wc.heap[w0]? =some (.cells #[.int .i64 d0,.int .i64 e0,.int .i64 g0] 55 (0,0))):=⟨by rw[←hq_];exact(bk)⟩;have n1_:Aside0 (Below w.heap.size w wc):=⟨by rw[←hq_];exact(bl)⟩;clear y0 HB hq_;have y0:=n0_;have HB:=n1_;clear n0_ n1_));(try have R3:wc.cell? ⟨w0,0,none⟩=some (.int .i64 d0):=(blk_cell y0.out 0).trans rfl);(try have U3:wc.cell? ⟨w0,1,none⟩=some (.int .i64 e0):=(blk_cell y0.out 1).trans rfl);(try have V3:wc.cell? ⟨w0,2,none⟩=some (.int .i64 g0):=(blk_cell y0.out 2).trans rfl);(try have W3:=blk_frozen y0.out 0);(try have X3:=blk_frozen y0.out 1);(try have Y3:=blk_frozen y0.out 2))|(refine rli .i64 3 61 t3.out fun a4 b4 c4 hb=>?_;have d4:=qa (Kd.R_lower c4 (below_size (bl)));replace y0:=qbb y0 hb;replace HB:=bs hb;clear hb c4)|((with_reducible refine gate_builtin (b:= .append) (xs:=#[.tmp 61,.tmp 62]) rfl ?_);at_builtin;refine Kd.R_append_rows (Kd.int .i64) (w0:=w) w.heap.size rfl (.tmp 61) (.tmp 62) 22 3 (.int .i64 0) 8 rfl Tryz.underlying22 info3 rfl kd_ ko_ a4 s3 c0 _ _ _ (fun _=>True) (fun _=>False) rfl rfl ?aO ?aR (fun _ _ h=>h) (fun _ h=>h.elim) ?aF ?aB ?aS ?aL ?_;(case aR=>exact cx (Kd.C_below s0.out HB.out));(case aB=>exact(bl));(case aF=>exact(fun _ _=>trivial));(case aO=>exact(kR d4));(case aS=>exact(below_size (bl)));(case aL=>have:=w3.out;omega);intro e4 g4 ho hb hg hat;rw[←y3.out]at ho;replace y0:=qa (blk_grown (g:=w0) (o:= .cells #[.int .i64 d0,.int .i64 e0,.int .i64 g0] 55 (0,0)) (bk) hg (Kd.R_ne d4.out y0.out kd_));replace HB:=qa (hb);have j4:=qa (ho);clear d4;clear ho hb hg hat;obtain⟨l4,n4,p4,q4,r4,s4⟩:=qk3 y0;have t4:0≤((A3):Int):=qo;have v4:((A3):Int)<((x3.length:Int):Int):=qo;obtain⟨w4,x4,y4,A4,gl39,cl39,HG39⟩:=Kd.R_form j4.out ko_;(first|cases y4|(injection y4 with ea_ en_ ec_;(first|subst ea_|(injection ea_ with ea_;subst ea_));subst ec_;clear en_));have GB39:=qa A4;have GG39:=qa HG39;clear A4 gl39 HG39;obtain⟨B4,C4⟩:=Kd.R_celln 0 j4.out ((A3):Int) t4 v4;replace t4:=eq_true t4;replace v4:=eq_true v4;obtain⟨hy45_,hz45_⟩:=Kd.R_celln 0 j4.out ((A3):Int) (qo) (qo);have HP45:=Kd.R_putg j4.out ((A3):Int) g0)|((with_reducible refine gate_store (t:=3) (p:=70) rfl ?_);refine store_event (t:=3) (p:=70) (v:=?vo_w46) (w1:=(g4.setCell ⟨w4,((A3):Int).toNat,none⟩ (.int .i64 g0))) ?hg ?ho ?hn ?hr ?_;(case ho=>rfl);(case hg=>rfl);(case hn=>rfl);(case hr=>exact gr);intro D4 hw;have hg:g4.grownBy D4 (some w4):=(by rw[hw];exact HP45.2);have hp_:Kd.R (Kd.int .i64) 3 D4 w.heap.size (fun _=>True) (.slice (some ⟨w4,0,none⟩) x3.length x4) G3:=(by rw[hw,J3.out];exact HP45.1);clear HP45;replace y0:=qa (blk_grown (g:=w0) (o:= .cells #[.int .i64 d0,.int .i64 e0,.int .i64 g0] 55 (0,0)) (bk) hg (Kd.R_ne j4.out y0.out kd_));replace j4:=qa (hp_);replace HB:=qa ((by rw[hw];exact below_set (HB.out) GB39.out:Below w.heap.size w D4));clear hg hw hp_))
         go_ret2;exact⟨_,by first|rfl|(simp[errW_none,errW_some];exact⟨rfl,rfl⟩)|(simp[errW_none,errW_some] <;> rfl)|(simp only[←B3];first|rfl|(simp[errW_none,errW_some] <;> rfl))|(simp[*,errW_none,errW_some] <;> rfl),kR j4,bl⟩
        ·obtain⟨E4,hy_⟩:∃y_:List Int,y_=(([]:List Int)):=⟨_,rfl⟩;replace H:(some (E4,false))=some (l0,n0):=yh;have G4:=qa hy_;clear hy_;simp only[Option.some.injEq,Prod.mk.injEq]at H;obtain⟨rfl,rfl⟩:=H;obtain⟨J4,K4,L4,M4,N4,P4⟩:=qk3 y0
         go_wp2_with(first|(go_at_call 84;(with_reducible refine gm (spec_l1In.calls e0 1 24 true _ p3.out) fun nd=>?_))|(go_at_call 84;(with_reducible refine gm (spec_l1In.calls g0 0 9999 false _ r3.out) fun nd=>?_))|(refine rli .i64 3 72 G4.out fun Q4 R4 U4 hb=>?_;have V4:=qa (Kd.R_lower U4 (below_size (bl)));replace y0:=qbb y0 hb;replace HB:=bs hb;clear hb U4))
         go_ret2;exact⟨_,er,kR V4,bl⟩
       ·obtain⟨W4,hy_⟩:∃y_:List Int,y_=(([]:List Int)):=⟨_,rfl⟩;replace H:(some (W4,false))=some (l0,n0):=yh;have X4:=qa hy_;clear hy_;simp only[Option.some.injEq,Prod.mk.injEq]at H;obtain⟨rfl,rfl⟩:=H;obtain⟨Y4,a5,b5,c5,d5,e5⟩:=qk3 y0
        go_wp2_with(first|(go_at_call 84;(with_reducible refine gm (spec_l1In.calls e0 1 24 false _ p3.out) fun nd=>?_))|(refine rli .i64 3 72 X4.out fun g5 j5 l5 hb=>?_;have n5:=qa (Kd.R_lower l5 (below_size (bl)));replace y0:=qbb y0 hb;replace HB:=bs hb;clear hb l5))
        go_ret2;exact⟨_,er,kR n5,bl⟩
      ·obtain⟨p5,q5⟩:∃y_:List Int,y_=(([]:List Int)):=⟨_,rfl⟩;(replace H:(some (p5,false))=some (l0,n0):=by first|(rw[q5];with_reducible exact H)|(have H2_:=(Option.bind_some _ _).symm.trans H;rw[q5];with_reducible exact H2_)|(have H2_:=(Option.bind_some _ _).symm.trans H;with_reducible exact H2_)|with_reducible exact H|(rw[q5];exact H)|exact H);have r5:=qa q5;clear q5;simp only[Option.some.injEq,Prod.mk.injEq]at H;obtain⟨rfl,rfl⟩:=H;obtain⟨s5,t5,v5,w5,x5,y5⟩:=qk3 y0
       go_wp2_with(first|(refine rli .i64 3 72 r5.out fun A5 B5 C5 hb=>?_;have D5:=qa (Kd.R_lower C5 (below_size (bl)));replace y0:=qbb y0 hb;replace HB:=bs hb;clear hb C5))
       go_ret2;exact⟨_,er,kR D5,bl⟩

def spec_l12Same.l0:Nat→List Int→List Int→Int→Option (Bool)
 |0,_,_,_=>none
 |k+1,a0,b0,c0=>if c0<24 then(if 0≤c0 then(if c0<(a0.length:Int)then(if c0<(b0.length:Int)then(if(rd a0 c0)=(rd b0 c0)then(spec_l12Same.l0 k a0 b0 (wrap64 (c0+1)))else(some false))else(none))else(none))else(none))else(some true)
def spec_l12Same.f (k:Nat) (a0:List Int) (b0:List Int):Option (Bool):=spec_l12Same.l0 k a0 b0 0
theorem spec_l12Same.calls (k:Nat) (a0:Option Addr) (b0:Nat) (c0:List Int) (d0:Option Addr) (e0:Nat) (g0:List Int) (r:Bool) (w:World) (j0:Kd.C (Kd.int .i64) w a0 c0.length c0) (n0:c0.length≤b0) (p0:Kd.C (Kd.int .i64) w d0 g0.length g0) (q0:g0.length≤e0) (h:spec_l12Same.f k c0 g0=some r):
  Calls Tryz.prog 81 #[.slice a0 c0.length b0,.slice d0 g0.length e0] w fun e w'=>e= .returned (.bool r)∧Drawn0 w w':=by
 have r0:=qa j0;have s0:=qa n0;clear j0 n0;have t0:=qa p0;have v0:=qa q0;clear p0 q0;have H:=h;unfold spec_l12Same.f at H;clear h;have H':=qa H;clear H
 go_enter Tryz.func81,Tryz.ntmps81
 go_wp2
 repeat(go_quiet(fail);try go_wp2)
 go_loopg [5] k (fun kq w0 w'=>∃(x0:Int),w0= .int .i64 x0∧Aside0 (spec_l12Same.l0 kq c0 g0 x0=some r)∧Aside0 (kq≤k)∧Drawn0 w w')
 case atStart=>exact⟨(0),(sd),H',⟨Nat.le_refl _⟩,dr⟩
 case round=>
  clear H';obtain⟨x0,rfl,HA,HK1,⟨m1,rfl⟩⟩:=hrel;obtain⟨k1,rfl,H⟩:=kz gk HA;clear HA;simp only[spec_l12Same.l0]at H;replace H:=qe H;obtain⟨y0,H⟩|⟨y0,H⟩:=H
  ·replace H:=qd H;obtain⟨A0,H⟩:=H;replace H:=qd H;obtain⟨B0,H⟩:=H;replace H:=qd H;obtain⟨C0,H⟩:=H;replace H:=qq H;obtain⟨D0,E0,H⟩|⟨G0,D0,E0,H⟩:=H
   ·have H':=qa H;clear H;obtain⟨J0,⟨⟩,K0,L0,M0⟩:=ai r0.out x0;obtain⟨N0,⟨⟩,P0,Q0,R0⟩:=ai t0.out x0;go_wp2
    repeat(go_quiet(fail);try go_wp2)
    go_roundg k1
    case measure=>have:=HK1.out;omega
    case rel=>exact⟨(wrap64 (x0+1)),(sd),H',⟨by have:=HK1.out;omega⟩,dr⟩
   ·obtain rfl:=sj H;obtain⟨J0,⟨⟩,K0,L0,M0⟩:=ai r0.out x0;obtain⟨N0,⟨⟩,P0,Q0,R0⟩:=ai t0.out x0;go_wp2
    repeat(go_quiet(fail);try go_wp2)
    go_ret;exact⟨sd,dr⟩
  ·obtain rfl:=sj H;go_wp2
   repeat(go_quiet(fail);try go_wp2)
   go_ret;exact⟨sd,dr⟩
attribute [local go_sem high] eqA55
/-- The last row of a row of rows, and what stands ahead of it: apart. -/
theorem S_pop {α:Type} {d:Kd α} {e e':Nat} {w:World} {base:Nat} {ok:Nat→Prop} {ad:Addr} {n cap m:Nat} {xs:List (List α)} (h:Kd.S (Kd.slice e' d) e w base ok (.slice (some ad) n cap) xs) (hn:xs.length=m+1) (a0:n=m+1):
  ∃v,w.cell? (ad.add m)=some v∧Kd.R d e' w base (fun k=>ok k) v (xs.getD m [])∧Kd.S (Kd.slice e' d) e w base (fun k=>ok k∧some k≠v.ownBlock) (.slice (some ad) m cap) (xs.take m):=by
 obtain⟨f,hf⟩:=h;(have hlen:xs.zipIdx.length=m+1:=by rw[List.length_zipIdx];exact hn);obtain⟨c,hcl,hM,hc⟩:=Kd.R_getA hf (([]:List α),m) (m:Int) ko_ ko_
 have hz:xs.zipIdx.getD ((m:Int)).toNat (([]:List α),m)=(xs.getD m [],m):=by
  (have b0:((m:Int)).toNat =m:=by omega);rw[b0,List.getD_eq_getElem?_getD,List.getElem?_zipIdx,List.getD_eq_getElem?_getD,List.getElem?_eq_getElem ko_]
  simp
 rw[hz]at hM;obtain⟨v,rfl,hv⟩:=hM
 have hcell:w.cell? (ad.add m)=some v:=by
  have:=hc 0 v rfl
  have b0:((m:Int)).toNat *(Kd.tag f (Kd.slice e' d)).sz +0=m:=by
   show((m:Int)).toNat *1+0=m
   omega
  rwa [b0]at this
 refine⟨v,hcell,Kd.R_mono hv (fun k hk=>hk.1.1),f,?_⟩;have ht:=Kd.R_take hf (m:=m) ko_
 have c0:(xs.take m).zipIdx =xs.zipIdx.take m:=by
  apply List.ext_getElem?
  intro j;rw[List.getElem?_zipIdx,List.getElem?_take,List.getElem?_take,List.getElem?_zipIdx]
  split <;> simp
 rw[c0];obtain⟨h0,inner,ho,hr⟩:=ht;(have hvb:∀k,v.ownBlock=some k→f k=m∧some k≠(Value.slice (some ad) m cap).ownBlock :=fun k hk=>⟨(hv.1 k hk).2,fun e=>(hv.1 k hk).1.2 (by rw[e];rfl)⟩);refine⟨fun k hk=>⟨h0 k hk,fun e=>(hvb k e.symm).2 hk.symm⟩,inner,ho,hr.1,fun j p hj=>?_⟩;have hq:=hr.2 j p hj
 have hp:p.2=j∧j<m:=by
  rw[List.getElem?_take]at hj
  split at hj
  ·rename_i hlt
   rw[List.getElem?_zipIdx]at hj;obtain⟨x,hx,rfl⟩:=Option.map_eq_some_iff.1 hj;exact⟨by simp,hlt⟩
  ·cases hj
 refine(Kd.tag f (Kd.slice e' d)).M_mono (fun k hk=>hk) ?_;exact(Kd.slice e' d).M_mono (fun k hk=>⟨⟨⟨hk.1.1,fun e=>by have:=(hvb k e.symm).1;have:=hk.2;omega⟩,hk.1.2⟩,hk.2⟩) hq
theorem w64_small (x:Int) (h0:0≤x) (h1:x<4096):wrap64 x=x:=by
 unfold wrap64
 omega

mutual
def spec_DeskDo.j0:Nat→Bool→List Int→List (List Int)→Int→Int→Int→List Int→List (List Int)→Option (List Int×(List (List Int))×Bool)
 |0,_,_,_,_,_,_,_,_=>none
 |k+1,a0,b0,c0,d0,e0,g0,l0,n0=>if a0=true then(if 0<n0.length∧n0.length<4096 then(some (n0.getD (n0.length-1) [],n0.take (n0.length-1),true))else none)else((spec_l12Made.f k b0 d0 e0 g0).bind fun p0=>(if p0.2=true then((spec_l12Same.f k p0.1 b0).bind fun q0=>(spec_DeskDo.j1 k p0.1 q0 l0 n0))else(spec_DeskDo.j1 k p0.1 true l0 n0)))
def spec_DeskDo.j1:Nat→List Int→Bool→List Int→List (List Int)→Option (List Int×(List (List Int))×Bool)
 |0,_,_,_,_=>none
 |k+1,r0,s0,l0,n0=>if s0=true then(some (l0,n0,false))else(if n0.length<5864062014805 then((some (n0++[l0]:List (List Int))).bind fun t0=>(if(t0.length:Int)>8 then(if 1≤(t0.length:Int)then(some (r0,(t0.drop (1:Int).toNat),true))else(none))else(some (r0,t0,true))))else(none))
end

def spec_DeskDo.f (k:Nat) (a0:List Int) (b0:List (List Int)) (c0:Int) (d0:Int) (e0:Int):Option (List Int×(List (List Int))×Bool):=(spec_DeskOk.f k a0 b0).bind fun g0=>(if g0=true then((spec_l12Copy.f k a0 b0).bind fun l0=>(if(c0==4&&(d0==0&&(e0==0)))=true then(spec_DeskDo.j0 k (decide ((b0.length:Int)>0)) a0 b0 c0 d0 e0 l0.1 l0.2)else(spec_DeskDo.j0 k false a0 b0 c0 d0 e0 l0.1 l0.2)))else(some (([]:List Int),([]:List (List Int)),false)))
theorem spec_DeskDo.calls (k:Nat) (a0:Option Addr) (b0:Nat) (c0:List Int) (d0:Option Addr) (e0:Nat) (g0:List (List Int)) (l0:Int) (n0:Int) (p0:Int) (q0:List Int) (r0:List (List Int)) (s0:Bool) (w:World) (t0:Kd.C (Kd.int .i64) w a0 c0.length c0) (v0:c0.length≤b0) (w0:Kd.C (Kd.slice 3 (Kd.int .i64)) w d0 g0.length g0) (x0:g0.length≤e0) (h:spec_DeskDo.f k c0 g0 l0 n0 p0=some (q0,r0,s0)):
  Calls Tryz.prog 42 #[.agg #[.slice a0 c0.length b0,.slice d0 g0.length e0],.agg #[.int .i64 l0,.int .i64 n0,.int .i64 p0]] w fun e w'=>∃v0_ v1_:Value,e= .returned (.tuple #[.agg #[v0_,v1_],.bool s0])∧Kd.R (Kd.int .i64) 3 w' w.heap.size (fun _=>True) v0_ q0∧Kd.Q (Kd.slice 3 (Kd.int .i64)) 22 w' w.heap.size (fun k_=>some k_≠(v0_:Value).ownBlock) v1_ r0∧Below w.heap.size w w':=by
 have y0:=Tryz.underlying27;have A0:=Tryz.underlying55;have B0:=qa t0;have C0:=qa v0;clear t0 v0;have D0:=qa w0;have E0:=qa x0;clear w0 x0;have HB:=qa (Below.refl w.heap.size w);have H:=h;unfold spec_DeskDo.f at H;clear h;replace H:=qb H;obtain⟨G0,J0,H⟩:=H;replace H:=qc H;obtain⟨rfl,H⟩|⟨rfl,H⟩:=H
 ·replace H:=qb H;obtain⟨⟨K0,L0⟩,M0,H⟩:=H;(try dsimp only at H);have N0:=qa H;clear H
  go_enter Tryz.func42,Tryz.ntmps42
  go_upto_region 4 with(go_big_may;first|((with_reducible refine gate_dst (N:=2) rfl ?_);(try(refine gate_guard (by rfl) ?_;dsimp only));refine bx 2 #[.slice a0 c0.length b0,.slice d0 g0.length e0] 27 ?_;intro P0 hg Q0 hbox hb;have R0:=qa (hbox);have U0:=gw hg;have V0:=gw hg;replace HB:=bs hb;clear hb hbox hg)|((with_reducible refine gate_dst (N:=3) rfl ?_);(try(refine gate_guard (by rfl) ?_;dsimp only));refine bx 3 #[.int .i64 l0,.int .i64 n0,.int .i64 p0] 55 ?_;intro W0 hg X0 hbox hb;have Y0:=qa (hbox);have a1:=gw hg;have b1:=gw hg;replace HB:=bs hb;have c1:=qnl hg R0;have d1:=qng hg R0;replace R0:=qbb R0 hb;clear hb hbox hg)|((with_reducible refine gate_dst (N:=4) rfl ?_);(try(refine gate_guard (by rfl) ?_;dsimp only));refine bx 4 #[.slice none 0 0,.slice none 0 0] 27 ?_;intro e1 hg g1 hbox hb;have l1:=qa (hbox);have n1:=gw hg;have p1:=gw hg;replace HB:=bs hb;have q1:=qnl hg R0;have r1:=qng hg R0;replace R0:=qbb R0 hb;have s1:=qnl hg Y0;have t1:=qng hg Y0;replace Y0:=qbb Y0 hb;clear hb hbox hg;have v1:=c1.out;have w1:=d1.out;have x1:=q1.out;have y1:=r1.out;obtain⟨A1,B1,C1,D1⟩:=qk2 R0)|(refine gb 11 Tryz.func20 (spec_DeskOk.calls k _ _ c0 _ _ g0 true _ (cx (Kd.C_below B0.out HB.out)) C0.out (cx (Kd.C_below D0.out HB.out)) E0.out J0.out) fun E1 hb=>?_;replace R0:=qbb R0 hb;replace Y0:=qbb Y0 hb;replace l1:=qbb l1 hb;replace HB:=bs hb;obtain⟨G1,J1,K1,L1⟩:=qk2 R0)|(refine gol (some 15) Tryz.func40 #[.agg #[.slice a0 c0.length b0,.slice d0 g0.length e0]] ?_;(with_reducible refine(spec_l12Copy.calls k _ _ c0 _ _ g0 K0 L0 _ ?M1 ?N1 ?P1 ?Q1 M0.out).mono ?_);(case M1=>exact cx (Kd.C_below B0.out HB.out));(case N1=>exact C0.out);(case P1=>exact cx (Kd.C_below D0.out HB.out));(case Q1=>exact E0.out);rintro e R1 ⟨U1,V1,rfl,W1,X1,hb⟩;refine⟨_,rfl,?_⟩;have Y1:=qa (Kd.R_lower W1 (below_size (bl)));have a2:=qa (Kd.S_lower X1 (below_size (bl)));replace R0:=qbb R0 hb;replace Y0:=qbb Y0 hb;replace l1:=qbb l1 hb;replace HB:=bs hb)|((with_reducible refine gate_dst (N:=6) rfl ?_);(try(refine gate_guard (by rfl) ?_;dsimp only));refine bx 6 #[.slice none 0 0,.slice none 0 0] 27 ?_;intro b2 hg c2 hbox hb;replace Y1:=qa (Kd.R_below (kR Y1) hb);replace a2:=qa (Kd.S_below (kS a2) hb);have d2:=qa (hbox);have e2:=gw hg;have g2:=gw hg;replace HB:=bs hb;have j2:=qnl hg R0;have l2:=qng hg R0;replace R0:=qbb R0 hb;have n2:=qnl hg Y0;have p2:=qng hg Y0;replace Y0:=qbb Y0 hb;have q2:=qnl hg l1;have r2:=qng hg l1;replace l1:=qbb l1 hb;clear hb hbox hg;obtain⟨s2,t2,rfl⟩:=Kd.R_slice Y1.out;have v2:=l2.out;have w2:=j2.out;have x2:=p2.out;have y2:=n2.out;have A2:=r2.out;have B2:=q2.out;obtain⟨C2,D2,E2,G2⟩:=qk2 d2;obtain⟨J2,K2,rfl⟩:=Kd.S_slice a2.out))
  (try simp only[Act.put,List.setIfInBounds_toArray,List.set_cons_zero,List.set_cons_succ])
  go_cut [24] (fun L2 wc=>∃(kq:Nat) (M2:Bool),L2= .bool M2∧Aside0 (spec_DeskDo.j0 kq M2 c0 g0 l0 n0 p0 K0 L0=some (q0,r0,s0))∧Aside0 (kq≤k)∧Aside0 (Kd.R (Kd.int .i64) 3 wc w.heap.size (fun _=>True) (.slice s2 K0.length t2) K0)∧Aside0 (Kd.S (Kd.slice 3 (Kd.int .i64)) 22 wc w.heap.size (fun k_=>some k_≠((.slice s2 K0.length t2):Value).ownBlock) (.slice J2 L0.length K2) L0)∧Aside0 (wc.heap[P0]? =some (.cells #[(.slice a0 c0.length b0),(.slice d0 g0.length e0)] 27 (0,0)))∧Aside0 (wc.heap[W0]? =some (.cells #[.int .i64 l0,.int .i64 n0,.int .i64 p0] 55 (0,0)))∧Aside0 (wc.heap[e1]? =some (.cells #[(.slice none 0 0),(.slice none 0 0)] 27 (0,0)))∧Aside0 (wc.heap[b2]? =some (.cells #[(.slice s2 K0.length t2),(.slice J2 L0.length K2)] 27 (0,0)))∧Aside0 (Below w.heap.size w wc))
  case first=>
   have H:=N0.out;clear N0
   by_cases N2:(l0==4&&(n0==0&&(p0==0)))=true
   ·rw[if_pos N2]at H;have P2:(l0==4&&(n0==0&&(p0==0)))=true:=N2;(try(have Q2:decide (l0=4&&(n0==0&&(p0==0)))=true:=by simpa using N2));(try(have R2:(l0==4&&(n0==0&&(p0==0)))=true:=by simpa using N2));clear N2;(first|rw[P2]|(simp only[i64_w,i32_w];rw[P2])|skip);have H':=qa H;clear H;have U2:=d1.out;have V2:=c1.out;have W2:=s1.out;have X2:=t1.out;have Y2:=n2.out;have a3:=p2.out;obtain⟨b3,c3,d3,e3,g3,j3⟩:=qk3 Y0;have l3:=q1.out;have n3:=r1.out;have p3:=j2.out;have q3:=l2.out;obtain⟨r3,s3,t3,v3⟩:=qk2 R0;go_wp2;go_meet
    case rel=>exact⟨_,(decide ((g0.length:Int)>0)),(sd),H',⟨by first|omega|exact Nat.le_refl _⟩,⟨kFR Y1 d2 (fun _ hk=>trivial)⟩,⟨(kFS a2 d2 (fun _ hk=>hk.1))⟩,⟨kb R0⟩,⟨kb Y0⟩,⟨kb l1⟩,⟨kP d2⟩,⟨bl⟩⟩
   ·rw[if_neg N2]at H;(have P2:(l0==4&&(n0==0&&(p0==0)))=false:=by simpa using N2);(try(have Q2:decide (l0=4&&(n0==0&&(p0==0)))=false:=by simpa using N2));(try(have R2:(l0==4&&(n0==0&&(p0==0)))=false:=by simpa using N2));(try(have w3:¬(l0=4&&(n0==0&&(p0==0))):=by simpa using N2));clear N2;(first|rw[P2]|(simp only[i64_w,i32_w];rw[P2])|skip);have H':=qa H;clear H;have x3:=d1.out;have y3:=c1.out;have A3:=s1.out;have B3:=t1.out;have C3:=n2.out;have D3:=p2.out;obtain⟨E3,G3,J3,K3,L3,M3⟩:=qk3 Y0;go_wp2;go_meet
    case rel=>exact⟨_,(false),(sd),H',⟨by first|omega|exact Nat.le_refl _⟩,⟨kFR Y1 d2 (fun _ hk=>trivial)⟩,⟨(kFS a2 d2 (fun _ hk=>hk.1))⟩,⟨kb R0⟩,⟨kb Y0⟩,⟨kb l1⟩,⟨kP d2⟩,⟨bl⟩⟩
  case rest=>
   clear N0;obtain⟨kq,M2,rfl,HA,N3,P3,Q3,R0,Y0,l1,d2,HB⟩:=hcut;obtain⟨R3,rfl,H⟩:=kz kq HA;clear HA;simp only[spec_DeskDo.j0]at H
   by_cases U3:M2=true
   ·subst U3;(have H1:(if 0<L0.length∧L0.length<4096 then(some (L0.getD (L0.length-1) [],L0.take (L0.length-1),true))else none)=some (q0,r0,s0):=by rw[if_pos rfl]at H;exact H);clear H
    by_cases c_:0<L0.length∧L0.length<4096
    ·rw[if_pos c_]at H1;simp only[Option.some.injEq,Prod.mk.injEq]at H1;obtain⟨e1_,e2_,rfl⟩:=H1;obtain⟨j_,hj_⟩:∃j_:Int,(L0.length:Int)-1=j_:=⟨_,rfl⟩;(have hm_:L0.length=j_.toNat+1:=by omega);(have em_:L0.length-1=j_.toNat:=by omega);rw[em_]at e1_ e2_;have hPc_:=(Kd.R_reads' (Kd.S_R Q3.out)).2.1
     obtain⟨ad_,ea_⟩:∃ad_,J2=some ad_:=by
      obtain⟨g_,c2_,e_,_⟩:=Kd.S_form Q3.out ko_;(injection e_ with e_ _ _);exact⟨_,e_⟩
     subst ea_;obtain⟨v_,hcell_,hv_,hrest_⟩:=S_pop Q3.out hm_ hm_;rw[e1_]at hv_;rw[e2_]at hrest_;obtain⟨Av_,cv_,ev_⟩:=Kd.R_slice hv_;subst ev_;have hQ_:=Kd.Q_of_R (Kd.S_R hrest_);(have hwj_:IntKind.i64.wrap ((L0.length:Int)-1)=j_:=by rw[i64_w,hj_];exact w64_small _ ko_ ko_);have hp_:(0≤j_)=True:=eq_true ko_;have hq_:(j_<(L0.length:Int))=True:=eq_true ko_;obtain⟨i0_,hi0_,_,hsz_,_⟩:=info_parts info22;have hcut_:=cut_to (P:=Tryz.prog) 23 22 .i64 Tryz.underlying23 hi0_ (some ad_) L0.length K2 j_ ko_ ko_ hPc_;clear hi0_ hsz_ hrest_ e1_ e2_ hm_ em_ c_ hj_ hPc_;have V3:=q1.out;have W3:=j2.out;have X3:=s1.out;have Y3:=n2.out;have a4:=r1.out;have b4:=t1.out;have c4:=q2.out;have d4:=l2.out;have e4:=p2.out;have g4:=r2.out;obtain⟨hcy_0,hcy_1,hfy_0,hfy_1⟩:=qk2 d2;have hcx_0:wc.cell? ⟨e1,0,none⟩=some (.slice none 0 0):=(blk_cell l1.out 0).trans rfl;have hcx_1:wc.cell? ⟨e1,1,none⟩=some (.slice none 0 0):=(blk_cell l1.out 1).trans rfl;have hfx_0:=blk_frozen l1.out 0;have hfx_1:=blk_frozen l1.out 1;go_wp2;refine bodyPost_ret (results_ct rfl _ _ e1 27 #[.slice Av_ q0.length cv_,.slice (some ad_) j_.toNat K2] (0,0) _ rfl (by(with_reducible repeat(first|refine blk_drewN ?_ _|refine blk_drew ?_|refine blk_alloc ?_ _));refine blk_put (cs:=#[.slice Av_ q0.length cv_,.slice none 0 0]) ?_ 1 _ rfl;(with_reducible repeat(first|refine blk_drewN ?_ _|refine blk_drew ?_|refine blk_alloc ?_ _));refine blk_put (cs:=#[.slice none 0 0,.slice none 0 0]) ?_ 0 _ rfl;(with_reducible repeat(first|refine blk_drewN ?_ _|refine blk_drew ?_|refine blk_alloc ?_ _));refine blk_far ?_ q2.out _;(with_reducible repeat(first|refine blk_drewN ?_ _|refine blk_drew ?_|refine blk_alloc ?_ _));refine blk_far ?_ q2.out _;(with_reducible repeat(first|refine blk_drewN ?_ _|refine blk_drew ?_|refine blk_alloc ?_ _));exact l1.out) Tryz.underlying27 rfl kr_) rfl ?_;exact⟨_,_,er,kGR hv_ d2 l1 (fun _ hk=>trivial),kGQ hQ_ d2 l1 (fun _ hk=>hk.1.1.2),bl⟩
    ·rw[if_neg c_]at H1;exact absurd H1 (by simp)
   ·replace U3:=Bool.eq_false_iff.mpr U3;subst U3;have HQ_:=qa (Kd.Q_of_R (Kd.S_R Q3.out));clear Q3;have Q3:=HQ_;clear HQ_;replace H:=qf H;replace H:=qb H;obtain⟨⟨j4,l4⟩,n4,H⟩:=H;(try dsimp only at H);have p4:=qa H;clear H;have q4:=c1.out;have r4:=d1.out;have s4:=q1.out;have t4:=r1.out;have v4:=j2.out;have w4:=l2.out;obtain⟨x4,y4,A4,B4⟩:=qk2 R0;have C4:=s1.out;have D4:=t1.out;have E4:=n2.out;have G4:=p2.out;obtain⟨J4,K4,L4,M4,N4,P4⟩:=qk3 Y0
    go_upto_region 10 with(go_big_may;first|(refine ge_ 45 Tryz.func80 (spec_l12Made.calls R3 _ _ c0 l0 n0 p0 j4 l4 _ (cx (Kd.C_below B0.out HB.out)) C0.out n4.out) fun Q4 R4 W1 hb=>?_;replace Q3:=qa (Kd.Q_elder' (kQ Q3) (Kd.R_base W1) hb);have U4:=qa (Kd.R_lower (Kd.R_new' W1 (Kd.R_lt (kR P3))) (below_size (bl)));replace P3:=qa (Kd.R_elder' (kR P3) (Kd.R_base W1) hb);replace R0:=qbb R0 hb;replace Y0:=qbb Y0 hb;replace l1:=qbb l1 hb;replace d2:=qbb d2 hb;replace HB:=bs hb))
    (try simp only[Act.put,List.setIfInBounds_toArray,List.set_cons_zero,List.set_cons_succ])
    go_cut [55] (fun V4 wc=>∃(kq:Nat) (W4:Bool),V4= .bool W4∧Aside0 (spec_DeskDo.j1 kq j4 W4 K0 L0=some (q0,r0,s0))∧Aside0 (kq≤R3)∧Aside0 (Kd.R (Kd.int .i64) 3 wc w.heap.size (fun k_=>some k_≠((.slice s2 K0.length t2):Value).ownBlock) Q4 j4)∧Aside0 (Kd.R (Kd.int .i64) 3 wc w.heap.size (fun k_=>some k_≠(Q4:Value).ownBlock) (.slice s2 K0.length t2) K0)∧Aside0 (Kd.Q (Kd.slice 3 (Kd.int .i64)) 22 wc w.heap.size (fun k_=>some k_≠(Q4:Value).ownBlock ∧some k_≠((.slice s2 K0.length t2):Value).ownBlock) (.slice J2 L0.length K2) L0)∧Aside0 (wc.heap[P0]? =some (.cells #[(.slice a0 c0.length b0),(.slice d0 g0.length e0)] 27 (0,0)))∧Aside0 (wc.heap[W0]? =some (.cells #[.int .i64 l0,.int .i64 n0,.int .i64 p0] 55 (0,0)))∧Aside0 (wc.heap[e1]? =some (.cells #[(.slice none 0 0),(.slice none 0 0)] 27 (0,0)))∧Aside0 (wc.heap[b2]? =some (.cells #[(.slice s2 K0.length t2),(.slice J2 L0.length K2)] 27 (0,0)))∧Aside0 (Below w.heap.size w wc))
    case first=>
     have H:=p4.out;clear p4;replace H:=qc H;obtain⟨rfl,H⟩|⟨rfl,H⟩:=H
     ·replace H:=qb H;obtain⟨X4,Y4,H⟩:=H;have H':=qa H;clear H;have a5:=c1.out;have b5:=d1.out;have c5:=q1.out;have d5:=r1.out;have e5:=j2.out;have g5:=l2.out;obtain⟨j5,l5,n5,p5⟩:=qk2 R0;obtain⟨q5,r5,rfl⟩:=Kd.R_slice U4.out
      go_wp2_with(first|(go_at_call 81;(with_reducible refine(spec_l12Same.calls R3 _ _ j4 _ _ c0 X4 _ ?M1 ?N1 ?P1 ?Q1 Y4.out).mono ?_);(case M1=>exact cx (Kd.R_reads' U4.out).2.2);(case N1=>exact(Kd.R_reads' U4.out).2.1);(case P1=>exact cx (Kd.C_below B0.out HB.out));(case Q1=>exact C0.out);rintro e w' ⟨rfl,⟨nd,rfl⟩⟩))
      go_meet
      case rel=>exact⟨_,(X4),(sd),H',⟨by have:=N3.out;first|omega|exact Nat.le_refl _⟩,⟨by(with_reducible repeat(first|apply Kd.R_alloc|apply Kd.R_drewN|apply Kd.R_drew));exact Kd.R_mono U4.out (fun _ hk=>hk.2)⟩,⟨by(with_reducible repeat(first|apply Kd.R_alloc|apply Kd.R_drewN|apply Kd.R_drew));exact Kd.R_mono P3.out (fun _ hk=>hk.2)⟩,⟨by(with_reducible repeat(first|apply Kd.Q_alloc|apply Kd.Q_drewN|apply Kd.Q_drew));exact Kd.Q_mono Q3.out (fun _ hk=>⟨hk.2,hk.1⟩)⟩,⟨bk⟩,⟨bk⟩,⟨bk⟩,⟨bk⟩,⟨bl⟩⟩
     ·have H':=qa H;clear H;go_wp2;go_meet
      case rel=>exact⟨_,(true),(sd),H',⟨by have:=N3.out;first|omega|exact Nat.le_refl _⟩,⟨by(with_reducible repeat(first|apply Kd.R_alloc|apply Kd.R_drewN|apply Kd.R_drew));exact Kd.R_mono U4.out (fun _ hk=>hk.2)⟩,⟨by(with_reducible repeat(first|apply Kd.R_alloc|apply Kd.R_drewN|apply Kd.R_drew));exact Kd.R_mono P3.out (fun _ hk=>hk.2)⟩,⟨by(with_reducible repeat(first|apply Kd.Q_alloc|apply Kd.Q_drewN|apply Kd.Q_drew));exact Kd.Q_mono Q3.out (fun _ hk=>⟨hk.2,hk.1⟩)⟩,⟨bk⟩,⟨bk⟩,⟨bk⟩,⟨bk⟩,⟨bl⟩⟩
    case rest=>
     clear p4;obtain⟨kq,W4,rfl,HA,s5,t5,P3,Q3,R0,Y0,l1,d2,HB⟩:=hcut;obtain⟨v5,rfl,H⟩:=kz kq HA;clear HA;simp only[spec_DeskDo.j1]at H;replace H:=qc H;obtain⟨rfl,H⟩|⟨rfl,H⟩:=H
     ·simp only[Option.some.injEq,Prod.mk.injEq]at H;obtain⟨rfl,rfl,rfl⟩:=H;have w5:=l2.out;have x5:=j2.out;have y5:=p2.out;have A5:=n2.out;have B5:=r2.out;have C5:=q2.out;obtain⟨D5,E5,G5,J5⟩:=qk2 d2;have K5:=r1.out;have L5:=q1.out;have M5:=t1.out;have N5:=s1.out;obtain⟨P5,Q5,R5,U5⟩:=qk2 l1;go_wp2;refine bodyPost_ret (results_ct rfl _ _ e1 27 #[.slice s2 K0.length t2,.slice J2 L0.length K2] (0,0) _ rfl (kP l1) Tryz.underlying27 rfl kr_) rfl ?_;exact⟨_,_,er,kFR P3 l1 (fun _ hk=>trivial),kFQ Q3 l1 (fun _ hk=>hk.1.2),bl⟩
     ·replace H:=qn H;obtain⟨V5,H⟩:=H;have W5:=qa V5;clear V5;replace H:=qs H;obtain⟨X5,Y5,H⟩:=H
      by_cases a6:(X5.length:Int)>8
      ·rw[if_pos a6]at H;have b6:decide (8<(X5.length:Int))=true:=decide_eq_true a6;have c6:decide (8<X5.length)=true:=decide_eq_true ko_;clear a6;replace H:=qn H;obtain⟨d6,H⟩:=H;have e6:=eq_true d6;have g6:decide (1≤(X5.length:Int))=true:=decide_eq_true d6;clear d6;obtain⟨j6,hy_⟩:∃y_:List (List Int),y_=(X5.drop (1:Int).toNat):=⟨_,rfl⟩;replace H:(some (j4,j6,true))=some (q0,r0,s0):=yh;have l6:=qa hy_;clear hy_;simp only[Option.some.injEq,Prod.mk.injEq]at H;obtain⟨rfl,rfl,rfl⟩:=H;have n6:=l2.out;have p6:=j2.out;have q6:=p2.out;have r6:=n2.out;have s6:=r2.out;have t6:=q2.out;obtain⟨v6,w6,x6,y6⟩:=qk2 d2
       go_wp2_with(first|((with_reducible refine gate_builtin (b:= .append) (xs:=#[.tmp 58,.tmp 61]) rfl ?_);(try(refine gate_guard (by rfl) ?_;dsimp only));at_builtin;refine Kd.Q_append (Kd.slice 3 (Kd.int .i64)) (w0:=w) w.heap.size rfl (.tmp 58) (.tmp 61) 23 22 (.slice none 0 0) 24 rfl Tryz.underlying23 info22 rfl kd_ ko_ (.slice J2 L0.length K2) L0 K0 [.slice s2 K0.length t2] (fun k_=>some k_≠(Q4:Value).ownBlock) (fun k_=>((fun k_=>some k_≠(Q4:Value).ownBlock)) k_∧some k_≠(.slice J2 L0.length K2:Value).ownBlock) rfl rfl ?aP (fun _ hk=>hk) ?aF ?aO ?aB ?aS ?aL ?_;(case aP=>exact Kd.M_row (Kd.R_mono (Kd.R_apart' (P3.out) (Kd.Q_typed Q3.out) kd_) (fun k_ hk=>⟨hk.1,hk.2⟩)));(case aB=>exact(bl));(case aF=>exact(fun k_ hk=>Kd.fresh' (Kd.R_lt (kR t5)) k_ hk));(case aO=>exact(by(with_reducible repeat(first|apply Kd.Q_alloc|apply Kd.Q_drewN|apply Kd.Q_drew));exact Kd.Q_mono Q3.out (fun _ hk=>hk.1)));(case aS=>exact(below_size (bl)));(case aL=>have:=W5.out;omega);intro A6 B6 ho hb hg hat;rw[←Y5.out]at ho;replace t5:=qa (Kd.R_over' (kR t5) (Kd.Q_typed (kQ Q3)) kd_ hg);replace R0:=qa (blk_grown (g:=P0) (o:= .cells #[.slice a0 c0.length b0,.slice d0 g0.length e0] 27 (0,0)) (bk) hg (Kd.Q_ne Q3.out R0.out kd_));replace Y0:=qa (blk_grown (g:=W0) (o:= .cells #[.int .i64 l0,.int .i64 n0,.int .i64 p0] 55 (0,0)) (bk) hg (Kd.Q_ne Q3.out Y0.out kd_));replace l1:=qa (blk_grown (g:=e1) (o:= .cells #[.slice none 0 0,.slice none 0 0] 27 (0,0)) (bk) hg (Kd.Q_ne Q3.out l1.out kd_));replace d2:=qa (blk_grown (g:=b2) (o:= .cells #[.slice s2 K0.length t2,.slice J2 L0.length K2] 27 (0,0)) (bk) hg (Kd.Q_ne Q3.out d2.out kd_));replace HB:=qa (hb);have C6:=qa (ho);clear Q3 P3;clear ho hb hg hat;obtain⟨D6,E6,G6,_⟩:=Kd.Q_slice C6.out;subst G6;obtain⟨J6,K6,L6,M6⟩:=qk2 d2)|((with_reducible refine gate_store (t:=23) (p:=63) rfl ?_);refine store_event (t:=23) (p:=63) (v:=?vo_w71) (w1:=(B6.setCell ⟨b2,1,none⟩ (.slice D6 X5.length E6))) ?hg ?ho ?hn ?hr ?_;(case ho=>rfl);(case hg=>rfl);(case hn=>rfl);(case hr=>exact gr);intro N6 hw;have n0_:Aside0 (Kd.R (Kd.int .i64) 3 N6 w.heap.size (fun _=>True) Q4 j4):=⟨(by rw[hw];exact(kFR t5 d2 (fun _ hk=>trivial)))⟩;have n1_:Aside0 (Kd.Q (Kd.slice 3 (Kd.int .i64)) 22 N6 w.heap.size (fun k_=>some k_≠(Q4:Value).ownBlock) (.slice D6 X5.length E6) X5):=⟨(by rw[hw];exact(kFQ C6 d2 (fun _ hk=>hk.1)))⟩;have n2_:Aside0 (N6.heap[P0]? =some (.cells #[.slice a0 c0.length b0,.slice d0 g0.length e0] 27 (0,0))):=⟨(by rw[hw];exact(kb R0))⟩;have n3_:Aside0 (N6.heap[W0]? =some (.cells #[.int .i64 l0,.int .i64 n0,.int .i64 p0] 55 (0,0))):=⟨(by rw[hw];exact(kb Y0))⟩;have n4_:Aside0 (N6.heap[e1]? =some (.cells #[.slice none 0 0,.slice none 0 0] 27 (0,0))):=⟨(by rw[hw];exact(kb l1))⟩;have n5_:Aside0 (N6.heap[b2]? =some (.cells #[.slice s2 K0.length t2,.slice D6 X5.length E6] 27 (0,0))):=⟨(by rw[hw];exact(kP d2))⟩;have n6_:Aside0 (Below w.heap.size w N6):=⟨(by rw[hw];exact(bl))⟩;clear hw;clear t5;clear C6;clear R0;clear Y0;clear l1;clear d2;clear HB;have t5:=n0_;have C6:=n1_;have R0:=n2_;have Y0:=n3_;have l1:=n4_;have d2:=n5_;have HB:=n6_;clear n0_ n1_ n2_ n3_ n4_ n5_ n6_;obtain⟨P6,Q6,R6,U6⟩:=qk2 d2;have V6:(1:Int)≤((X5.length:Int):Int):=qo;obtain⟨i073,W6,_,X6,_⟩:=info_parts info22;have Y6:=cut_from (P:=Tryz.prog) 23 22 .i64 Tryz.underlying23 W6 1 X6 D6 X5.length E6 1 ko_ V6;have a7:=Kd.Q_drop (k:=(1:Int).toNat) C6.out ko_;obtain⟨b7,hA73⟩:∃c7,c7=(if E6=(1:Int).toNat then D6 else(D6:Option Addr).map (·.add ((1:Int).toNat *1))):=⟨_,rfl⟩;obtain⟨d7,e7⟩:∃g7,g7=E6-(1:Int).toNat :=⟨_,rfl⟩;have j7:j6.length=X5.length-(1:Int).toNat :=(by rw[l6.out,List.length_drop]);rw[←l6.out]at a7;rw[←j7,←hA73,←e7]at Y6;replace a7:Kd.Q (Kd.slice 3 (Kd.int .i64)) 22 N6 w.heap.size (fun k_=>some k_≠(Q4:Value).ownBlock) (.slice b7 j6.length d7) j6:=(by rw[hA73,e7,j7];exact a7);have HE73:Aside0 ((Value.slice b7 j6.length d7).ownBlock =(.slice D6 X5.length E6:Value).ownBlock):=⟨by rw[hA73];split <;> (cases (D6:Option Addr) <;> rfl)⟩;clear j7 W6 X6 C6 hA73 e7;have l7:=qa a7;clear a7;replace V6:=eq_true V6;obtain⟨n7,p7,rfl⟩:=Kd.R_slice t5.out;have q7:=r1.out;have r7:=q1.out;have s7:=t1.out;have t7:=s1.out;obtain⟨v7,w7,x7,y7⟩:=qk2 l1))
       refine bodyPost_ret (results_ct rfl _ _ e1 27 #[.slice n7 j4.length p7,.slice b7 j6.length d7] (0,0) _ rfl (by(with_reducible repeat(first|refine blk_drewN ?_ _|refine blk_drew ?_|refine blk_alloc ?_ _));refine blk_put (cs:=#[.slice n7 j4.length p7,.slice none 0 0]) ?_ 1 _ rfl;(with_reducible repeat(first|refine blk_drewN ?_ _|refine blk_drew ?_|refine blk_alloc ?_ _));refine blk_put (cs:=#[.slice none 0 0,.slice none 0 0]) ?_ 0 _ rfl;(with_reducible repeat(first|refine blk_drewN ?_ _|refine blk_drew ?_|refine blk_alloc ?_ _));refine blk_far ?_ q2.out _;(with_reducible repeat(first|refine blk_drewN ?_ _|refine blk_drew ?_|refine blk_alloc ?_ _));refine blk_far ?_ q2.out _;(with_reducible repeat(first|refine blk_drewN ?_ _|refine blk_drew ?_|refine blk_alloc ?_ _));exact l1.out) Tryz.underlying27 rfl kr_) rfl ?_;exact⟨_,_,er,kGR t5.out d2 l1 (fun _ hk=>trivial),kGQ l7.out d2 l1 (fun _ hk=>hk.1.1),bl⟩
      ·rw[if_neg a6]at H;have b6:decide (8<(X5.length:Int))=false:=decide_eq_false a6;have c6:decide (8<X5.length)=false:=decide_eq_false ko_;clear a6;simp only[Option.some.injEq,Prod.mk.injEq]at H;obtain⟨rfl,rfl,rfl⟩:=H;have A7:=l2.out;have B7:=j2.out;have C7:=p2.out;have D7:=n2.out;have E7:=r2.out;have G7:=q2.out;obtain⟨J7,K7,L7,M7⟩:=qk2 d2
       go_wp2_with(first|((with_reducible refine gate_builtin (b:= .append) (xs:=#[.tmp 58,.tmp 61]) rfl ?_);(try(refine gate_guard (by rfl) ?_;dsimp only));at_builtin;refine Kd.Q_append (Kd.slice 3 (Kd.int .i64)) (w0:=w) w.heap.size rfl (.tmp 58) (.tmp 61) 23 22 (.slice none 0 0) 24 rfl Tryz.underlying23 info22 rfl kd_ ko_ (.slice J2 L0.length K2) L0 K0 [.slice s2 K0.length t2] (fun k_=>some k_≠(Q4:Value).ownBlock) (fun k_=>((fun k_=>some k_≠(Q4:Value).ownBlock)) k_∧some k_≠(.slice J2 L0.length K2:Value).ownBlock) rfl rfl ?aP (fun _ hk=>hk) ?aF ?aO ?aB ?aS ?aL ?_;(case aP=>exact Kd.M_row (Kd.R_mono (Kd.R_apart' (P3.out) (Kd.Q_typed Q3.out) kd_) (fun k_ hk=>⟨hk.1,hk.2⟩)));(case aB=>exact(bl));(case aF=>exact(fun k_ hk=>Kd.fresh' (Kd.R_lt (kR t5)) k_ hk));(case aO=>exact(by(with_reducible repeat(first|apply Kd.Q_alloc|apply Kd.Q_drewN|apply Kd.Q_drew));exact Kd.Q_mono Q3.out (fun _ hk=>hk.1)));(case aS=>exact(below_size (bl)));(case aL=>have:=W5.out;omega);intro A6 N7 ho hb hg hat;rw[←Y5.out]at ho;replace t5:=qa (Kd.R_over' (kR t5) (Kd.Q_typed (kQ Q3)) kd_ hg);replace R0:=qa (blk_grown (g:=P0) (o:= .cells #[.slice a0 c0.length b0,.slice d0 g0.length e0] 27 (0,0)) (bk) hg (Kd.Q_ne Q3.out R0.out kd_));replace Y0:=qa (blk_grown (g:=W0) (o:= .cells #[.int .i64 l0,.int .i64 n0,.int .i64 p0] 55 (0,0)) (bk) hg (Kd.Q_ne Q3.out Y0.out kd_));replace l1:=qa (blk_grown (g:=e1) (o:= .cells #[.slice none 0 0,.slice none 0 0] 27 (0,0)) (bk) hg (Kd.Q_ne Q3.out l1.out kd_));replace d2:=qa (blk_grown (g:=b2) (o:= .cells #[.slice s2 K0.length t2,.slice J2 L0.length K2] 27 (0,0)) (bk) hg (Kd.Q_ne Q3.out d2.out kd_));replace HB:=qa (hb);have C6:=qa (ho);clear Q3 P3;clear ho hb hg hat;obtain⟨P7,Q7,R7,_⟩:=Kd.Q_slice C6.out;subst R7;obtain⟨U7,V7,W7,X7⟩:=qk2 d2;obtain⟨Y7,a8,rfl⟩:=Kd.R_slice t5.out;have b8:=r1.out;have c8:=q1.out;have d8:=t1.out;have e8:=s1.out;obtain⟨g8,j8,l8,n8⟩:=qk2 l1))
       refine bodyPost_ret (results_ct rfl _ _ e1 27 #[.slice Y7 j4.length a8,.slice P7 X5.length Q7] (0,0) _ rfl (by(with_reducible repeat(first|refine blk_drewN ?_ _|refine blk_drew ?_|refine blk_alloc ?_ _));refine blk_put (cs:=#[.slice Y7 j4.length a8,.slice none 0 0]) ?_ 1 _ rfl;(with_reducible repeat(first|refine blk_drewN ?_ _|refine blk_drew ?_|refine blk_alloc ?_ _));refine blk_put (cs:=#[.slice none 0 0,.slice none 0 0]) ?_ 0 _ rfl;(with_reducible repeat(first|refine blk_drewN ?_ _|refine blk_drew ?_|refine blk_alloc ?_ _));refine blk_far ?_ q2.out _;(with_reducible repeat(first|refine blk_drewN ?_ _|refine blk_drew ?_|refine blk_alloc ?_ _));refine blk_far ?_ q2.out _;(with_reducible repeat(first|refine blk_drewN ?_ _|refine blk_drew ?_|refine blk_alloc ?_ _));exact l1.out) Tryz.underlying27 rfl kr_) rfl ?_;exact⟨_,_,er,kGR t5.out d2 l1 (fun _ hk=>trivial),kGQ C6.out d2 l1 (fun _ hk=>hk.1.1),bl⟩
 ·simp only[Option.some.injEq,Prod.mk.injEq]at H;obtain⟨rfl,rfl,rfl⟩:=H
  go_enter Tryz.func42,Tryz.ntmps42
  go_wp2_with(first|((with_reducible refine gate_dst (N:=2) rfl ?_);(try(refine gate_guard (by rfl) ?_;dsimp only));refine bx 2 #[.slice a0 c0.length b0,.slice d0 g0.length e0] 27 ?_;intro P0 hg p8 hbox hb;have R0:=qa (hbox);have U0:=gw hg;have V0:=gw hg;replace HB:=bs hb;clear hb hbox hg)|((with_reducible refine gate_dst (N:=3) rfl ?_);(try(refine gate_guard (by rfl) ?_;dsimp only));refine bx 3 #[.int .i64 l0,.int .i64 n0,.int .i64 p0] 55 ?_;intro W0 hg q8 hbox hb;have Y0:=qa (hbox);have a1:=gw hg;have b1:=gw hg;replace HB:=bs hb;have c1:=qnl hg R0;have d1:=qng hg R0;replace R0:=qbb R0 hb;clear hb hbox hg)|((with_reducible refine gate_dst (N:=4) rfl ?_);(try(refine gate_guard (by rfl) ?_;dsimp only));refine bx 4 #[.slice none 0 0,.slice none 0 0] 27 ?_;intro e1 hg r8 hbox hb;have l1:=qa (hbox);have n1:=gw hg;have p1:=gw hg;replace HB:=bs hb;have q1:=qnl hg R0;have r1:=qng hg R0;replace R0:=qbb R0 hb;have s1:=qnl hg Y0;have t1:=qng hg Y0;replace Y0:=qbb Y0 hb;clear hb hbox hg;have s8:=c1.out;have t8:=d1.out;have v8:=q1.out;have w8:=r1.out;obtain⟨x8,y8,A8,B8⟩:=qk2 R0)|(refine gb 11 Tryz.func20 (spec_DeskOk.calls k _ _ c0 _ _ g0 false _ (cx (Kd.C_below B0.out HB.out)) C0.out (cx (Kd.C_below D0.out HB.out)) E0.out J0.out) fun C8 hb=>?_;replace R0:=qbb R0 hb;replace Y0:=qbb Y0 hb;replace l1:=qbb l1 hb;replace HB:=bs hb;have D8:=t1.out;have E8:=s1.out;obtain⟨G8,J8,K8,L8⟩:=qk2 l1))
  refine bodyPost_ret (results_ct rfl _ _ e1 27 #[.slice none 0 0,.slice none 0 0] (0,0) _ rfl (kP l1) Tryz.underlying27 rfl kr_) rfl ?_;exact⟨_,_,er,z2_,Kd.Q_of_R ((Kd.S_R z14_)),bl⟩

def spec_l12Row.l0:Nat→List Int→ByteArray→Int→Option (ByteArray)
 |0,_,_,_=>none
 |k+1,a0,b0,c0=>if c0<(a0.length:Int)then(if c0>0 then(if b0.size+1≤9223372036854775807 then(if 0≤c0 then((spec_l1Number.f k (rd a0 c0)).bind fun d0=>(if(b0++(⟨#[44]⟩:ByteArray)).size +d0.size≤9223372036854775807 then(spec_l12Row.l0 k a0 ((b0++(⟨#[44]⟩:ByteArray))++d0) (wrap64 (c0+1)))else(none)))else(none))else(none))else(if 0≤c0 then((spec_l1Number.f k (rd a0 c0)).bind fun e0=>(if b0.size+e0.size≤9223372036854775807 then(spec_l12Row.l0 k a0 (b0++e0) (wrap64 (c0+1)))else(none)))else(none)))else(if(a0.length:Int)=0 then(some (⟨#[110,111,110,101]⟩:ByteArray))else(some b0))
def spec_l12Row.f (k:Nat) (a0:List Int):Option (ByteArray):=spec_l12Row.l0 k a0 (⟨#[]⟩:ByteArray) 0
theorem spec_l12Row.calls (k:Nat) (a0:Option Addr) (b0:Nat) (c0:List Int) (r:ByteArray) (w:World) (d0:Kd.C (Kd.int .i64) w a0 c0.length c0) (e0:c0.length≤b0) (h:spec_l12Row.f k c0=some r):
  Calls Tryz.prog 43 #[.slice a0 c0.length b0] w fun e w'=>e= .returned (.string r)∧Below w.heap.size w w':=by
 have g0:=qa d0;have j0:=qa e0;clear d0 e0;have HB:=qa (Below.refl w.heap.size w);have H:=h;unfold spec_l12Row.f at H;clear h;have H':=qa H;clear H
 go_enter Tryz.func43,Tryz.ntmps43
 go_wp2
 go_loopg [3,4] k (fun kq n0 p0 w'=>∃(q0:ByteArray) (r0:Int),n0= .string q0∧p0= .int .i64 r0∧Aside0 (spec_l12Row.l0 kq c0 q0 r0=some r)∧Aside0 (kq≤k)∧Aside0 (Below w.heap.size w w'))
 case atStart=>exact⟨((⟨#[]⟩:ByteArray)),(0),(sd),(sd),H',⟨Nat.le_refl _⟩,⟨bl⟩⟩
 case round=>
  clear H';obtain⟨q0,r0,rfl,rfl,HA,HK1,HB⟩:=hrel;obtain⟨k1,rfl,H⟩:=kz gk HA;clear HA;simp only[spec_l12Row.l0]at H;replace H:=qe H;obtain⟨s0,H⟩|⟨s0,H⟩:=H
  ·replace H:=qg H;obtain⟨t0,H⟩|⟨t0,H⟩:=H
   ·replace H:=qN H;obtain⟨v0,w0,x0,y0,H⟩:=H;replace H:=qd H;obtain⟨A0,H⟩:=H;replace H:=qb H;obtain⟨B0,C0,H⟩:=H;replace H:=qN H;obtain⟨D0,E0,G0,J0,H⟩:=H
    try(have c7bq:=J0;simp only[ByteArray.size_append,show(⟨#[44]⟩:ByteArray).size =1 from rfl]at c7bq)
    have H':=qa H;clear H;obtain⟨K0,⟨⟩,L0,M0,N0⟩:=ai g0.out r0;(try replace L0:=(HB.out.cell (World.block_lt_of_cell? w _ L0)).trans L0)
    go_wp2_with(first|(refine gb 20 Tryz.func82 (spec_l1Number.calls k1 (rd c0 r0) B0 _ C0.out) fun P0 hb=>?_;replace HB:=bs hb))
    go_roundg k1
    case measure=>have:=HK1.out;omega
    case rel=>exact⟨((q0++(⟨#[44]⟩:ByteArray))++B0),(wrap64 (r0+1)),(sd),(sd),H',⟨by have:=HK1.out;omega⟩,⟨bl⟩⟩
   ·replace H:=qd H;obtain⟨Q0,H⟩:=H;replace H:=qb H;obtain⟨R0,U0,H⟩:=H;replace H:=qN H;obtain⟨V0,W0,X0,Y0,H⟩:=H;have H':=qa H;clear H;obtain⟨a1,⟨⟩,b1,c1,d1⟩:=ai g0.out r0;(try replace b1:=(HB.out.cell (World.block_lt_of_cell? w _ b1)).trans b1)
    go_wp2_with(first|(refine gb 20 Tryz.func82 (spec_l1Number.calls k1 (rd c0 r0) R0 _ U0.out) fun e1 hb=>?_;replace HB:=bs hb))
    go_roundg k1
    case measure=>have:=HK1.out;omega
    case rel=>exact⟨(q0++R0),(wrap64 (r0+1)),(sd),(sd),H',⟨by have:=HK1.out;omega⟩,⟨bl⟩⟩
  ·replace H:=qq H;obtain⟨g1,j1,H⟩|⟨l1,g1,j1,H⟩:=H
   ·obtain rfl:=sj H;go_wp2;go_ret;exact⟨er,bl⟩
   ·(have n1:¬(c0=[]):=fun h_=>l1 (by rw[h_];rfl));obtain rfl:=sj H;go_wp2;go_ret;exact⟨er,bl⟩

def spec_l12Yes.f (a0:Bool):Option (ByteArray):=if a0=true then(some (⟨#[121,101,115]⟩:ByteArray))else(some (⟨#[110,111]⟩:ByteArray))
theorem spec_l12Yes.calls (a0:Bool) (r:ByteArray) (w:World) (h:spec_l12Yes.f a0=some r):
  Calls Tryz.prog 44 #[.bool a0] w fun e w'=>e= .returned (.string r)∧Drawn0 w w':=by
 have H:=h;unfold spec_l12Yes.f at H;clear h;replace H:=qc H;obtain⟨rfl,H⟩|⟨rfl,H⟩:=H
 ·obtain rfl:=sj H
  go_enter Tryz.func44,Tryz.ntmps44
  go_wp2;go_ret;exact⟨sd,dr⟩
 ·obtain rfl:=sj H
  go_enter Tryz.func44,Tryz.ntmps44
  go_wp2;go_ret;exact⟨sd,dr⟩
end Go.Proofs.YtdmlkjjlgkdnlaaGreatDoor.PFnExactDeskSay
