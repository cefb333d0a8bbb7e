import Derived.Test.YtdmlkjjlgkdnlaaGreatDoorPFnExactDeskLinex28
namespace Go.Proofs.YtdmlkjjlgkdnlaaGreatDoor.PFnExactDeskLine
open Go.RowKit Go.Proofs.YtdmlkjjlgkdnlaaGreatDoorW.PrintWords Go.Proofs.YtdmlkjjlgkdnlaaGreatDoorW.PrintLast Go.Proofs.YtdmlkjjlgkdnlaaGreatDoorW.PrintMore
attribute [local go_sem] max2_int min2_int max_two min_two max_three min_three max_four min_four
set_option linter.unusedVariables false
set_option linter.unusedSimpArgs false
def cmp_isNaN_int.f (a0:Int):Option (Bool):=some (a0 != a0)
set_option maxHeartbeats 8000000 in
set_option maxRecDepth 100000 in
theorem cmp_isNaN_int.calls (a0:Int) (r:Bool) (w:World) (h:cmp_isNaN_int.f a0=some r):
  Calls Tryz.prog 169 #[.int .i64 a0] w fun e w'=>e= .returned (.bool r)∧Drawn0 w w':=by
 have H:=h;unfold cmp_isNaN_int.f at H;clear h;obtain rfl:=sj H
 go_enter Tryz.func169,Tryz.ntmps169
 go_wp2;go_ret;exact⟨sd,dr⟩

def cmp_Compare_int.f (a0:Int) (b0:Int):Option (Int):=(cmp_isNaN_int.f a0).bind fun c0=>((cmp_isNaN_int.f b0).bind fun d0=>(if c0=true then(if d0=true then(some 0)else(some (-1)))else(if d0=true then(some 1)else(if a0<b0 then(some (-1))else(if a0>b0 then(some 1)else(some 0))))))
set_option maxHeartbeats 8000000 in
set_option maxRecDepth 100000 in
theorem cmp_Compare_int.calls (a0:Int) (b0:Int) (r:Int) (w:World) (h:cmp_Compare_int.f a0 b0=some r):
  Calls Tryz.prog 147 #[.int .i64 a0,.int .i64 b0] w fun e w'=>e= .returned (.int .i64 r)∧Drawn0 w w':=by
 have H:=h;unfold cmp_Compare_int.f at H;clear h;replace H:=qb H;obtain⟨c0,d0,H⟩:=H;replace H:=qb H;obtain⟨e0,g0,H⟩:=H;replace H:=qc H;obtain⟨rfl,H⟩|⟨rfl,H⟩:=H
 ·replace H:=qc H;obtain⟨rfl,H⟩|⟨rfl,H⟩:=H
  ·obtain rfl:=sj H
   go_enter Tryz.func147,Tryz.ntmps147
   go_wp2_with(first|(refine gd 8 Tryz.func169 (cmp_isNaN_int.calls a0 true _ d0.out) fun nd=>?_)|(refine gd 10 Tryz.func169 (cmp_isNaN_int.calls b0 true _ g0.out) fun nd=>?_))
   go_ret;exact⟨sd,dr⟩
  ·obtain rfl:=sj H
   go_enter Tryz.func147,Tryz.ntmps147
   go_wp2_with(first|(refine gd 8 Tryz.func169 (cmp_isNaN_int.calls a0 true _ d0.out) fun nd=>?_)|(refine gd 10 Tryz.func169 (cmp_isNaN_int.calls b0 false _ g0.out) fun nd=>?_))
   go_ret;exact⟨sd,dr⟩
 ·replace H:=qc H;obtain⟨rfl,H⟩|⟨rfl,H⟩:=H
  ·obtain rfl:=sj H
   go_enter Tryz.func147,Tryz.ntmps147
   go_wp2_with(first|(refine gd 8 Tryz.func169 (cmp_isNaN_int.calls a0 false _ d0.out) fun nd=>?_)|(refine gd 10 Tryz.func169 (cmp_isNaN_int.calls b0 true _ g0.out) fun nd=>?_))
   go_ret;exact⟨sd,dr⟩
  ·replace H:=qe H;obtain⟨j0,H⟩|⟨j0,H⟩:=H
   ·obtain rfl:=sj H
    go_enter Tryz.func147,Tryz.ntmps147
    go_wp2_with(first|(refine gd 8 Tryz.func169 (cmp_isNaN_int.calls a0 false _ d0.out) fun nd=>?_)|(refine gd 10 Tryz.func169 (cmp_isNaN_int.calls b0 false _ g0.out) fun nd=>?_))
    go_ret;exact⟨sd,dr⟩
   ·replace H:=qg H;obtain⟨l0,H⟩|⟨l0,H⟩:=H
    ·obtain rfl:=sj H
     go_enter Tryz.func147,Tryz.ntmps147
     go_wp2_with(first|(refine gd 8 Tryz.func169 (cmp_isNaN_int.calls a0 false _ d0.out) fun nd=>?_)|(refine gd 10 Tryz.func169 (cmp_isNaN_int.calls b0 false _ g0.out) fun nd=>?_))
     go_ret;exact⟨sd,dr⟩
    ·obtain rfl:=sj H
     go_enter Tryz.func147,Tryz.ntmps147
     go_wp2_with(first|(refine gd 8 Tryz.func169 (cmp_isNaN_int.calls a0 false _ d0.out) fun nd=>?_)|(refine gd 10 Tryz.func169 (cmp_isNaN_int.calls b0 false _ g0.out) fun nd=>?_))
     go_ret;exact⟨sd,dr⟩

def impl_KindOf.f (k:Nat) (a0:Int):Option (Int):=(impl_numberOk.f a0).bind fun b0=>(if b0=true then((impl_ProperSum.f k a0).bind fun c0=>((cmp_Compare_int.f c0 a0).bind fun d0=>(some d0)))else(some (-2)))
set_option maxHeartbeats 8000000 in
set_option maxRecDepth 100000 in
theorem impl_KindOf.calls (k:Nat) (a0:Int) (r:Int) (w:World) (h:impl_KindOf.f k a0=some r):
  Calls Tryz.prog 112 #[.int .i64 a0] w fun e w'=>e= .returned (.int .i64 r)∧Below w.heap.size w w':=by
 have HB:=qa (Below.refl w.heap.size w);have H:=h;unfold impl_KindOf.f at H;clear h;replace H:=qb H;obtain⟨b0,c0,H⟩:=H;replace H:=qc H;obtain⟨rfl,H⟩|⟨rfl,H⟩:=H
 ·replace H:=qb H;obtain⟨d0,e0,H⟩:=H;replace H:=qb H;obtain⟨g0,j0,H⟩:=H;obtain rfl:=sj H
  go_enter Tryz.func112,Tryz.ntmps112
  go_wp2_with(first|(refine gd 4 Tryz.func107 (impl_numberOk.calls a0 true _ c0.out) fun nd=>?_)|(refine gb 7 Tryz.func146 (impl_ProperSum.calls k a0 d0 _ e0.out) fun l0 hb=>?_;replace HB:=bs hb)|(refine gd 9 Tryz.func147 (cmp_Compare_int.calls d0 a0 g0 _ j0.out) fun nd=>?_))
  go_ret;exact⟨er,bl⟩
 ·obtain rfl:=sj H
  go_enter Tryz.func112,Tryz.ntmps112
  go_wp2_with(first|(refine gd 4 Tryz.func107 (impl_numberOk.calls a0 false _ c0.out) fun nd=>?_))
  go_ret;exact⟨er,bl⟩

def impl_leavesSign.f (a0:Int):Option (Int):=if(Int.tmod a0 4)=1 then(some 1)else(if(Int.tmod a0 4)=3 then(some (-1))else(some 0))
set_option maxHeartbeats 8000000 in
set_option maxRecDepth 100000 in
theorem impl_leavesSign.calls (a0:Int) (r:Int) (w:World) (h:impl_leavesSign.f a0=some r):
  Calls Tryz.prog 148 #[.int .i64 a0] w fun e w'=>e= .returned (.int .i64 r)∧Drawn0 w w':=by
 have H:=h;unfold impl_leavesSign.f at H;clear h;replace H:=qq H;obtain⟨b0,c0,H⟩|⟨d0,b0,c0,H⟩:=H
 ·obtain rfl:=sj H
  go_enter Tryz.func148,Tryz.ntmps148
  go_wp2;go_ret;exact⟨sd,dr⟩
 ·replace H:=qq H;obtain⟨e0,g0,H⟩|⟨j0,e0,g0,H⟩:=H
  ·obtain rfl:=sj H
   go_enter Tryz.func148,Tryz.ntmps148
   go_wp2;go_ret;exact⟨sd,dr⟩
  ·obtain rfl:=sj H
   go_enter Tryz.func148,Tryz.ntmps148
   go_wp2;go_ret;exact⟨sd,dr⟩

def impl_ByDivisors.l0:Nat→Int→List Int→Int→Int→Option (Int)
 |0,_,_,_,_=>none
 |k+1,a0,b0,c0,d0=>if d0<c0 then(if 0≤d0 then(if d0<(b0.length:Int)then((impl_leavesSign.f (rd b0 d0)).bind fun e0=>(impl_ByDivisors.l0 k (wrap64 (a0+(wrap64 (4*e0)))) b0 c0 (wrap64 (d0+1))))else(none))else(none))else(some a0)
def impl_ByDivisors.f (k:Nat) (a0:Int):Option (Int):=(impl_numberOk.f a0).bind fun b0=>(if b0=true then((impl_divisors.f k a0).bind fun c0=>(impl_ByDivisors.l0 k 0 c0 (c0.length:Int) 0))else(some (-1)))
set_option maxHeartbeats 8000000 in
set_option maxRecDepth 100000 in
theorem impl_ByDivisors.calls (k:Nat) (a0:Int) (r:Int) (w:World) (h:impl_ByDivisors.f k a0=some r):
  Calls Tryz.prog 114 #[.int .i64 a0] w fun e w'=>e= .returned (.int .i64 r)∧Below w.heap.size w w':=by
 have HB:=qa (Below.refl w.heap.size w);have H:=h;unfold impl_ByDivisors.f at H;clear h;replace H:=qb H;obtain⟨b0,c0,H⟩:=H;replace H:=qc H;obtain⟨rfl,H⟩|⟨rfl,H⟩:=H
 ·replace H:=qb H;obtain⟨d0,e0,H⟩:=H;have H':=qa H;clear H
  go_enter Tryz.func114,Tryz.ntmps114
  go_wp2_with(first|(refine gd 7 Tryz.func107 (impl_numberOk.calls a0 true _ c0.out) fun nd=>?_)|(refine ge_ 10 Tryz.func109 (impl_divisors.calls k a0 d0 _ e0.out) fun g0 j0 n0 hb=>?_;have p0:=qa (Kd.R_lower n0 (below_size (bl)));replace HB:=bs hb;obtain⟨q0,r0,rfl⟩:=Kd.R_slice p0.out))
  go_loopg [3,12] k (fun kq s0 t0 w'=>∃(v0:Int) (w0:Int),s0= .int .i64 v0∧t0= .int .i64 w0∧Aside0 (impl_ByDivisors.l0 kq v0 d0 (d0.length:Int) w0=some r)∧Aside0 (kq≤k)∧Aside0 (Kd.R (Kd.int .i64) 3 w' w.heap.size (fun _=>True) (.slice q0 d0.length r0) d0)∧Aside0 (Below w.heap.size w w'))
  case atStart=>exact⟨(0),(0),(sd),(sd),H',⟨Nat.le_refl _⟩,⟨kR p0⟩,⟨bl⟩⟩
  case round=>
   clear H';obtain⟨v0,w0,rfl,rfl,HA,HK1,x0,HB⟩:=hrel;obtain⟨k1,rfl,H⟩:=kz gk HA;clear HA;simp only[impl_ByDivisors.l0]at H;replace H:=qe H;obtain⟨y0,H⟩|⟨y0,H⟩:=H
   ·replace H:=qd H;obtain⟨A0,H⟩:=H;replace H:=qd H;obtain⟨B0,H⟩:=H;replace H:=qb H;obtain⟨C0,D0,H⟩:=H;have H':=qa H;clear H;obtain⟨E0,⟨⟩,G0,J0,K0⟩:=ai (Kd.R_reads' x0.out).2.2 w0
    go_wp2_with(first|(refine gd 18 Tryz.func148 (impl_leavesSign.calls (rd d0 w0) C0 _ D0.out) fun nd=>?_))
    go_roundg k1
    case measure=>have:=HK1.out;omega
    case rel=>exact⟨(wrap64 (v0+(wrap64 (4*C0)))),(wrap64 (w0+1)),(sd),(sd),H',⟨by have:=HK1.out;omega⟩,⟨kR x0⟩,⟨bl⟩⟩
   ·obtain rfl:=sj H;go_wp2;go_ret;exact⟨er,bl⟩
 ·obtain rfl:=sj H
  go_enter Tryz.func114,Tryz.ntmps114
  go_wp2_with(first|(refine gd 7 Tryz.func107 (impl_numberOk.calls a0 false _ c0.out) fun nd=>?_))
  go_ret;exact⟨er,bl⟩
mutual
def impl_answer.j0:Nat→List Int→ByteArray→Int→Bool→Option (ByteArray)
 |0,_,_,_,_=>none
 |k+1,a0,b0,c0,d0=>if d0=true then(some (⟨#[119,104,97,116]⟩:ByteArray))else((impl_numberOk.f c0).bind fun e0=>(if e0=true then(if b0.toList=([97,116]:List UInt8)then(impl_answer.j1 k a0 b0 c0 (decide (c0>24)))else(impl_answer.j1 k a0 b0 c0 false))else(impl_answer.j1 k a0 b0 c0 true)))
def impl_answer.j1:Nat→List Int→ByteArray→Int→Bool→Option (ByteArray)
 |0,_,_,_,_=>none
 |k+1,a0,b0,c0,g0=>if g0=true then(some (⟨#[110,111,110,101]⟩:ByteArray))else(if b0.toList=([97,116]:List UInt8)then(if 0≤(wrap64 (c0-1))then(if(wrap64 (c0-1))<(a0.length:Int)then((strconv_Itoa.f (rd a0 (wrap64 (c0-1)))).bind fun l0=>(some l0))else(none))else(none))else(if b0.toList=([112,114,105,109,101,115]:List UInt8)then((impl_FactorText.f k c0).bind fun n0=>(some n0))else(if b0.toList=([100,105,118,105,115,111,114,115]:List UInt8)then((impl_divisors.f k c0).bind fun p0=>((impl_rowText.f k p0).bind fun q0=>(some q0)))else(if b0.toList=([119,97,121]:List UInt8)then((impl_WayFrom.f k c0).bind fun r0=>((impl_rowText.f k r0).bind fun s0=>(some s0)))else(if b0.toList=([115,117,109]:List UInt8)then((impl_AllSum.f k c0).bind fun t0=>((strconv_Itoa.f t0).bind fun v0=>(some v0)))else(if b0.toList=([107,105,110,100]:List UInt8)then((some (([(⟨#[112,111,111,114]⟩:ByteArray),(⟨#[112,101,114,102,101,99,116]⟩:ByteArray),(⟨#[114,105,99,104]⟩:ByteArray)]:List ByteArray):List ByteArray)).bind fun w0=>((impl_KindOf.f k c0).bind fun x0=>(if 0≤(wrap64 (x0+1))then(if(wrap64 (x0+1))<(w0.length:Int)then(some (rdOf ByteArray.empty w0 (wrap64 (x0+1))))else(none))else(none))))else(if b0.toList=([97,112,97,114,116]:List UInt8)then((impl_phi.f k c0).bind fun y0=>((strconv_Itoa.f y0).bind fun A0=>(some A0)))else((impl_ByDivisors.f k c0).bind fun B0=>((strconv_Itoa.f B0).bind fun C0=>(some C0))))))))))
end

def impl_answer.f (k:Nat) (a0:List Int) (b0:ByteArray):Option (ByteArray):=if b0.toList=([102,105,114,115,116]:List UInt8)then(if 8≤(a0.length:Int)then((impl_rowText.f k (a0.take 8)).bind fun c0=>(some c0))else(none))else(if b0.toList=([109,117,108,116,105,112,108,105,99,97,116,105,118,101]:List UInt8)then((impl_MultiplicativeOk.f k a0).bind fun d0=>((impl_yes.f d0).bind fun e0=>(some e0)))else(if b0.toList=([102,117,108,108]:List UInt8)then((impl_FullyOk.f k a0).bind fun g0=>((impl_yes.f g0).bind fun l0=>(some l0)))else((strings_Cut.f b0 (⟨#[32]⟩:ByteArray)).bind fun n0=>((strconv_Atoi.f n0.2.1).bind fun p0=>((slices_Contains_string_string.f k (([(⟨#[97,116]⟩:ByteArray),(⟨#[112,114,105,109,101,115]⟩:ByteArray),(⟨#[100,105,118,105,115,111,114,115]⟩:ByteArray),(⟨#[119,97,121]⟩:ByteArray),(⟨#[115,117,109]⟩:ByteArray),(⟨#[107,105,110,100]⟩:ByteArray),(⟨#[97,112,97,114,116]⟩:ByteArray),(⟨#[115,113,117,97,114,101,115]⟩:ByteArray)]:List ByteArray)) n0.1).bind fun q0=>(if q0=true then(if p0.2.isNone=true then(if p0.1<0 then(impl_answer.j0 k a0 n0.1 p0.1 true)else(if(n0.2.1.size:Int)>5 then(impl_answer.j0 k a0 n0.1 p0.1 true)else((strconv_Itoa.f p0.1).bind fun r0=>(impl_answer.j0 k a0 n0.1 p0.1 (r0.toList != n0.2.1.toList)))))else(impl_answer.j0 k a0 n0.1 p0.1 true))else(impl_answer.j0 k a0 n0.1 p0.1 true)))))))
set_option maxHeartbeats 8000000 in
set_option maxRecDepth 100000 in
theorem impl_answer.calls (k:Nat) (a0:Option Addr) (b0:Nat) (c0:List Int) (d0:ByteArray) (r:ByteArray) (w:World) (e0:Kd.C (Kd.int .i64) w a0 c0.length c0) (g0:c0.length≤b0) (h:impl_answer.f k c0 d0=some r) (hG_:GL w):
  Calls Tryz.prog 55 #[.slice a0 c0.length b0,.string d0] w fun e w'=>e= .returned (.string r)∧Below w.heap.size w w':=by
 have l0:=Tryz.underlying98;have n0:=qa e0;have p0:=qa g0;clear e0 g0;have HB:=qa (Below.refl w.heap.size w);have H:=h;unfold impl_answer.f at H;clear h;replace H:=qq H;obtain⟨q0,r0,H⟩|⟨s0,q0,r0,H⟩:=H
 ·replace H:=qn H;obtain⟨t0,H⟩:=H;have v0:=eq_true t0;have w0:decide (8≤(c0.length:Int))=true:=decide_eq_true t0;clear t0;replace H:=qb H;obtain⟨x0,y0,H⟩:=H;obtain rfl:=sj H;obtain⟨i06,A0,_,B0,_⟩:=info_parts info3;obtain⟨C0,hA6,hC6⟩:=print_take_of (P:=Tryz.prog) (Value.int .i64) 0 22 3 .i64 Tryz.underlying22 A0 B0 a0 b0 c0 8 (by omega) (qo) p0.out;have D0:=qa (Kd.C_of_reads (h1:=fun _=>rfl) (hA6 _ (Kd.reads_of_C n0.out)));have E0:=qa hC6;clear hA6 hC6 A0 B0
  go_enter Tryz.func55,Tryz.ntmps55
  go_wp2_with(first|((with_reducible refine gate_callee (f:=102) rfl ?_);refine goesL_ (some 15) rfl rfl Tryz.func102 (by kernel_rfl) rfl #[.slice a0 (c0.take 8).length b0] rfl z48_ ?_;(with_reducible refine(impl_rowText.calls k _ _ (c0.take 8) x0 _ ?G0 ?J0 y0.out ?K0).mono ?_);(case G0=>exact cx D0.out);(case J0=>exact E0.out);(case K0=>exact GL_below hG_ (bl));rintro e L0 ⟨rfl,hb⟩;refine⟨_,rfl,?_⟩;replace HB:=bs hb))
  go_ret;exact⟨er,bl⟩
 ·replace H:=qq H;obtain⟨M0,N0,H⟩|⟨P0,M0,N0,H⟩:=H
  ·replace H:=qb H;obtain⟨Q0,R0,H⟩:=H;replace H:=qb H;obtain⟨U0,V0,H⟩:=H;obtain rfl:=sj H
   go_enter Tryz.func55,Tryz.ntmps55
   go_wp2_with(first|(refine gd 19 Tryz.func104 (impl_MultiplicativeOk.calls k _ _ c0 Q0 _ (cx n0.out) p0.out R0.out) fun nd=>?_)|(refine gd 20 Tryz.func103 (impl_yes.calls Q0 U0 _ V0.out) fun nd=>?_))
   go_ret;exact⟨er,bl⟩
  ·replace H:=qq H;obtain⟨W0,X0,H⟩|⟨Y0,W0,X0,H⟩:=H
   ·replace H:=qb H;obtain⟨a1,b1,H⟩:=H;replace H:=qb H;obtain⟨c1,d1,H⟩:=H;obtain rfl:=sj H
    go_enter Tryz.func55,Tryz.ntmps55
    go_wp2_with(first|(refine gd 24 Tryz.func105 (impl_FullyOk.calls k _ _ c0 a1 _ (cx n0.out) p0.out b1.out) fun nd=>?_)|(refine gd 25 Tryz.func103 (impl_yes.calls a1 c1 _ d1.out) fun nd=>?_))
    go_ret;exact⟨er,bl⟩
   ·replace H:=qb H;obtain⟨⟨e1,g1,l1⟩,n1,H⟩:=H;(try dsimp only at H);replace H:=qb H;obtain⟨⟨p1,q1⟩,r1,H⟩:=H;(try dsimp only at H);have s1:=qa H;clear H
    go_enter Tryz.func55,Tryz.ntmps55
    go_upto_region 10 with(go_big_may;first|(refine gb 28 Tryz.func75 (strings_Cut.calls d0 (⟨#[32]⟩:ByteArray) e1 g1 l1 _ n1.out (GL_below hG_ (bl))) fun t1 hb=>?_;replace HB:=bs hb)|(refine gol (some 34) Tryz.func94 #[.string g1] ?_;(with_reducible refine(strconv_Atoi.calls g1 p1 q1 _ r1.out ?G0).mono ?_);(case G0=>exact GL_below hG_ (bl));rintro e v1 ⟨ev_,hev_,rfl,hb⟩;refine⟨_,rfl,?_⟩;replace HB:=bs hb;(try simp only[errW_none,errW_some])))
    (try simp only[Act.put,List.setIfInBounds_toArray,List.set_cons_zero,List.set_cons_succ])
    go_cut [59] (fun w1 wc=>∃(kq:Nat) (x1:Bool),w1= .bool x1∧Aside0 (impl_answer.j0 kq c0 e1 p1 x1=some r)∧Aside0 (kq≤k)∧Aside0 (Below w.heap.size w wc))
    case first=>
     have H:=s1.out;clear s1;obtain⟨y1,hy_⟩:∃y_:List ByteArray,y_=(([(⟨#[97,116]⟩:ByteArray),(⟨#[112,114,105,109,101,115]⟩:ByteArray),(⟨#[100,105,118,105,115,111,114,115]⟩:ByteArray),(⟨#[119,97,121]⟩:ByteArray),(⟨#[115,117,109]⟩:ByteArray),(⟨#[107,105,110,100]⟩:ByteArray),(⟨#[97,112,97,114,116]⟩:ByteArray),(⟨#[115,113,117,97,114,101,115]⟩:ByteArray)]:List ByteArray)):=⟨_,rfl⟩;replace H:((slices_Contains_string_string.f k y1 e1).bind fun A1=>(if A1=true then(if q1.isNone=true then(if p1<0 then(impl_answer.j0 k c0 e1 p1 true)else(if(g1.size:Int)>5 then(impl_answer.j0 k c0 e1 p1 true)else((strconv_Itoa.f p1).bind fun B1=>(impl_answer.j0 k c0 e1 p1 (B1.toList != g1.toList)))))else(impl_answer.j0 k c0 e1 p1 true))else(impl_answer.j0 k c0 e1 p1 true)))=some r:=yh;have C1:=qa hy_;clear hy_;replace H:=qb H;obtain⟨A1,D1,H⟩:=H;replace H:=qc H;obtain⟨rfl,H⟩|⟨rfl,H⟩:=H
     ·rcases q1 with _|E1
      ·obtain rfl:=ev0_ hev_;(have H1:(if p1<0 then(impl_answer.j0 k c0 e1 p1 true)else(if(g1.size:Int)>5 then(impl_answer.j0 k c0 e1 p1 true)else((strconv_Itoa.f p1).bind fun B1=>(impl_answer.j0 k c0 e1 p1 (B1.toList != g1.toList)))))=some r:=by rw[if_pos (show(none:Option Int).isNone =true by rfl)]at H;exact H);clear H;have H:=H1;clear H1
       try simp only[errW_none,errW_some]
       replace H:=qe H;obtain⟨G1,H⟩|⟨G1,H⟩:=H
       ·(first|rw[G1]|(simp only[i64_w,i32_w];rw[G1])|skip);have H':=qa H;clear H
        go_wp2_with(first|((with_reducible refine gate_dst (N:=37) rfl ?_);(try(refine gate_guard (by rfl) ?_;dsimp only));refine Kd.R_lit Kd.string _ 9 ?hg (N:=37) ?hd (xs:=([(⟨#[97,116]⟩:ByteArray),(⟨#[112,114,105,109,101,115]⟩:ByteArray),(⟨#[100,105,118,105,115,111,114,115]⟩:ByteArray),(⟨#[119,97,121]⟩:ByteArray),(⟨#[115,117,109]⟩:ByteArray),(⟨#[107,105,110,100]⟩:ByteArray),(⟨#[97,112,97,114,116]⟩:ByteArray),(⟨#[115,113,117,97,114,101,115]⟩:ByteArray)]:List ByteArray)) (inner:=[.string (⟨#[97,116]⟩:ByteArray),.string (⟨#[112,114,105,109,101,115]⟩:ByteArray),.string (⟨#[100,105,118,105,115,111,114,115]⟩:ByteArray),.string (⟨#[119,97,121]⟩:ByteArray),.string (⟨#[115,117,109]⟩:ByteArray),.string (⟨#[107,105,110,100]⟩:ByteArray),.string (⟨#[97,112,97,114,116]⟩:ByteArray),.string (⟨#[115,113,117,97,114,101,115]⟩:ByteArray)]) (ok:=fun _=>True) (okp:=fun _=>True) ?hr ?hp (fun _ hk=>hk) trivial (Below.refl _ _) (Nat.le_refl _) (by simp) ?_;(case hd=>rfl);(case hg=>rfl);(case hr=>exact gr);(case hp=>exact(Reps.one (show Kd.M Kd.string _ _ _ (⟨#[97,116]⟩:ByteArray) [.string (⟨#[97,116]⟩:ByteArray)]from rfl) (Reps.one (show Kd.M Kd.string _ _ _ (⟨#[112,114,105,109,101,115]⟩:ByteArray) [.string (⟨#[112,114,105,109,101,115]⟩:ByteArray)]from rfl) (Reps.one (show Kd.M Kd.string _ _ _ (⟨#[100,105,118,105,115,111,114,115]⟩:ByteArray) [.string (⟨#[100,105,118,105,115,111,114,115]⟩:ByteArray)]from rfl) (Reps.one (show Kd.M Kd.string _ _ _ (⟨#[119,97,121]⟩:ByteArray) [.string (⟨#[119,97,121]⟩:ByteArray)]from rfl) (Reps.one (show Kd.M Kd.string _ _ _ (⟨#[115,117,109]⟩:ByteArray) [.string (⟨#[115,117,109]⟩:ByteArray)]from rfl) (Reps.one (show Kd.M Kd.string _ _ _ (⟨#[107,105,110,100]⟩:ByteArray) [.string (⟨#[107,105,110,100]⟩:ByteArray)]from rfl) (Reps.one (show Kd.M Kd.string _ _ _ (⟨#[97,112,97,114,116]⟩:ByteArray) [.string (⟨#[97,112,97,114,116]⟩:ByteArray)]from rfl) (Reps.one (show Kd.M Kd.string _ _ _ (⟨#[115,113,117,97,114,101,115]⟩:ByteArray) [.string (⟨#[115,113,117,97,114,101,115]⟩:ByteArray)]from rfl) (Reps.none _ _))))))))));intro J1 K1 L1 hb hg_ hnew_;clear hg_ hnew_;(first|rw[←C1.out]at L1|(simp only[Int.reduceToNat]at L1;rw[←C1.out]at L1));have M1:=qa (Kd.R_lower L1 (below_size (bl)));replace HB:=bs hb;clear hb L1;obtain⟨N1,P1,rfl⟩:=Kd.R_slice M1.out)|(refine gd 39 Tryz.func106 (slices_Contains_string_string.calls k _ _ y1 e1 true _ (cx (Kd.R_reads' M1.out).2.2) ((Kd.R_reads' M1.out).2.1) D1.out) fun nd=>?_))
        go_meet
        case rel=>exact⟨_,(true),(sd),H',⟨by first|omega|exact Nat.le_refl _⟩,⟨bl⟩⟩
       ·(first|rw[G1]|(simp only[i64_w,i32_w];rw[G1])|skip)
        by_cases Q1:(g1.size:Int)>5
        ·rw[if_pos Q1]at H;have R1:decide (5<(g1.size:Int))=true:=decide_eq_true Q1;have U1:decide (5<g1.size)=true:=decide_eq_true (by omega);clear Q1;have H':=qa H;clear H
         go_wp2_with(first|((with_reducible refine gate_dst (N:=37) rfl ?_);(try(refine gate_guard (by rfl) ?_;dsimp only));refine Kd.R_lit Kd.string _ 9 ?hg (N:=37) ?hd (xs:=([(⟨#[97,116]⟩:ByteArray),(⟨#[112,114,105,109,101,115]⟩:ByteArray),(⟨#[100,105,118,105,115,111,114,115]⟩:ByteArray),(⟨#[119,97,121]⟩:ByteArray),(⟨#[115,117,109]⟩:ByteArray),(⟨#[107,105,110,100]⟩:ByteArray),(⟨#[97,112,97,114,116]⟩:ByteArray),(⟨#[115,113,117,97,114,101,115]⟩:ByteArray)]:List ByteArray)) (inner:=[.string (⟨#[97,116]⟩:ByteArray),.string (⟨#[112,114,105,109,101,115]⟩:ByteArray),.string (⟨#[100,105,118,105,115,111,114,115]⟩:ByteArray),.string (⟨#[119,97,121]⟩:ByteArray),.string (⟨#[115,117,109]⟩:ByteArray),.string (⟨#[107,105,110,100]⟩:ByteArray),.string (⟨#[97,112,97,114,116]⟩:ByteArray),.string (⟨#[115,113,117,97,114,101,115]⟩:ByteArray)]) (ok:=fun _=>True) (okp:=fun _=>True) ?hr ?hp (fun _ hk=>hk) trivial (Below.refl _ _) (Nat.le_refl _) (by simp) ?_;(case hd=>rfl);(case hg=>rfl);(case hr=>exact gr);(case hp=>exact(Reps.one (show Kd.M Kd.string _ _ _ (⟨#[97,116]⟩:ByteArray) [.string (⟨#[97,116]⟩:ByteArray)]from rfl) (Reps.one (show Kd.M Kd.string _ _ _ (⟨#[112,114,105,109,101,115]⟩:ByteArray) [.string (⟨#[112,114,105,109,101,115]⟩:ByteArray)]from rfl) (Reps.one (show Kd.M Kd.string _ _ _ (⟨#[100,105,118,105,115,111,114,115]⟩:ByteArray) [.string (⟨#[100,105,118,105,115,111,114,115]⟩:ByteArray)]from rfl) (Reps.one (show Kd.M Kd.string _ _ _ (⟨#[119,97,121]⟩:ByteArray) [.string (⟨#[119,97,121]⟩:ByteArray)]from rfl) (Reps.one (show Kd.M Kd.string _ _ _ (⟨#[115,117,109]⟩:ByteArray) [.string (⟨#[115,117,109]⟩:ByteArray)]from rfl) (Reps.one (show Kd.M Kd.string _ _ _ (⟨#[107,105,110,100]⟩:ByteArray) [.string (⟨#[107,105,110,100]⟩:ByteArray)]from rfl) (Reps.one (show Kd.M Kd.string _ _ _ (⟨#[97,112,97,114,116]⟩:ByteArray) [.string (⟨#[97,112,97,114,116]⟩:ByteArray)]from rfl) (Reps.one (show Kd.M Kd.string _ _ _ (⟨#[115,113,117,97,114,101,115]⟩:ByteArray) [.string (⟨#[115,113,117,97,114,101,115]⟩:ByteArray)]from rfl) (Reps.none _ _))))))))));intro J1 V1 W1 hb hg_ hnew_;clear hg_ hnew_;(first|rw[←C1.out]at W1|(simp only[Int.reduceToNat]at W1;rw[←C1.out]at W1));have M1:=qa (Kd.R_lower W1 (below_size (bl)));replace HB:=bs hb;clear hb W1;obtain⟨X1,Y1,rfl⟩:=Kd.R_slice M1.out)|(refine gd 39 Tryz.func106 (slices_Contains_string_string.calls k _ _ y1 e1 true _ (cx (Kd.R_reads' M1.out).2.2) ((Kd.R_reads' M1.out).2.1) D1.out) fun nd=>?_))
         go_meet
         case rel=>exact⟨_,(true),(sd),H',⟨by first|omega|exact Nat.le_refl _⟩,⟨bl⟩⟩
        ·rw[if_neg Q1]at H;have R1:decide (5<(g1.size:Int))=false:=decide_eq_false Q1;have U1:decide (5<g1.size)=false:=decide_eq_false (by omega);clear Q1;replace H:=qb H;obtain⟨B1,a2,H⟩:=H;have H':=qa H;clear H
         go_wp2_with(first|((with_reducible refine gate_dst (N:=37) rfl ?_);(try(refine gate_guard (by rfl) ?_;dsimp only));refine Kd.R_lit Kd.string _ 9 ?hg (N:=37) ?hd (xs:=([(⟨#[97,116]⟩:ByteArray),(⟨#[112,114,105,109,101,115]⟩:ByteArray),(⟨#[100,105,118,105,115,111,114,115]⟩:ByteArray),(⟨#[119,97,121]⟩:ByteArray),(⟨#[115,117,109]⟩:ByteArray),(⟨#[107,105,110,100]⟩:ByteArray),(⟨#[97,112,97,114,116]⟩:ByteArray),(⟨#[115,113,117,97,114,101,115]⟩:ByteArray)]:List ByteArray)) (inner:=[.string (⟨#[97,116]⟩:ByteArray),.string (⟨#[112,114,105,109,101,115]⟩:ByteArray),.string (⟨#[100,105,118,105,115,111,114,115]⟩:ByteArray),.string (⟨#[119,97,121]⟩:ByteArray),.string (⟨#[115,117,109]⟩:ByteArray),.string (⟨#[107,105,110,100]⟩:ByteArray),.string (⟨#[97,112,97,114,116]⟩:ByteArray),.string (⟨#[115,113,117,97,114,101,115]⟩:ByteArray)]) (ok:=fun _=>True) (okp:=fun _=>True) ?hr ?hp (fun _ hk=>hk) trivial (Below.refl _ _) (Nat.le_refl _) (by simp) ?_;(case hd=>rfl);(case hg=>rfl);(case hr=>exact gr);(case hp=>exact(Reps.one (show Kd.M Kd.string _ _ _ (⟨#[97,116]⟩:ByteArray) [.string (⟨#[97,116]⟩:ByteArray)]from rfl) (Reps.one (show Kd.M Kd.string _ _ _ (⟨#[112,114,105,109,101,115]⟩:ByteArray) [.string (⟨#[112,114,105,109,101,115]⟩:ByteArray)]from rfl) (Reps.one (show Kd.M Kd.string _ _ _ (⟨#[100,105,118,105,115,111,114,115]⟩:ByteArray) [.string (⟨#[100,105,118,105,115,111,114,115]⟩:ByteArray)]from rfl) (Reps.one (show Kd.M Kd.string _ _ _ (⟨#[119,97,121]⟩:ByteArray) [.string (⟨#[119,97,121]⟩:ByteArray)]from rfl) (Reps.one (show Kd.M Kd.string _ _ _ (⟨#[115,117,109]⟩:ByteArray) [.string (⟨#[115,117,109]⟩:ByteArray)]from rfl) (Reps.one (show Kd.M Kd.string _ _ _ (⟨#[107,105,110,100]⟩:ByteArray) [.string (⟨#[107,105,110,100]⟩:ByteArray)]from rfl) (Reps.one (show Kd.M Kd.string _ _ _ (⟨#[97,112,97,114,116]⟩:ByteArray) [.string (⟨#[97,112,97,114,116]⟩:ByteArray)]from rfl) (Reps.one (show Kd.M Kd.string _ _ _ (⟨#[115,113,117,97,114,101,115]⟩:ByteArray) [.string (⟨#[115,113,117,97,114,101,115]⟩:ByteArray)]from rfl) (Reps.none _ _))))))))));intro J1 b2 c2 hb hg_ hnew_;clear hg_ hnew_;(first|rw[←C1.out]at c2|(simp only[Int.reduceToNat]at c2;rw[←C1.out]at c2));have M1:=qa (Kd.R_lower c2 (below_size (bl)));replace HB:=bs hb;clear hb c2;obtain⟨d2,e2,rfl⟩:=Kd.R_slice M1.out)|(refine gd 39 Tryz.func106 (slices_Contains_string_string.calls k _ _ y1 e1 true _ (cx (Kd.R_reads' M1.out).2.2) ((Kd.R_reads' M1.out).2.1) D1.out) fun nd=>?_)|(go_at_call 77;(with_reducible refine(strconv_Itoa.calls p1 B1 _ a2.out ?G0).mono ?_);(case G0=>exact GL_below hG_ (bl));rintro e g2 ⟨rfl,hb⟩;replace M1:=qa (Kd.R_below (kR M1) hb);replace HB:=bs hb))
         go_meet
         case rel=>exact⟨_,((B1.toList != g1.toList)),(sd),H',⟨by first|omega|exact Nat.le_refl _⟩,⟨bl⟩⟩
      ·obtain⟨te_,pe_,rfl⟩:=ev1_ hev_;(have H1:(impl_answer.j0 k c0 e1 p1 true)=some r:=by rw[if_neg (show ¬(some E1).isNone =true by simp)]at H;exact H);clear H;have H:=H1;clear H1
       try simp only[errW_none,errW_some]
       have H':=qa H;clear H
       go_wp2_with(first|((with_reducible refine gate_dst (N:=37) rfl ?_);(try(refine gate_guard (by rfl) ?_;dsimp only));refine Kd.R_lit Kd.string _ 9 ?hg (N:=37) ?hd (xs:=([(⟨#[97,116]⟩:ByteArray),(⟨#[112,114,105,109,101,115]⟩:ByteArray),(⟨#[100,105,118,105,115,111,114,115]⟩:ByteArray),(⟨#[119,97,121]⟩:ByteArray),(⟨#[115,117,109]⟩:ByteArray),(⟨#[107,105,110,100]⟩:ByteArray),(⟨#[97,112,97,114,116]⟩:ByteArray),(⟨#[115,113,117,97,114,101,115]⟩:ByteArray)]:List ByteArray)) (inner:=[.string (⟨#[97,116]⟩:ByteArray),.string (⟨#[112,114,105,109,101,115]⟩:ByteArray),.string (⟨#[100,105,118,105,115,111,114,115]⟩:ByteArray),.string (⟨#[119,97,121]⟩:ByteArray),.string (⟨#[115,117,109]⟩:ByteArray),.string (⟨#[107,105,110,100]⟩:ByteArray),.string (⟨#[97,112,97,114,116]⟩:ByteArray),.string (⟨#[115,113,117,97,114,101,115]⟩:ByteArray)]) (ok:=fun _=>True) (okp:=fun _=>True) ?hr ?hp (fun _ hk=>hk) trivial (Below.refl _ _) (Nat.le_refl _) (by simp) ?_;(case hd=>rfl);(case hg=>rfl);(case hr=>exact gr);(case hp=>exact(Reps.one (show Kd.M Kd.string _ _ _ (⟨#[97,116]⟩:ByteArray) [.string (⟨#[97,116]⟩:ByteArray)]from rfl) (Reps.one (show Kd.M Kd.string _ _ _ (⟨#[112,114,105,109,101,115]⟩:ByteArray) [.string (⟨#[112,114,105,109,101,115]⟩:ByteArray)]from rfl) (Reps.one (show Kd.M Kd.string _ _ _ (⟨#[100,105,118,105,115,111,114,115]⟩:ByteArray) [.string (⟨#[100,105,118,105,115,111,114,115]⟩:ByteArray)]from rfl) (Reps.one (show Kd.M Kd.string _ _ _ (⟨#[119,97,121]⟩:ByteArray) [.string (⟨#[119,97,121]⟩:ByteArray)]from rfl) (Reps.one (show Kd.M Kd.string _ _ _ (⟨#[115,117,109]⟩:ByteArray) [.string (⟨#[115,117,109]⟩:ByteArray)]from rfl) (Reps.one (show Kd.M Kd.string _ _ _ (⟨#[107,105,110,100]⟩:ByteArray) [.string (⟨#[107,105,110,100]⟩:ByteArray)]from rfl) (Reps.one (show Kd.M Kd.string _ _ _ (⟨#[97,112,97,114,116]⟩:ByteArray) [.string (⟨#[97,112,97,114,116]⟩:ByteArray)]from rfl) (Reps.one (show Kd.M Kd.string _ _ _ (⟨#[115,113,117,97,114,101,115]⟩:ByteArray) [.string (⟨#[115,113,117,97,114,101,115]⟩:ByteArray)]from rfl) (Reps.none _ _))))))))));intro J1 j2 l2 hb hg_ hnew_;clear hg_ hnew_;(first|rw[←C1.out]at l2|(simp only[Int.reduceToNat]at l2;rw[←C1.out]at l2));have M1:=qa (Kd.R_lower l2 (below_size (bl)));replace HB:=bs hb;clear hb l2;obtain⟨n2,p2,rfl⟩:=Kd.R_slice M1.out)|(refine gd 39 Tryz.func106 (slices_Contains_string_string.calls k _ _ y1 e1 true _ (cx (Kd.R_reads' M1.out).2.2) ((Kd.R_reads' M1.out).2.1) D1.out) fun nd=>?_))
       go_meet
       case rel=>exact⟨_,(true),(sd),H',⟨by first|omega|exact Nat.le_refl _⟩,⟨bl⟩⟩
     ·have H':=qa H;clear H
      go_wp2_with(first|((with_reducible refine gate_dst (N:=37) rfl ?_);(try(refine gate_guard (by rfl) ?_;dsimp only));refine Kd.R_lit Kd.string _ 9 ?hg (N:=37) ?hd (xs:=([(⟨#[97,116]⟩:ByteArray),(⟨#[112,114,105,109,101,115]⟩:ByteArray),(⟨#[100,105,118,105,115,111,114,115]⟩:ByteArray),(⟨#[119,97,121]⟩:ByteArray),(⟨#[115,117,109]⟩:ByteArray),(⟨#[107,105,110,100]⟩:ByteArray),(⟨#[97,112,97,114,116]⟩:ByteArray),(⟨#[115,113,117,97,114,101,115]⟩:ByteArray)]:List ByteArray)) (inner:=[.string (⟨#[97,116]⟩:ByteArray),.string (⟨#[112,114,105,109,101,115]⟩:ByteArray),.string (⟨#[100,105,118,105,115,111,114,115]⟩:ByteArray),.string (⟨#[119,97,121]⟩:ByteArray),.string (⟨#[115,117,109]⟩:ByteArray),.string (⟨#[107,105,110,100]⟩:ByteArray),.string (⟨#[97,112,97,114,116]⟩:ByteArray),.string (⟨#[115,113,117,97,114,101,115]⟩:ByteArray)]) (ok:=fun _=>True) (okp:=fun _=>True) ?hr ?hp (fun _ hk=>hk) trivial (Below.refl _ _) (Nat.le_refl _) (by simp) ?_;(case hd=>rfl);(case hg=>rfl);(case hr=>exact gr);(case hp=>exact(Reps.one (show Kd.M Kd.string _ _ _ (⟨#[97,116]⟩:ByteArray) [.string (⟨#[97,116]⟩:ByteArray)]from rfl) (Reps.one (show Kd.M Kd.string _ _ _ (⟨#[112,114,105,109,101,115]⟩:ByteArray) [.string (⟨#[112,114,105,109,101,115]⟩:ByteArray)]from rfl) (Reps.one (show Kd.M Kd.string _ _ _ (⟨#[100,105,118,105,115,111,114,115]⟩:ByteArray) [.string (⟨#[100,105,118,105,115,111,114,115]⟩:ByteArray)]from rfl) (Reps.one (show Kd.M Kd.string _ _ _ (⟨#[119,97,121]⟩:ByteArray) [.string (⟨#[119,97,121]⟩:ByteArray)]from rfl) (Reps.one (show Kd.M Kd.string _ _ _ (⟨#[115,117,109]⟩:ByteArray) [.string (⟨#[115,117,109]⟩:ByteArray)]from rfl) (Reps.one (show Kd.M Kd.string _ _ _ (⟨#[107,105,110,100]⟩:ByteArray) [.string (⟨#[107,105,110,100]⟩:ByteArray)]from rfl) (Reps.one (show Kd.M Kd.string _ _ _ (⟨#[97,112,97,114,116]⟩:ByteArray) [.string (⟨#[97,112,97,114,116]⟩:ByteArray)]from rfl) (Reps.one (show Kd.M Kd.string _ _ _ (⟨#[115,113,117,97,114,101,115]⟩:ByteArray) [.string (⟨#[115,113,117,97,114,101,115]⟩:ByteArray)]from rfl) (Reps.none _ _))))))))));intro J1 q2 r2 hb hg_ hnew_;clear hg_ hnew_;(first|rw[←C1.out]at r2|(simp only[Int.reduceToNat]at r2;rw[←C1.out]at r2));have M1:=qa (Kd.R_lower r2 (below_size (bl)));replace HB:=bs hb;clear hb r2;obtain⟨s2,t2,rfl⟩:=Kd.R_slice M1.out)|(refine gd 39 Tryz.func106 (slices_Contains_string_string.calls k _ _ y1 e1 false _ (cx (Kd.R_reads' M1.out).2.2) ((Kd.R_reads' M1.out).2.1) D1.out) fun nd=>?_))
      go_meet
      case rel=>exact⟨_,(true),(sd),H',⟨by first|omega|exact Nat.le_refl _⟩,⟨bl⟩⟩
    case rest=>
     clear s1;obtain⟨kq,x1,rfl,HA,v2,HB⟩:=hcut;obtain⟨w2,rfl,H⟩:=kz kq HA;clear HA;simp only[impl_answer.j0]at H;replace H:=qc H;obtain⟨rfl,H⟩|⟨rfl,H⟩:=H
     ·obtain rfl:=sj H;go_wp2;go_ret;exact⟨er,bl⟩
     ·have x2:=qa H;clear H
      go_upto_region 12 with(fail)
      go_cut [70] (fun y2 wc=>∃(kq:Nat) (A2:Bool),y2= .bool A2∧Aside0 (impl_answer.j1 kq c0 e1 p1 A2=some r)∧Aside0 (kq≤w2)∧Aside0 (Below w.heap.size w wc))
      case first=>
       have H:=x2.out;clear x2;replace H:=qb H;obtain⟨B2,C2,H⟩:=H;replace H:=qc H;obtain⟨rfl,H⟩|⟨rfl,H⟩:=H
       ·replace H:=qq H;obtain⟨D2,E2,H⟩|⟨G2,D2,E2,H⟩:=H
        ·(first|rw[D2]|(simp only[i64_w,i32_w];rw[D2])|skip);have H':=qa H;clear H
         go_wp2_with(first|(refine gd 61 Tryz.func107 (impl_numberOk.calls p1 true _ C2.out) fun nd=>?_))
         go_meet
         case rel=>exact⟨_,(decide (p1>24)),(sd),H',⟨by have:=v2.out;first|omega|exact Nat.le_refl _⟩,⟨bl⟩⟩
        ·(first|rw[D2]|(simp only[i64_w,i32_w];rw[D2])|skip);have H':=qa H;clear H
         go_wp2_with(first|(refine gd 61 Tryz.func107 (impl_numberOk.calls p1 true _ C2.out) fun nd=>?_))
         go_meet
         case rel=>exact⟨_,(false),(sd),H',⟨by have:=v2.out;first|omega|exact Nat.le_refl _⟩,⟨bl⟩⟩
       ·have H':=qa H;clear H
        go_wp2_with(first|(refine gd 61 Tryz.func107 (impl_numberOk.calls p1 false _ C2.out) fun nd=>?_))
        go_meet
        case rel=>exact⟨_,(true),(sd),H',⟨by have:=v2.out;first|omega|exact Nat.le_refl _⟩,⟨bl⟩⟩
      case rest=>
       clear x2;obtain⟨kq,A2,rfl,HA,J2,HB⟩:=hcut;obtain⟨K2,rfl,H⟩:=kz kq HA;clear HA;simp only[impl_answer.j1]at H;replace H:=qc H;obtain⟨rfl,H⟩|⟨rfl,H⟩:=H
       ·obtain rfl:=sj H;go_wp2;go_ret;exact⟨er,bl⟩
       ·replace H:=qq H;obtain⟨L2,M2,H⟩|⟨N2,L2,M2,H⟩:=H
        ·obtain⟨P2,Q2⟩:∃j_:Int,(wrap64 (p1-1))=j_:=⟨_,rfl⟩;(first|rw[Q2]at H|(try simp only[Q2]at H));have R2:(IntKind.i64.wrap (p1-1))=P2:=(i64_w _).trans Q2;replace H:=qd H;obtain⟨U2,H⟩:=H;replace H:=qd H;obtain⟨V2,H⟩:=H;replace H:=qb H;obtain⟨W2,X2,H⟩:=H;obtain rfl:=sj H;obtain⟨Y2,⟨⟩,a3,b3,c3⟩:=ai n0.out (P2);(try replace a3:=(HB.out.cell (World.block_lt_of_cell? w _ a3)).trans a3)
         go_wp2_with(first|((with_reducible refine gate_callee (f:=77) rfl ?_);refine goesL_ (some 79) rfl rfl Tryz.func77 (by kernel_rfl) rfl #[.int .i64 (rd c0 (P2))] rfl (by(try simp only[List.map_toArray,List.map_cons,List.map_nil]);first|done|(simp only[Q2];rfl)|rfl|(simp only[List.length_drop,List.length_take];rfl)) ?_;(with_reducible refine(strconv_Itoa.calls (rd c0 (P2)) W2 _ X2.out ?G0).mono ?_);(case G0=>exact GL_below hG_ (bl));rintro e d3 ⟨rfl,hb⟩;refine⟨_,rfl,?_⟩;replace HB:=bs hb))
         go_ret;exact⟨by first|rfl|(simp[errW_none,errW_some];exact⟨rfl,rfl⟩)|(simp[errW_none,errW_some] <;> rfl)|(simp only[←Q2];first|rfl|(simp[errW_none,errW_some] <;> rfl))|(simp[*,errW_none,errW_some] <;> rfl),bl⟩
        ·replace H:=qq H;obtain⟨e3,g3,H⟩|⟨j3,e3,g3,H⟩:=H
         ·replace H:=qb H;obtain⟨l3,n3,H⟩:=H;obtain rfl:=sj H
          go_wp2_with(first|(refine gb 83 Tryz.func108 (impl_FactorText.calls K2 p1 l3 _ n3.out (GL_below hG_ (bl))) fun p3 hb=>?_;replace HB:=bs hb))
          go_ret;exact⟨er,bl⟩
         ·replace H:=qq H;obtain⟨q3,r3,H⟩|⟨s3,q3,r3,H⟩:=H
          ·replace H:=qb H;obtain⟨t3,v3,H⟩:=H;replace H:=qb H;obtain⟨w3,x3,H⟩:=H;obtain rfl:=sj H
           go_wp2_with(first|(refine ge_ 87 Tryz.func109 (impl_divisors.calls K2 p1 t3 _ v3.out) fun y3 A3 B3 hb=>?_;have C3:=qa (Kd.R_lower B3 (below_size (bl)));replace HB:=bs hb;obtain⟨D3,E3,rfl⟩:=Kd.R_slice C3.out)|(refine gb 88 Tryz.func102 (impl_rowText.calls K2 _ _ t3 w3 _ (cx (Kd.R_reads' C3.out).2.2) ((Kd.R_reads' C3.out).2.1) x3.out (GL_below hG_ (bl))) fun G3 hb=>?_;replace C3:=qa (Kd.R_below (kR C3) hb);replace HB:=bs hb))
           go_ret;exact⟨er,bl⟩
          ·replace H:=qq H;obtain⟨J3,K3,H⟩|⟨L3,J3,K3,H⟩:=H
           ·replace H:=qb H;obtain⟨M3,N3,H⟩:=H;replace H:=qb H;obtain⟨P3,Q3,H⟩:=H;obtain rfl:=sj H
            go_wp2_with(first|(refine ge_ 92 Tryz.func110 (impl_WayFrom.calls K2 p1 M3 _ N3.out) fun R3 U3 B3 hb=>?_;have V3:=qa (Kd.R_lower B3 (below_size (bl)));replace HB:=bs hb;obtain⟨W3,X3,rfl⟩:=Kd.R_slice V3.out)|(refine gb 93 Tryz.func102 (impl_rowText.calls K2 _ _ M3 P3 _ (cx (Kd.R_reads' V3.out).2.2) ((Kd.R_reads' V3.out).2.1) Q3.out (GL_below hG_ (bl))) fun Y3 hb=>?_;replace V3:=qa (Kd.R_below (kR V3) hb);replace HB:=bs hb))
            go_ret;exact⟨er,bl⟩
           ·replace H:=qq H;obtain⟨a4,b4,H⟩|⟨c4,a4,b4,H⟩:=H
            ·replace H:=qb H;obtain⟨d4,e4,H⟩:=H;replace H:=qb H;obtain⟨g4,j4,H⟩:=H;obtain rfl:=sj H
             go_wp2_with(first|(refine gb 97 Tryz.func111 (impl_AllSum.calls K2 p1 d4 _ e4.out) fun l4 hb=>?_;replace HB:=bs hb)|(refine gb 98 Tryz.func77 (strconv_Itoa.calls d4 g4 _ j4.out (GL_below hG_ (bl))) fun n4 hb=>?_;replace HB:=bs hb))
             go_ret;exact⟨er,bl⟩
            ·replace H:=qq H;obtain⟨p4,q4,H⟩|⟨r4,p4,q4,H⟩:=H
             ·replace H:=qs H;obtain⟨s4,t4,H⟩:=H;replace H:=qb H;obtain⟨v4,w4,H⟩:=H;obtain⟨x4,y4⟩:∃j_:Int,(wrap64 (v4+1))=j_:=⟨_,rfl⟩;(first|rw[y4]at H|(try simp only[y4]at H));(try rw[y4]at w4);have A4:(IntKind.i64.wrap (v4+1))=x4:=(i64_w _).trans y4;replace H:=qd H;obtain⟨B4,H⟩:=H;replace H:=qd H;obtain⟨C4,H⟩:=H;obtain rfl:=sj H
              go_wp2_with(first|((with_reducible refine gate_dst (N:=101) rfl ?_);(try(refine gate_guard (by rfl) ?_;dsimp only));refine Kd.R_lit Kd.string _ 9 ?hg (N:=101) ?hd (xs:=([(⟨#[112,111,111,114]⟩:ByteArray),(⟨#[112,101,114,102,101,99,116]⟩:ByteArray),(⟨#[114,105,99,104]⟩:ByteArray)]:List ByteArray)) (inner:=[.string (⟨#[112,111,111,114]⟩:ByteArray),.string (⟨#[112,101,114,102,101,99,116]⟩:ByteArray),.string (⟨#[114,105,99,104]⟩:ByteArray)]) (ok:=fun _=>True) (okp:=fun _=>True) ?hr ?hp (fun _ hk=>hk) trivial (Below.refl _ _) (Nat.le_refl _) (by simp) ?_;(case hd=>rfl);(case hg=>rfl);(case hr=>exact gr);(case hp=>exact(Reps.one (show Kd.M Kd.string _ _ _ (⟨#[112,111,111,114]⟩:ByteArray) [.string (⟨#[112,111,111,114]⟩:ByteArray)]from rfl) (Reps.one (show Kd.M Kd.string _ _ _ (⟨#[112,101,114,102,101,99,116]⟩:ByteArray) [.string (⟨#[112,101,114,102,101,99,116]⟩:ByteArray)]from rfl) (Reps.one (show Kd.M Kd.string _ _ _ (⟨#[114,105,99,104]⟩:ByteArray) [.string (⟨#[114,105,99,104]⟩:ByteArray)]from rfl) (Reps.none _ _)))));intro D4 E4 G4 hb hg_ hnew_;clear hg_ hnew_;(first|rw[←t4.out]at G4|(simp only[Int.reduceToNat]at G4;rw[←t4.out]at G4));have J4:=qa (Kd.R_lower G4 (below_size (bl)));replace HB:=bs hb;clear hb G4)|(refine gb 103 Tryz.func112 (impl_KindOf.calls K2 p1 v4 _ w4.out) fun K4 hb=>?_;replace J4:=qa (Kd.R_below (kR J4) hb);replace HB:=bs hb;obtain⟨L4,M4,rfl⟩:=Kd.R_slice J4.out;obtain⟨N4,⟨⟩,P4,Q4,R4⟩:=as_ (Kd.R_reads' J4.out).2.2 (x4)))
              go_ret;exact⟨by first|rfl|(simp[errW_none,errW_some];exact⟨rfl,rfl⟩)|(simp[errW_none,errW_some] <;> rfl)|(simp only[←y4];first|rfl|(simp[errW_none,errW_some] <;> rfl))|(simp[*,errW_none,errW_some] <;> rfl),bl⟩
             ·replace H:=qq H;obtain⟨U4,V4,H⟩|⟨W4,U4,V4,H⟩:=H
              ·replace H:=qb H;obtain⟨X4,Y4,H⟩:=H;replace H:=qb H;obtain⟨a5,b5,H⟩:=H;obtain rfl:=sj H
               go_wp2_with(first|(refine gb 110 Tryz.func113 (impl_phi.calls K2 p1 X4 _ Y4.out) fun c5 hb=>?_;replace HB:=bs hb)|(refine gb 111 Tryz.func77 (strconv_Itoa.calls X4 a5 _ b5.out (GL_below hG_ (bl))) fun d5 hb=>?_;replace HB:=bs hb))
               go_ret;exact⟨er,bl⟩
              ·replace H:=qb H;obtain⟨e5,g5,H⟩:=H;replace H:=qb H;obtain⟨j5,l5,H⟩:=H;obtain rfl:=sj H
               go_wp2_with(first|(refine gb 113 Tryz.func114 (impl_ByDivisors.calls K2 p1 e5 _ g5.out) fun n5 hb=>?_;replace HB:=bs hb)|(refine gb 114 Tryz.func77 (strconv_Itoa.calls e5 j5 _ l5.out (GL_below hG_ (bl))) fun p5 hb=>?_;replace HB:=bs hb))
               go_ret;exact⟨er,bl⟩
def impl_DeskLine.f (k:Nat) (a0:List Int) (b0:List (List Int)) (c0:ByteArray):Option (List Int×(List (List Int))×ByteArray):=(impl_DeskOk.f k a0 b0).bind fun d0=>(if d0=true then((impl_ReadDeed.f k c0).bind fun e0=>(if e0.2.2.2=true then((impl_DeskDo.f k a0 b0 e0.1 e0.2.1 e0.2.2.1).bind fun g0=>(if g0.2.2=true then(some (g0.1,g0.2.1,(⟨#[111,107]⟩:ByteArray)))else(some (g0.1,g0.2.1,(⟨#[110,111,116]⟩:ByteArray)))))else((impl_copyDesk.f k a0 b0).bind fun j0=>((impl_answer.f k a0 c0).bind fun l0=>(some (j0.1,j0.2,l0))))))else(some (([]:List Int),([]:List (List Int)),(⟨#[]⟩:ByteArray))))
def impl_DeskLine.T9:Bool×List (List Nat×List Nat):=(true,[([],[]),([0],[0]),([],[]),([2],[2]),([],[]),([3,4,1],[3,4]),([1,5,0,1],[1]),([5,6,0,1,2,3,4,5,6],[5])])
def impl_DeskLine.B9:List Nat:=[0,1,0,4,0,31,63,127]
theorem impl_DeskLine.tab9:rtab .any (opsOf Tryz.f11 9)=impl_DeskLine.T9:=by kernel_rfl
theorem impl_DeskLine.bits9:waitsOk impl_DeskLine.T9.2 impl_DeskLine.B9=true:=by kernel_rfl
set_option maxHeartbeats 8000000 in
set_option maxRecDepth 100000 in
theorem impl_DeskLine.calls (k:Nat) (a0:Option Addr) (b0:Nat) (c0:List Int) (d0:Option Addr) (e0:Nat) (g0:List (List Int)) (j0:ByteArray) (l0:List Int) (n0:List (List Int)) (p0:ByteArray) (w:World) (q0:Kd.C (Kd.int .i64) w a0 c0.length c0) (r0:c0.length≤b0) (t0:Kd.C (Kd.slice 3 (Kd.int .i64)) w d0 g0.length g0) (v0:g0.length≤e0) (h:impl_DeskLine.f k c0 g0 j0=some (l0,n0,p0)) (hG_:GL w):
  Calls Tryz.prog 11 #[.agg #[.slice a0 c0.length b0,.slice d0 g0.length e0],.string j0] w fun e w'=>∃v0_ v1_:Value,e= .returned (.tuple #[.agg #[v0_,v1_],.string p0])∧Kd.R (Kd.int .i64) 3 w' w.heap.size (fun _=>True) v0_ l0∧Kd.Z (Kd.slice 3 (Kd.int .i64)) 22 w' w.heap.size (fun k_=>some k_≠(v0_:Value).ownBlock) v1_ n0∧Below w.heap.size w w':=by
 have w0:=Tryz.underlying27;have x0:=Tryz.underlying55;have y0:=qa q0;have A0:=qa r0;clear q0 r0;have B0:=qa t0;have C0:=qa v0;clear t0 v0;have HB:=qa (Below.refl w.heap.size w);have H:=h;unfold impl_DeskLine.f at H;clear h;replace H:=qb H;obtain⟨D0,E0,H⟩:=H;replace H:=qc H;obtain⟨rfl,H⟩|⟨rfl,H⟩:=H
 ·replace H:=qb H;obtain⟨⟨G0,J0,K0,L0⟩,M0,H⟩:=H;(try dsimp only at H);replace H:=qc H;obtain⟨rfl,H⟩|⟨rfl,H⟩:=H
  ·replace H:=qb H;obtain⟨⟨N0,P0,Q0⟩,R0,H⟩:=H;(try dsimp only at H);replace H:=qc H;obtain⟨rfl,H⟩|⟨rfl,H⟩:=H
   ·simp only[Option.some.injEq,Prod.mk.injEq]at H;obtain⟨rfl,rfl,rfl⟩:=H
    go_enter Tryz.func11,Tryz.ntmps11
    go_wp2_with(first|(refine bx 2 #[.slice a0 c0.length b0,.slice d0 g0.length e0] 27 ?_;intro U0 hg V0 hbox hb;have W0:=qa (hbox);have X0:=gw hg;have Y0:=gw hg;replace HB:=bs hb;clear hb hbox hg)|(refine bx 4 #[.slice none 0 0,.slice none 0 0] 27 ?_;intro a1 hg b1 hbox hb;have c1:=qa (hbox);have d1:=gw hg;have e1:=gw hg;replace HB:=bs hb;have g1:=qnl hg W0;have j1:=qng hg W0;replace W0:=qbb W0 hb;clear hb hbox hg;have l1:=g1.out;have n1:=j1.out;obtain⟨p1,q1,r1,t1⟩:=qk2 W0)|(refine gb 11 Tryz.func37 (impl_DeskOk.calls k _ _ c0 _ _ g0 true _ (cx (Kd.C_below y0.out HB.out)) A0.out (cx (Kd.C_below B0.out HB.out)) C0.out E0.out) fun v1 hb=>?_;replace W0:=qbb W0 hb;replace c1:=qbb c1 hb;replace HB:=bs hb)|(refine gb 16 Tryz.func52 (impl_ReadDeed.calls k j0 G0 J0 K0 true _ M0.out (GL_below hG_ (bl))) fun w1 hb=>?_;replace W0:=qbb W0 hb;replace c1:=qbb c1 hb;replace HB:=bs hb)|(refine bx 6 #[.int .i64 0,.int .i64 0,.int .i64 0] 55 ?_;intro x1 hg y1 hbox hb;have A1:=qa (hbox);have B1:=gw hg;have C1:=gw hg;replace HB:=bs hb;have D1:=qnl hg W0;have E1:=qng hg W0;replace W0:=qbb W0 hb;have G1:=qnl hg c1;have J1:=qng hg c1;replace c1:=qbb c1 hb;clear hb hbox hg;have K1:=E1.out;have L1:=D1.out;have M1:=J1.out;have N1:=G1.out;obtain⟨P1,Q1,R1,U1,V1,W1⟩:=qk3 A1;obtain⟨X1,Y1,a2,b2⟩:=qk2 W0)|(refine gol (some 23) Tryz.func53 #[.agg #[.slice a0 c0.length b0,.slice d0 g0.length e0],.agg #[.int .i64 G0,.int .i64 J0,.int .i64 K0]] ?_;(with_reducible refine(impl_DeskDo.calls k _ _ c0 _ _ g0 G0 J0 K0 N0 P0 true _ ?c2 ?d2 ?e2 ?g2 R0.out).mono ?_);(case c2=>exact Kd.C_below y0.out (bl));(case d2=>exact A0.out);(case e2=>exact Kd.C_below B0.out (bl));(case g2=>exact C0.out);rintro e j2 ⟨l2,n2,rfl,p2,q2,hb⟩;refine⟨_,rfl,?_⟩;have r2:=qa (Kd.R_lower p2 (below_size (bl)));have s2:=qa (Kd.Z_lower q2 (below_size (bl)));replace W0:=qbb W0 hb;replace c1:=qbb c1 hb;replace A1:=qa (blk_below (g:=x1) (o:= .cells #[.int .i64 G0,.int .i64 J0,.int .i64 K0] 55 (0,0)) (kP A1) hb);replace HB:=bs hb)|(refine bx 8 #[.slice none 0 0,.slice none 0 0] 27 ?_;intro t2 hg v2 hbox hb;replace r2:=qa (Kd.R_below (kR r2) hb);replace s2:=qa (Kd.Z_below (kZ s2) hb);have w2:=qa (hbox);have x2:=gw hg;have y2:=gw hg;replace HB:=bs hb;have A2:=qnl hg W0;have B2:=qng hg W0;replace W0:=qbb W0 hb;have C2:=qnl hg c1;have D2:=qng hg c1;replace c1:=qbb c1 hb;have E2:=qnl hg A1;have G2:=qng hg A1;replace A1:=qbb A1 hb;clear hb hbox hg;obtain⟨J2,K2,rfl⟩:=Kd.R_slice r2.out;have L2:=B2.out;have M2:=A2.out;have N2:=D2.out;have P2:=C2.out;have Q2:=G2.out;have R2:=E2.out;obtain⟨U2,V2,W2,X2⟩:=qk2 w2;obtain⟨Y2,a3,b3,_⟩:=Kd.Z_slice s2.out;subst b3;obtain⟨c3,d3,e3,g3⟩:=qk2 c1))
    refine bodyPost_ret (results_ct rfl _ _ a1 27 #[.slice J2 N0.length K2,.slice Y2 P0.length a3] (0,0) _ rfl (by(with_reducible repeat(first|refine blk_drewN ?_ _|refine blk_drew ?_|refine blk_alloc ?_ _));refine blk_put (cs:=#[.slice J2 N0.length K2,.slice none 0 0]) ?_ 1 _ rfl;(with_reducible repeat(first|refine blk_drewN ?_ _|refine blk_drew ?_|refine blk_alloc ?_ _));refine blk_put (cs:=#[.slice none 0 0,.slice none 0 0]) ?_ 0 _ rfl;(with_reducible repeat(first|refine blk_drewN ?_ _|refine blk_drew ?_|refine blk_alloc ?_ _));refine blk_far ?_ C2.out _;(with_reducible repeat(first|refine blk_drewN ?_ _|refine blk_drew ?_|refine blk_alloc ?_ _));refine blk_far ?_ C2.out _;(with_reducible repeat(first|refine blk_drewN ?_ _|refine blk_drew ?_|refine blk_alloc ?_ _));exact c1.out) Tryz.underlying27 rfl (by kernel_rfl)) rfl ?_;exact⟨_,_,er,kGR r2.out w2 c1 (fun _ hk=>trivial),by(with_reducible repeat(first|apply Kd.Z_alloc|apply Kd.Z_drewN|apply Kd.Z_drew));exact Kd.Z_mono (Kd.Z_far (p:=⟨a1,1,none⟩) (Kd.Z_far (p:=⟨a1,0,none⟩) (Kd.Z_far (p:=⟨t2,1,none⟩) (Kd.Z_far (p:=⟨t2,0,none⟩) (Kd.Z_types (Kd.Z_types s2.out w2.out (by decide)) c1.out (by decide)) (fun _ hk=>hk.1.2) (.slice J2 N0.length K2)) (fun _ hk=>hk.1.2) (.slice Y2 P0.length a3)) (fun _ hk=>hk.2) (.slice J2 N0.length K2)) (fun _ hk=>hk.2) (.slice Y2 P0.length a3)) (fun _ hk=>hk.1.1),bl⟩
   ·simp only[Option.some.injEq,Prod.mk.injEq]at H;obtain⟨rfl,rfl,rfl⟩:=H
    go_enter Tryz.func11,Tryz.ntmps11
    go_wp2_with(first|(refine bx 2 #[.slice a0 c0.length b0,.slice d0 g0.length e0] 27 ?_;intro U0 hg j3 hbox hb;have W0:=qa (hbox);have X0:=gw hg;have Y0:=gw hg;replace HB:=bs hb;clear hb hbox hg)|(refine bx 4 #[.slice none 0 0,.slice none 0 0] 27 ?_;intro a1 hg l3 hbox hb;have c1:=qa (hbox);have d1:=gw hg;have e1:=gw hg;replace HB:=bs hb;have g1:=qnl hg W0;have j1:=qng hg W0;replace W0:=qbb W0 hb;clear hb hbox hg;have n3:=g1.out;have p3:=j1.out;obtain⟨q3,r3,s3,t3⟩:=qk2 W0)|(refine gb 11 Tryz.func37 (impl_DeskOk.calls k _ _ c0 _ _ g0 true _ (cx (Kd.C_below y0.out HB.out)) A0.out (cx (Kd.C_below B0.out HB.out)) C0.out E0.out) fun v3 hb=>?_;replace W0:=qbb W0 hb;replace c1:=qbb c1 hb;replace HB:=bs hb)|(refine gb 16 Tryz.func52 (impl_ReadDeed.calls k j0 G0 J0 K0 true _ M0.out (GL_below hG_ (bl))) fun w3 hb=>?_;replace W0:=qbb W0 hb;replace c1:=qbb c1 hb;replace HB:=bs hb)|(refine bx 6 #[.int .i64 0,.int .i64 0,.int .i64 0] 55 ?_;intro x1 hg x3 hbox hb;have A1:=qa (hbox);have B1:=gw hg;have C1:=gw hg;replace HB:=bs hb;have D1:=qnl hg W0;have E1:=qng hg W0;replace W0:=qbb W0 hb;have G1:=qnl hg c1;have J1:=qng hg c1;replace c1:=qbb c1 hb;clear hb hbox hg;have y3:=E1.out;have A3:=D1.out;have B3:=J1.out;have C3:=G1.out;obtain⟨D3,E3,G3,J3,K3,L3⟩:=qk3 A1;obtain⟨M3,N3,P3,Q3⟩:=qk2 W0)|(refine gol (some 23) Tryz.func53 #[.agg #[.slice a0 c0.length b0,.slice d0 g0.length e0],.agg #[.int .i64 G0,.int .i64 J0,.int .i64 K0]] ?_;(with_reducible refine(impl_DeskDo.calls k _ _ c0 _ _ g0 G0 J0 K0 N0 P0 false _ ?c2 ?d2 ?e2 ?g2 R0.out).mono ?_);(case c2=>exact Kd.C_below y0.out (bl));(case d2=>exact A0.out);(case e2=>exact Kd.C_below B0.out (bl));(case g2=>exact C0.out);rintro e R3 ⟨l2,n2,rfl,p2,q2,hb⟩;refine⟨_,rfl,?_⟩;have r2:=qa (Kd.R_lower p2 (below_size (bl)));have s2:=qa (Kd.Z_lower q2 (below_size (bl)));replace W0:=qbb W0 hb;replace c1:=qbb c1 hb;replace A1:=qa (blk_below (g:=x1) (o:= .cells #[.int .i64 G0,.int .i64 J0,.int .i64 K0] 55 (0,0)) (kP A1) hb);replace HB:=bs hb)|(refine bx 8 #[.slice none 0 0,.slice none 0 0] 27 ?_;intro t2 hg U3 hbox hb;replace r2:=qa (Kd.R_below (kR r2) hb);replace s2:=qa (Kd.Z_below (kZ s2) hb);have w2:=qa (hbox);have x2:=gw hg;have y2:=gw hg;replace HB:=bs hb;have A2:=qnl hg W0;have B2:=qng hg W0;replace W0:=qbb W0 hb;have C2:=qnl hg c1;have D2:=qng hg c1;replace c1:=qbb c1 hb;have E2:=qnl hg A1;have G2:=qng hg A1;replace A1:=qbb A1 hb;clear hb hbox hg;obtain⟨V3,W3,rfl⟩:=Kd.R_slice r2.out;have X3:=B2.out;have Y3:=A2.out;have a4:=D2.out;have b4:=C2.out;have c4:=G2.out;have d4:=E2.out;obtain⟨e4,g4,j4,l4⟩:=qk2 w2;obtain⟨n4,p4,q4,_⟩:=Kd.Z_slice s2.out;subst q4;obtain⟨r4,s4,t4,v4⟩:=qk2 c1))
    refine bodyPost_ret (results_ct rfl _ _ a1 27 #[.slice V3 N0.length W3,.slice n4 P0.length p4] (0,0) _ rfl (by(with_reducible repeat(first|refine blk_drewN ?_ _|refine blk_drew ?_|refine blk_alloc ?_ _));refine blk_put (cs:=#[.slice V3 N0.length W3,.slice none 0 0]) ?_ 1 _ rfl;(with_reducible repeat(first|refine blk_drewN ?_ _|refine blk_drew ?_|refine blk_alloc ?_ _));refine blk_put (cs:=#[.slice none 0 0,.slice none 0 0]) ?_ 0 _ rfl;(with_reducible repeat(first|refine blk_drewN ?_ _|refine blk_drew ?_|refine blk_alloc ?_ _));refine blk_far ?_ C2.out _;(with_reducible repeat(first|refine blk_drewN ?_ _|refine blk_drew ?_|refine blk_alloc ?_ _));refine blk_far ?_ C2.out _;(with_reducible repeat(first|refine blk_drewN ?_ _|refine blk_drew ?_|refine blk_alloc ?_ _));exact c1.out) Tryz.underlying27 rfl (by kernel_rfl)) rfl ?_;exact⟨_,_,er,kGR r2.out w2 c1 (fun _ hk=>trivial),by(with_reducible repeat(first|apply Kd.Z_alloc|apply Kd.Z_drewN|apply Kd.Z_drew));exact Kd.Z_mono (Kd.Z_far (p:=⟨a1,1,none⟩) (Kd.Z_far (p:=⟨a1,0,none⟩) (Kd.Z_far (p:=⟨t2,1,none⟩) (Kd.Z_far (p:=⟨t2,0,none⟩) (Kd.Z_types (Kd.Z_types s2.out w2.out (by decide)) c1.out (by decide)) (fun _ hk=>hk.1.2) (.slice V3 N0.length W3)) (fun _ hk=>hk.1.2) (.slice n4 P0.length p4)) (fun _ hk=>hk.2) (.slice V3 N0.length W3)) (fun _ hk=>hk.2) (.slice n4 P0.length p4)) (fun _ hk=>hk.1.1),bl⟩
  ·replace H:=qb H;obtain⟨⟨w4,x4⟩,y4,H⟩:=H;(try dsimp only at H);replace H:=qb H;obtain⟨A4,B4,H⟩:=H;simp only[Option.some.injEq,Prod.mk.injEq]at H;obtain⟨rfl,rfl,rfl⟩:=H
   go_enter Tryz.func11,Tryz.ntmps11
   try go_wp2_with(first|(refine bx 2 #[.slice a0 c0.length b0,.slice d0 g0.length e0] 27 ?_;intro U0 hg C4 hbox hb;have W0:=qa (hbox);have X0:=gw hg;have Y0:=gw hg;replace HB:=bs hb;clear hb hbox hg)|(refine bx 4 #[.slice none 0 0,.slice none 0 0] 27 ?_;intro a1 hg D4 hbox hb;have c1:=qa (hbox);have d1:=gw hg;have e1:=gw hg;replace HB:=bs hb;have g1:=qnl hg W0;have j1:=qng hg W0;replace W0:=qbb W0 hb;clear hb hbox hg;have E4:=g1.out;have G4:=j1.out;obtain⟨J4,K4,L4,M4⟩:=qk2 W0)|(refine gb 11 Tryz.func37 (impl_DeskOk.calls k _ _ c0 _ _ g0 true _ (cx (Kd.C_below y0.out HB.out)) A0.out (cx (Kd.C_below B0.out HB.out)) C0.out E0.out) fun N4 hb=>?_;replace W0:=qbb W0 hb;replace c1:=qbb c1 hb;replace HB:=bs hb)|(refine gb 16 Tryz.func52 (impl_ReadDeed.calls k j0 G0 J0 K0 false _ M0.out (GL_below hG_ (bl))) fun P4 hb=>?_;replace W0:=qbb W0 hb;replace c1:=qbb c1 hb;replace HB:=bs hb)|(refine bx 6 #[.int .i64 0,.int .i64 0,.int .i64 0] 55 ?_;intro x1 hg Q4 hbox hb;have A1:=qa (hbox);have B1:=gw hg;have C1:=gw hg;replace HB:=bs hb;have D1:=qnl hg W0;have E1:=qng hg W0;replace W0:=qbb W0 hb;have G1:=qnl hg c1;have J1:=qng hg c1;replace c1:=qbb c1 hb;clear hb hbox hg;have R4:=E1.out;have U4:=D1.out;have V4:=J1.out;have W4:=G1.out;obtain⟨X4,Y4,a5,b5,c5,d5⟩:=qk3 A1))
   have n0_:Aside0 ((((Q4.setCell ⟨x1,0,none⟩ (.int .i64 G0)).setCell ⟨x1,1,none⟩ (.int .i64 J0)).setCell ⟨x1,2,none⟩ (.int .i64 K0)).heap[U0]? =some (.cells #[.slice a0 c0.length b0,.slice d0 g0.length e0] 27 (0,0))):=⟨kb W0⟩;have n1_:Aside0 ((((Q4.setCell ⟨x1,0,none⟩ (.int .i64 G0)).setCell ⟨x1,1,none⟩ (.int .i64 J0)).setCell ⟨x1,2,none⟩ (.int .i64 K0)).heap[a1]? =some (.cells #[.slice none 0 0,.slice none 0 0] 27 (0,0))):=⟨kb c1⟩;have n2_:Aside0 ((((Q4.setCell ⟨x1,0,none⟩ (.int .i64 G0)).setCell ⟨x1,1,none⟩ (.int .i64 J0)).setCell ⟨x1,2,none⟩ (.int .i64 K0)).heap[x1]? =some (.cells #[.int .i64 G0,.int .i64 J0,.int .i64 K0] 55 (0,0))):=⟨kP A1⟩;have n3_:Aside0 (Below w.heap.size w (((Q4.setCell ⟨x1,0,none⟩ (.int .i64 G0)).setCell ⟨x1,1,none⟩ (.int .i64 J0)).setCell ⟨x1,2,none⟩ (.int .i64 K0))):=⟨bl⟩;(try clear W0);(try clear c1);(try clear A1);(try clear HB);generalize (((Q4.setCell ⟨x1,0,none⟩ (.int .i64 G0)).setCell ⟨x1,1,none⟩ (.int .i64 J0)).setCell ⟨x1,2,none⟩ (.int .i64 K0))=e5 at n0_ n1_ n2_ n3_ ⊢;have W0:=n0_;have c1:=n1_;have A1:=n2_;have HB:=n3_;clear n0_ n1_ n2_ n3_;replace W0:=qa (blk_drew W0.out);replace c1:=qa (blk_drew c1.out);replace A1:=qa (blk_drew A1.out);replace HB:=qa (below_drew1 HB.out);refine start_ (n:=8) (S:=fun w'=>w'.cell? ⟨U0,0,none⟩=some (.slice a0 c0.length b0)∧w'.cell? ⟨U0,1,none⟩=some (.slice d0 g0.length e0)) (ds:=[]) #[false,false,false,false,false,false,false,false] (by kernel_rfl) rfl rfl ⟨(blk_cell W0.out 0).trans rfl,(blk_cell W0.out 1).trans rfl⟩ (fun hHeld=>?_);refine with_tabW impl_DeskLine.tab9 impl_DeskLine.bits9 (fun HT_ HW_=>?_);generalize e5.drew=g5 at W0 c1 A1 HB hHeld ⊢;refine pur 2 32 #[false,false,true,false,false,false,false,false] HT_ ?_;refine pur 4 34 #[false,false,true,false,true,false,false,false] HT_ ?_;refine take_ (i:=0) (N:=some 30) (v:=?_) (a':=?_) #[true,false,true,false,true,false,false,false] rfl rfl (take_ofW HT_.out HW_.out (by kernel_rfl)) (fun _ _ _ h=>h) (Or.inl ⟨by rfl,?_⟩) hHeld ?_ ?_;rotate_left
   ·rintro w' ⟨s0,s1⟩
    go_simp
    with_reducible rfl
   rotate_left
   ·simp only[Act.put,List.setIfInBounds_toArray,List.set_cons_zero,List.set_cons_succ,i64_w,i32_w]
    rfl
   refine take_ (i:=3) (N:=some 33) (v:=?_) (a':=?_) #[true,false,true,true,true,false,false,false] rfl rfl (take_ofW HT_.out HW_.out (by kernel_rfl)) (fun _ _ _ h=>h) (Or.inl ⟨by rfl,?_⟩) hHeld ?_ ?_;rotate_left
   ·rintro w' ⟨s0,s1⟩
    go_simp
    with_reducible rfl
   rotate_left
   ·simp only[Act.put,List.setIfInBounds_toArray,List.set_cons_zero,List.set_cons_succ,i64_w,i32_w]
    rfl
   refine one_ (i:=1) (N:=some 31) #[true,true,true,true,true,false,false,false] rfl rfl (one_of HT_.out (by kernel_rfl)) (by decide) (fun K hK=>?_);refine goes_ Tryz.func54 (by kernel_rfl) rfl #[.agg #[.slice a0 c0.length b0,.slice d0 g0.length e0]] (by rfl) rfl rfl am ?_
   with_reducible refine(impl_copyDesk.calls k _ _ c0 _ _ g0 w4 x4 _ ?c2 ?d2 ?e2 ?g2 y4.out).mono ?_
   (case c2=>exact cx (Kd.C_below y0.out HB.out));(case d2=>exact A0.out);(case e2=>exact cx (Kd.C_below B0.out HB.out));(case g2=>exact C0.out);rintro e j5 ⟨l5,n5,rfl,p2,q2,hb⟩;refine⟨_,rfl,?_⟩;have p5:=qa (Kd.R_lower p2 (below_size (bl)));have q5:=qa (Kd.S_lower q2 (below_size (bl)));replace W0:=qbb W0 hb;replace c1:=qbb c1 hb;replace A1:=qbb A1 hb;replace HB:=bs hb;(try clear hb);(try clear r5);(try clear hk);(try clear hi);(try clear p2);(try clear q2);refine hK.out _ _ ⟨(blk_cell W0.out 0).trans rfl,(blk_cell W0.out 1).trans rfl⟩ (fun hHeld=>?_);clear hK K;refine norm_ (a':=?_) ?_ ?_;rotate_left
   ·show Act.put _ (some 31) _=_;simp only[Act.put,List.setIfInBounds_toArray,List.set_cons_zero,List.set_cons_succ,i64_w,i32_w]
    rfl
   refine one_ (i:=5) (N:=some 35) #[true,true,true,true,true,true,false,false] rfl rfl (one_of HT_.out (by kernel_rfl)) (by decide) (fun K hK=>?_);refine goes_ Tryz.func55 (by kernel_rfl) rfl #[.slice a0 c0.length b0,.string j0] (by rfl) rfl rfl am ?_
   with_reducible refine(impl_answer.calls k _ _ c0 j0 A4 _ ?c2 ?d2 B4.out ?e2).mono ?_
   (case c2=>exact cx (Kd.C_below y0.out HB.out));(case d2=>exact A0.out);(case e2=>exact GL_below hG_ (bl));rintro e s5 ⟨rfl,hb⟩;refine⟨_,rfl,?_⟩;replace p5:=qa (Kd.R_below (kR p5) hb);replace q5:=qa (Kd.S_below (kS q5) hb);replace W0:=qbb W0 hb;replace c1:=qbb c1 hb;replace A1:=qbb A1 hb;replace HB:=bs hb;(try clear hb);(try clear r5);(try clear hk);(try clear hi);obtain⟨t5,v5,w5⟩:=Kd.R_slice p5.out;(first|subst w5|(injection w5 with f1_ f2_ f3_;have f4_:=f1_.symm;have f5_:=f3_.symm;clear f1_ f2_ f3_;subst f4_;subst f5_));obtain⟨x5,y5,A5⟩:=Kd.S_slice q5.out;(first|subst A5|(injection A5 with f1_ f2_ f3_;have f4_:=f1_.symm;have f5_:=f3_.symm;clear f1_ f2_ f3_;subst f4_;subst f5_));refine hK.out _ _ ⟨(blk_cell W0.out 0).trans rfl,(blk_cell W0.out 1).trans rfl⟩ (fun hHeld=>?_);clear hK K;refine norm_ (a':=?_) ?_ ?_;rotate_left
   ·show Act.put _ (some 35) _=_;simp only[Act.put,List.setIfInBounds_toArray,List.set_cons_zero,List.set_cons_succ,i64_w,i32_w]
    rfl
   refine one_ (i:=6) (N:=none) #[true,true,true,true,true,true,true,false] rfl rfl (one_of HT_.out (by kernel_rfl)) (by decide) (fun K hK=>?_);have B5:s5.cell? ⟨a1,0,none⟩=some (.slice none 0 0):=(blk_cell c1.out 0).trans rfl;have C5:=blk_frozen c1.out 0;have D5:=g1.out;have E5:=J1.out;have G5:=j1.out;have J5:=G1.out;have K5:s5.cell? ⟨a1,1,none⟩=some (.slice none 0 0):=(blk_cell c1.out 1).trans rfl;have L5:=blk_frozen c1.out 1;have M5:=g1.out;have N5:=J1.out;have P5:=j1.out;have Q5:=G1.out;refine skip_ (w1:=?_) (by rfl) rfl ?_ ?_;rotate_left
   ·go_simp
    rfl
   refine hK.out _ _ ⟨((cell_far (p:=⟨a1,_,none⟩) g1.out _).trans (((cell_far (p:=⟨a1,_,none⟩) g1.out _).trans (hHeld.1)))),((cell_far (p:=⟨a1,_,none⟩) g1.out _).trans (((cell_far (p:=⟨a1,_,none⟩) g1.out _).trans (hHeld.2))))⟩ (fun hHeld=>?_);clear hK K;refine pur 7 5 #[true,true,true,true,true,true,true,true] HT_ ?_;refine done_ (done_of HT_.out (by kernel_rfl)) ?_
   try go_wp2
   refine bodyPost_ret (results_ct rfl _ _ a1 27 #[.slice t5 w4.length v5,.slice x5 x4.length y5] (0,0) _ rfl (kP c1) Tryz.underlying27 rfl (by kernel_rfl)) rfl ?_;exact⟨_,_,er,kFR p5 c1 (fun _ hk=>trivial),Kd.Z_of_S (kFS q5 c1 (fun _ hk=>hk.1)),bl⟩
 ·simp only[Option.some.injEq,Prod.mk.injEq]at H;obtain⟨rfl,rfl,rfl⟩:=H
  go_enter Tryz.func11,Tryz.ntmps11
  go_wp2_with(first|(refine bx 2 #[.slice a0 c0.length b0,.slice d0 g0.length e0] 27 ?_;intro U0 hg R5 hbox hb;have W0:=qa (hbox);have X0:=gw hg;have Y0:=gw hg;replace HB:=bs hb;clear hb hbox hg)|(refine bx 4 #[.slice none 0 0,.slice none 0 0] 27 ?_;intro a1 hg U5 hbox hb;have c1:=qa (hbox);have d1:=gw hg;have e1:=gw hg;replace HB:=bs hb;have g1:=qnl hg W0;have j1:=qng hg W0;replace W0:=qbb W0 hb;clear hb hbox hg;have V5:=g1.out;have W5:=j1.out;obtain⟨X5,Y5,a6,b6⟩:=qk2 W0)|(refine gb 11 Tryz.func37 (impl_DeskOk.calls k _ _ c0 _ _ g0 false _ (cx (Kd.C_below y0.out HB.out)) A0.out (cx (Kd.C_below B0.out HB.out)) C0.out E0.out) fun c6 hb=>?_;replace W0:=qbb W0 hb;replace c1:=qbb c1 hb;replace HB:=bs hb;obtain⟨d6,e6,g6,j6⟩:=qk2 c1))
  refine bodyPost_ret (results_ct rfl _ _ a1 27 #[.slice none 0 0,.slice none 0 0] (0,0) _ rfl (kP c1) Tryz.underlying27 rfl (by kernel_rfl)) rfl ?_;exact⟨_,_,er,by first|exact Kd.R_nil _ _ _ _ _|exact Kd.N_nil _ _ _ _ _|exact Kd.V_nil _ _ _ _ _|exact Kd.Z_nil _ _ _ _ _|exact Kd.S_nil _ _ _ _ _,Kd.Z_of_S (by first|exact Kd.S_nil _ _ _ _ _|exact Kd.N_nil _ _ _ _ _|exact Kd.V_nil _ _ _ _ _|exact Kd.Z_nil _ _ _ _ _|exact Kd.R_nil _ _ _ _ _),bl⟩

def laws_eqIntS.l0:Nat→List Int→List Int→Int→Option (Bool)
 |0,_,_,_=>none
 |k+1,a0,b0,c0=>if c0<(a0.length:Int)then(if 0≤c0 then(if c0<(b0.length:Int)then(if(rd a0 c0)=(rd b0 c0)then(laws_eqIntS.l0 k a0 b0 (wrap64 (c0+1)))else(some false))else(none))else(none))else(some true)
def laws_eqIntS.f (k:Nat) (a0:List Int) (b0:List Int):Option (Bool):=if(a0.length:Int)=(b0.length:Int)then(laws_eqIntS.l0 k a0 b0 0)else(some false)
set_option maxHeartbeats 8000000 in
set_option maxRecDepth 100000 in
theorem laws_eqIntS.calls (k:Nat) (a0:Option Addr) (b0:Nat) (c0:List Int) (d0:Option Addr) (e0:Nat) (g0:List Int) (r:Bool) (w:World) (j0:Kd.C (Kd.int .i64) w a0 c0.length c0) (n0:c0.length≤b0) (p0:Kd.C (Kd.int .i64) w d0 g0.length g0) (q0:g0.length≤e0) (h:laws_eqIntS.f k c0 g0=some r):
  Calls Tryz.prog 56 #[.slice a0 c0.length b0,.slice d0 g0.length e0] w fun e w'=>e= .returned (.bool r)∧Drawn0 w w':=by
 have r0:=qa j0;have s0:=qa n0;clear j0 n0;have t0:=qa p0;have v0:=qa q0;clear p0 q0;have H:=h;unfold laws_eqIntS.f at H;clear h
 by_cases w0:(c0.length:Int)=(g0.length:Int)
 ·rw[if_pos w0]at H;have x0:((c0.length:Int)==(g0.length:Int))=true:=beq_iff_eq.mpr w0;have y0:((c0.length:Int) != (g0.length:Int))=false:=bne_eq_false_iff_eq.mpr w0;(have A0:(c0.length==g0.length)=true:=by first|simpa using w0|(simp at w0 ⊢;omega));clear w0;have H':=qa H;clear H
  go_enter Tryz.func56,Tryz.ntmps56
  go_wp2
  repeat(go_quiet(fail);try go_wp2)
  go_loopg [5] k (fun kq B0 w'=>∃(C0:Int),B0= .int .i64 C0∧Aside0 (laws_eqIntS.l0 kq c0 g0 C0=some r)∧Aside0 (kq≤k)∧Drawn0 w w')
  case atStart=>exact⟨(0),(sd),H',⟨Nat.le_refl _⟩,dr⟩
  case round=>
   clear H';obtain⟨C0,rfl,HA,HK1,⟨m1,rfl⟩⟩:=hrel;obtain⟨k1,rfl,H⟩:=kz gk HA;clear HA;simp only[laws_eqIntS.l0]at H;replace H:=qe H;obtain⟨D0,H⟩|⟨D0,H⟩:=H
   ·replace H:=qd H;obtain⟨E0,H⟩:=H;replace H:=qd H;obtain⟨G0,H⟩:=H;replace H:=qq H;obtain⟨J0,K0,H⟩|⟨L0,J0,K0,H⟩:=H
    ·have H':=qa H;clear H;obtain⟨M0,⟨⟩,N0,P0,Q0⟩:=ai r0.out C0;obtain⟨R0,⟨⟩,U0,V0,W0⟩:=ai t0.out C0;go_wp2
     repeat(go_quiet(fail);try go_wp2)
     go_roundg k1
     case measure=>have:=HK1.out;omega
     case rel=>exact⟨(wrap64 (C0+1)),(sd),H',⟨by have:=HK1.out;omega⟩,dr⟩
    ·obtain rfl:=sj H;obtain⟨M0,⟨⟩,N0,P0,Q0⟩:=ai r0.out C0;obtain⟨R0,⟨⟩,U0,V0,W0⟩:=ai t0.out C0;go_wp2
     repeat(go_quiet(fail);try go_wp2)
     go_ret;exact⟨sd,dr⟩
   ·obtain rfl:=sj H;go_wp2
    repeat(go_quiet(fail);try go_wp2)
    go_ret;exact⟨sd,dr⟩
 ·rw[if_neg w0]at H;have x0:((c0.length:Int)==(g0.length:Int))=false:=beq_eq_false_iff_ne.mpr w0;have y0:((c0.length:Int) != (g0.length:Int))=true:=bne_iff_ne.mpr w0;(have A0:(c0.length==g0.length)=false:=by first|simpa using w0|(simp at w0 ⊢;omega));obtain rfl:=sj H
  go_enter Tryz.func56,Tryz.ntmps56
  go_wp2
  repeat(go_quiet(fail);try go_wp2)
  go_ret;exact⟨sd,dr⟩

def laws_eqIntSS.l0:Nat→List (List Int)→List (List Int)→Int→Option (Bool)
 |0,_,_,_=>none
 |k+1,a0,b0,c0=>if c0<(a0.length:Int)then(if 0≤c0 then(if c0<(b0.length:Int)then((laws_eqIntS.f k (rd_L1 a0 c0) (rd_L1 b0 c0)).bind fun d0=>(if d0=true then(laws_eqIntSS.l0 k a0 b0 (wrap64 (c0+1)))else(some false)))else(none))else(none))else(some true)
def laws_eqIntSS.f (k:Nat) (a0:List (List Int)) (b0:List (List Int)):Option (Bool):=if(a0.length:Int)=(b0.length:Int)then(laws_eqIntSS.l0 k a0 b0 0)else(some false)
set_option maxHeartbeats 8000000 in
set_option maxRecDepth 100000 in
theorem laws_eqIntSS.calls (k:Nat) (a0:Option Addr) (b0:Nat) (c0:List (List Int)) (d0:Option Addr) (e0:Nat) (g0:List (List Int)) (r:Bool) (w:World) (j0:Kd.C (Kd.slice 3 (Kd.int .i64)) w a0 c0.length c0) (n0:c0.length≤b0) (p0:Kd.C (Kd.slice 3 (Kd.int .i64)) w d0 g0.length g0) (q0:g0.length≤e0) (h:laws_eqIntSS.f k c0 g0=some r):
  Calls Tryz.prog 57 #[.slice a0 c0.length b0,.slice d0 g0.length e0] w fun e w'=>e= .returned (.bool r)∧Drawn0 w w':=by
 have r0:=qa j0;have s0:=qa n0;clear j0 n0;have t0:=qa p0;have v0:=qa q0;clear p0 q0;have H:=h;unfold laws_eqIntSS.f at H;clear h
 by_cases w0:(c0.length:Int)=(g0.length:Int)
 ·rw[if_pos w0]at H;have x0:((c0.length:Int)==(g0.length:Int))=true:=beq_iff_eq.mpr w0;have y0:((c0.length:Int) != (g0.length:Int))=false:=bne_eq_false_iff_eq.mpr w0;(have A0:(c0.length==g0.length)=true:=by first|simpa using w0|(simp at w0 ⊢;omega));clear w0;have H':=qa H;clear H
  go_enter Tryz.func57,Tryz.ntmps57
  go_wp2
  repeat(go_quiet(fail);try go_wp2)
  go_loopg [5] k (fun kq B0 w'=>∃(C0:Int),B0= .int .i64 C0∧Aside0 (laws_eqIntSS.l0 kq c0 g0 C0=some r)∧Aside0 (kq≤k)∧Drawn0 w w')
  case atStart=>exact⟨(0),(sd),H',⟨Nat.le_refl _⟩,dr⟩
  case round=>
   clear H';obtain⟨C0,rfl,HA,HK1,⟨m1,rfl⟩⟩:=hrel;obtain⟨k1,rfl,H⟩:=kz gk HA;clear HA;simp only[laws_eqIntSS.l0]at H;replace H:=qe H;obtain⟨D0,H⟩|⟨D0,H⟩:=H
   ·replace H:=qd H;obtain⟨E0,H⟩:=H;replace H:=qd H;obtain⟨G0,H⟩:=H;replace H:=qb H;obtain⟨J0,K0,H⟩:=H;replace H:=qc H;obtain⟨rfl,H⟩|⟨rfl,H⟩:=H
    ·have H':=qa H;clear H;obtain⟨L0,M0,N0,⟨⟩,P0,Q0,R0,U0,V0⟩:=cg_L1 r0.out C0;obtain⟨W0,X0,Y0,⟨⟩,a1,b1,c1,d1,e1⟩:=cg_L1 t0.out C0
     go_wp2_with(first|(go_at_call 56;(with_reducible refine(laws_eqIntS.calls k1 _ _ (rd_L1 c0 C0) _ _ (rd_L1 g0 C0) true _ ?g1 ?j1 ?l1 ?n1 K0.out).mono ?_);(case g1=>exact cx Q0.out);(case j1=>exact R0.out);(case l1=>exact cx b1.out);(case n1=>exact c1.out);rintro e w' ⟨rfl,⟨nd,rfl⟩⟩;(try exact dn)))
     repeat(go_quiet(first|(go_at_call 56;(with_reducible refine(laws_eqIntS.calls k1 _ _ (rd_L1 c0 C0) _ _ (rd_L1 g0 C0) true _ ?g1 ?j1 ?l1 ?n1 K0.out).mono ?_);(case g1=>exact cx Q0.out);(case j1=>exact R0.out);(case l1=>exact cx b1.out);(case n1=>exact c1.out);rintro e w' ⟨rfl,⟨nd,rfl⟩⟩;(try exact dn)));try go_wp2_with(first|(go_at_call 56;(with_reducible refine(laws_eqIntS.calls k1 _ _ (rd_L1 c0 C0) _ _ (rd_L1 g0 C0) true _ ?g1 ?j1 ?l1 ?n1 K0.out).mono ?_);(case g1=>exact cx Q0.out);(case j1=>exact R0.out);(case l1=>exact cx b1.out);(case n1=>exact c1.out);rintro e w' ⟨rfl,⟨nd,rfl⟩⟩;(try exact dn))))
     go_roundg k1
     case measure=>have:=HK1.out;omega
     case rel=>exact⟨(wrap64 (C0+1)),(sd),H',⟨by have:=HK1.out;omega⟩,dr⟩
    ·obtain rfl:=sj H;obtain⟨L0,M0,N0,⟨⟩,P0,Q0,R0,U0,V0⟩:=cg_L1 r0.out C0;obtain⟨W0,X0,Y0,⟨⟩,a1,b1,c1,d1,e1⟩:=cg_L1 t0.out C0
     go_wp2_with(first|(go_at_call 56;(with_reducible refine(laws_eqIntS.calls k1 _ _ (rd_L1 c0 C0) _ _ (rd_L1 g0 C0) false _ ?g1 ?j1 ?l1 ?n1 K0.out).mono ?_);(case g1=>exact cx Q0.out);(case j1=>exact R0.out);(case l1=>exact cx b1.out);(case n1=>exact c1.out);rintro e w' ⟨rfl,⟨nd,rfl⟩⟩;(try exact dn)))
     repeat(go_quiet(first|(go_at_call 56;(with_reducible refine(laws_eqIntS.calls k1 _ _ (rd_L1 c0 C0) _ _ (rd_L1 g0 C0) false _ ?g1 ?j1 ?l1 ?n1 K0.out).mono ?_);(case g1=>exact cx Q0.out);(case j1=>exact R0.out);(case l1=>exact cx b1.out);(case n1=>exact c1.out);rintro e w' ⟨rfl,⟨nd,rfl⟩⟩;(try exact dn)));try go_wp2_with(first|(go_at_call 56;(with_reducible refine(laws_eqIntS.calls k1 _ _ (rd_L1 c0 C0) _ _ (rd_L1 g0 C0) false _ ?g1 ?j1 ?l1 ?n1 K0.out).mono ?_);(case g1=>exact cx Q0.out);(case j1=>exact R0.out);(case l1=>exact cx b1.out);(case n1=>exact c1.out);rintro e w' ⟨rfl,⟨nd,rfl⟩⟩;(try exact dn))))
     go_ret;exact⟨sd,dr⟩
   ·obtain rfl:=sj H;go_wp2
    repeat(go_quiet(fail);try go_wp2)
    go_ret;exact⟨sd,dr⟩
 ·rw[if_neg w0]at H;have x0:((c0.length:Int)==(g0.length:Int))=false:=beq_eq_false_iff_ne.mpr w0;have y0:((c0.length:Int) != (g0.length:Int))=true:=bne_iff_ne.mpr w0;(have A0:(c0.length==g0.length)=false:=by first|simpa using w0|(simp at w0 ⊢;omega));obtain rfl:=sj H
  go_enter Tryz.func57,Tryz.ntmps57
  go_wp2
  repeat(go_quiet(fail);try go_wp2)
  go_ret;exact⟨sd,dr⟩

def laws_eqDesk.f (k:Nat) (a0:List Int) (b0:List (List Int)) (c0:List Int) (d0:List (List Int)):Option (Bool):=(laws_eqIntS.f k a0 c0).bind fun e0=>(if e0=true then((laws_eqIntSS.f k b0 d0).bind fun g0=>(if g0=true then(some true)else(some false)))else(some false))
set_option maxHeartbeats 8000000 in
set_option maxRecDepth 100000 in
theorem laws_eqDesk.calls (k:Nat) (a0:Option Addr) (b0:Nat) (c0:List Int) (d0:Option Addr) (e0:Nat) (g0:List (List Int)) (j0:Option Addr) (l0:Nat) (n0:List Int) (p0:Option Addr) (q0:Nat) (r0:List (List Int)) (r:Bool) (w:World) (s0:Kd.C (Kd.int .i64) w a0 c0.length c0) (t0:c0.length≤b0) (v0:Kd.C (Kd.slice 3 (Kd.int .i64)) w d0 g0.length g0) (w0:g0.length≤e0) (x0:Kd.C (Kd.int .i64) w j0 n0.length n0) (y0:n0.length≤l0) (A0:Kd.C (Kd.slice 3 (Kd.int .i64)) w p0 r0.length r0) (B0:r0.length≤q0) (h:laws_eqDesk.f k c0 g0 n0 r0=some r):
  Calls Tryz.prog 12 #[.agg #[.slice a0 c0.length b0,.slice d0 g0.length e0],.agg #[.slice j0 n0.length l0,.slice p0 r0.length q0]] w fun e w'=>e= .returned (.bool r)∧Below w.heap.size w w':=by
 have C0:=Tryz.underlying27;have D0:=qa s0;have E0:=qa t0;clear s0 t0;have G0:=qa v0;have J0:=qa w0;clear v0 w0;have K0:=qa x0;have L0:=qa y0;clear x0 y0;have M0:=qa A0;have N0:=qa B0;clear A0 B0;have HB:=qa (Below.refl w.heap.size w);have H:=h;unfold laws_eqDesk.f at H;clear h;replace H:=qb H;obtain⟨P0,Q0,H⟩:=H;replace H:=qc H;obtain⟨rfl,H⟩|⟨rfl,H⟩:=H
 ·replace H:=qb H;obtain⟨R0,U0,H⟩:=H;replace H:=qc H;obtain⟨rfl,H⟩|⟨rfl,H⟩:=H
  ·obtain rfl:=sj H
   go_enter Tryz.func12,Tryz.ntmps12
   go_wp2_with(first|(refine bx 2 #[.slice a0 c0.length b0,.slice d0 g0.length e0] 27 ?_;intro V0 hg W0 hbox hb;have X0:=qa (hbox);have Y0:=gw hg;have a1:=gw hg;replace HB:=bs hb;clear hb hbox hg)|(refine bx 3 #[.slice j0 n0.length l0,.slice p0 r0.length q0] 27 ?_;intro b1 hg c1 hbox hb;have d1:=qa (hbox);have e1:=gw hg;have g1:=gw hg;replace HB:=bs hb;have j1:=qnl hg X0;have l1:=qng hg X0;replace X0:=qbb X0 hb;clear hb hbox hg;have n1:=j1.out;have p1:=l1.out;obtain⟨q1,r1,s1,t1⟩:=qk2 X0;obtain⟨v1,w1,x1,y1⟩:=qk2 d1)|(refine gd 9 Tryz.func56 (laws_eqIntS.calls k _ _ c0 _ _ n0 true _ (cx (Kd.C_below D0.out HB.out)) E0.out (cx (Kd.C_below K0.out HB.out)) L0.out Q0.out) fun nd=>?_)|(refine gd 15 Tryz.func57 (laws_eqIntSS.calls k _ _ g0 _ _ r0 true _ (cx (Kd.C_below G0.out (bl))) J0.out (cx (Kd.C_below M0.out (bl))) N0.out U0.out) fun nd=>?_))
   go_ret;exact⟨er,bl⟩
  ·obtain rfl:=sj H
   go_enter Tryz.func12,Tryz.ntmps12
   go_wp2_with(first|(refine bx 2 #[.slice a0 c0.length b0,.slice d0 g0.length e0] 27 ?_;intro V0 hg A1 hbox hb;have X0:=qa (hbox);have Y0:=gw hg;have a1:=gw hg;replace HB:=bs hb;clear hb hbox hg)|(refine bx 3 #[.slice j0 n0.length l0,.slice p0 r0.length q0] 27 ?_;intro b1 hg B1 hbox hb;have d1:=qa (hbox);have e1:=gw hg;have g1:=gw hg;replace HB:=bs hb;have j1:=qnl hg X0;have l1:=qng hg X0;replace X0:=qbb X0 hb;clear hb hbox hg;have C1:=j1.out;have D1:=l1.out;obtain⟨E1,G1,J1,K1⟩:=qk2 X0;obtain⟨L1,M1,N1,P1⟩:=qk2 d1)|(refine gd 9 Tryz.func56 (laws_eqIntS.calls k _ _ c0 _ _ n0 true _ (cx (Kd.C_below D0.out HB.out)) E0.out (cx (Kd.C_below K0.out HB.out)) L0.out Q0.out) fun nd=>?_)|(refine gd 15 Tryz.func57 (laws_eqIntSS.calls k _ _ g0 _ _ r0 false _ (cx (Kd.C_below G0.out (bl))) J0.out (cx (Kd.C_below M0.out (bl))) N0.out U0.out) fun nd=>?_))
   go_ret;exact⟨er,bl⟩
 ·obtain rfl:=sj H
  go_enter Tryz.func12,Tryz.ntmps12
  go_wp2_with(first|(refine bx 2 #[.slice a0 c0.length b0,.slice d0 g0.length e0] 27 ?_;intro V0 hg Q1 hbox hb;have X0:=qa (hbox);have Y0:=gw hg;have a1:=gw hg;replace HB:=bs hb;clear hb hbox hg)|(refine bx 3 #[.slice j0 n0.length l0,.slice p0 r0.length q0] 27 ?_;intro b1 hg R1 hbox hb;have d1:=qa (hbox);have e1:=gw hg;have g1:=gw hg;replace HB:=bs hb;have j1:=qnl hg X0;have l1:=qng hg X0;replace X0:=qbb X0 hb;clear hb hbox hg;have U1:=j1.out;have V1:=l1.out;obtain⟨W1,X1,Y1,a2⟩:=qk2 X0;obtain⟨b2,c2,d2,e2⟩:=qk2 d1)|(refine gd 9 Tryz.func56 (laws_eqIntS.calls k _ _ c0 _ _ n0 false _ (cx (Kd.C_below D0.out HB.out)) E0.out (cx (Kd.C_below K0.out HB.out)) L0.out Q0.out) fun nd=>?_))
  go_ret;exact⟨er,bl⟩

def laws_markIntS.l0:Nat→List Int→Int→Int→Option (Int×List Int)
 |0,_,_,_=>none
 |k+1,a0,b0,c0=>if c0<(a0.length:Int)then(if 0≤c0 then(laws_markIntS.l0 k (a0.set (c0:Int).toNat b0) (wrap64 (b0+1)) (wrap64 (c0+1)))else(none))else(some (b0,a0))
def laws_markIntS.f (k:Nat) (a0:List Int) (b0:Int):Option (Int×List Int):=laws_markIntS.l0 k a0 b0 0
set_option maxHeartbeats 8000000 in
set_option maxRecDepth 100000 in
theorem laws_markIntS.calls (k:Nat) (P0_:Nat→Prop) (a0:Value) (b0:List Int) (c0:Int) (d0:Int) (e0:List Int) (g0 w:World) (hB:Below g0.heap.size g0 w) (j0:Kd.R (Kd.int .i64) 3 w g0.heap.size P0_ a0 b0) (h:laws_markIntS.f k b0 c0=some (d0,e0)):
  Calls Tryz.prog 58 #[a0,.int .i64 c0] w fun e w'=>e= .returned (.int .i64 d0)∧Kd.R (Kd.int .i64) 3 w' g0.heap.size (fun k_=>(P0_ k_∨w.heap.size≤k_)) a0 e0∧Below g0.heap.size g0 w'∧Kept w w' (fun k_=>P0_ k_):=by
 have n0:=qa (show Kd.R (Kd.int .i64) 3 w g0.heap.size (fun k_=>(P0_ k_∨w.heap.size≤k_)) a0 b0 from Kd.R_mono j0 (fun k_ hk=>(.inl hk)));have HK:=qa (Kept.refl w (fun k_=>P0_ k_));have HW0:=qa hB.size;have HB:=qa hB;clear hB;have H:=h;unfold laws_markIntS.f at H;clear h;have H':=qa H;clear H
 go_enter Tryz.func58,Tryz.ntmps58
 go_wp2
 go_loopg [1,5] k (fun kq p0 q0 w'=>∃(r0:List Int) (s0:Int) (t0:Int),p0= .int .i64 s0∧q0= .int .i64 t0∧Aside0 (laws_markIntS.l0 kq r0 s0 t0=some (d0,e0))∧Aside0 (kq≤k)∧Aside0 (Kd.R (Kd.int .i64) 3 w' g0.heap.size (fun k_=>(P0_ k_∨w.heap.size≤k_)) a0 r0)∧Aside0 (Kept w w' (fun k_=>P0_ k_))∧Aside0 (Below g0.heap.size g0 w'))
 case atStart=>exact⟨(b0),(c0),(0),(sd),(sd),H',⟨Nat.le_refl _⟩,⟨kR n0⟩,⟨z3_⟩,⟨bl⟩⟩
 case round=>
  clear H';obtain⟨r0,s0,t0,rfl,rfl,HA,HK1,v0,HK,HB⟩:=hrel;obtain⟨k1,rfl,H⟩:=kz gk HA;clear HA;simp only[laws_markIntS.l0]at H;replace H:=qe H;obtain⟨w0,H⟩|⟨w0,H⟩:=H
  ·replace H:=qd H;obtain⟨x0,H⟩:=H;obtain⟨y0,hy_⟩:∃y_:List Int,y_=(r0.set (t0:Int).toNat s0):=⟨_,rfl⟩;replace H:(laws_markIntS.l0 k1 y0 (wrap64 (s0+1)) (wrap64 (t0+1)))=some (d0,e0):=yh;have A0:=qa hy_;clear hy_;have H':=qa H;clear H;obtain⟨B0,C0,rfl⟩:=Kd.R_slice v0.out;have D0:0≤(t0:Int):=qo;have E0:(t0:Int)<((r0.length:Int):Int):=qo;obtain⟨G0,J0,K0,L0,gl5,cl5,HG5⟩:=Kd.R_form v0.out (by omega);(first|cases K0|(injection K0 with ea_ en_ ec_;(first|subst ea_|(injection ea_ with ea_;subst ea_));subst ec_;clear en_));have GB5:=qa L0;have GG5:=qa HG5;clear L0 gl5 HG5;have HMgo5:=qa (show(P0_ G0∨w.heap.size≤G0)from(v0.out.1 _ rfl));obtain⟨M0,N0⟩:=Kd.R_celln 0 v0.out (t0:Int) D0 E0;replace D0:=eq_true D0;replace E0:=eq_true E0;have HP7:=Kd.R_putg v0.out (t0:Int) s0
   go_wp2_with(first|((with_reducible refine gate_store (t:=3) (p:=15) rfl ?_);refine store_event (t:=3) (p:=15) (v:=?vo_w8) (w1:=(wr.setCell ⟨G0,(t0:Int).toNat,none⟩ (.int .i64 s0))) ?hg ?ho ?hn ?hr ?_;(case ho=>rfl);(case hg=>rfl);(case hn=>rfl);(case hr=>exact gr);intro P0 hw;have hg:wr.grownBy P0 (some G0):=(by rw[hw];exact HP7.2);have hp_:Kd.R (Kd.int .i64) 3 P0 g0.heap.size (fun k_=>(P0_ k_∨w.heap.size≤k_)) (.slice (some ⟨G0,0,none⟩) r0.length C0) y0:=(by rw[hw,A0.out];exact HP7.1);clear HP7;replace HB:=qa ((by rw[hw];exact below_set (HB.out) GB5.out:Below g0.heap.size g0 P0));replace HK:=qa (Kept.of_grown (S:=(fun k_=>P0_ k_)) hg z3_ (fun k_ e_=>(v0.out.1 k_ e_)));replace v0:=qa (hp_);clear hg hw hp_))
   go_roundg k1
   case measure=>have:=HK1.out;omega
   case rel=>exact⟨(y0),(wrap64 (s0+1)),(wrap64 (t0+1)),(sd),(sd),H',⟨by have:=HK1.out;omega⟩,⟨kR v0⟩,⟨z3_⟩,⟨bl⟩⟩
  ·simp only[Option.some.injEq,Prod.mk.injEq]at H;obtain⟨rfl,rfl⟩:=H;obtain⟨Q0,R0,rfl⟩:=Kd.R_slice v0.out;go_wp2;go_ret;exact⟨er,kR v0,bl,z3_⟩
def laws_markIntSS.l0:Nat→List (List Int)→Int→Int→Option (Int×List (List Int))
 |0,_,_,_=>none
 |k+1,a0,b0,c0=>if c0<(a0.length:Int)then(if 0≤c0 then((laws_markIntS.f k (a0.getD c0.toNat []) b0).bind fun bt=>laws_markIntSS.l0 k (a0.set c0.toNat bt.2) bt.1 (wrap64 (c0+1)))else none)else some (b0,a0)
def laws_markIntSS.f (k:Nat) (a0:List (List Int)) (b0:Int):Option (Int×List (List Int)):=laws_markIntSS.l0 k a0 b0 0
set_option maxHeartbeats 8000000 in
set_option maxRecDepth 100000 in
theorem laws_markIntSS.calls (k:Nat) (P0_:Nat→Prop) (a0:Value) (b0:List (List Int)) (c0:Int) (d0:Int) (e0:List (List Int)) (g0 w:World) (hB:Below g0.heap.size g0 w) (j0:Kd.Z (Kd.slice 3 (Kd.int .i64)) 22 w g0.heap.size P0_ a0 b0) (h:laws_markIntSS.f k b0 c0=some (d0,e0)):
  Calls Tryz.prog 59 #[a0,.int .i64 c0] w fun e w'=>e= .returned (.int .i64 d0)∧Kd.Z (Kd.slice 3 (Kd.int .i64)) 22 w' g0.heap.size P0_ a0 e0∧Below g0.heap.size g0 w'∧Kept w w' (fun k_=>P0_ k_):=by
 obtain⟨Au,nu,cs,cu,rfl,hz1_,hz2_,j0⟩:=j0;have hn_:=(Kd.S_reads' j0).1;subst hn_;have n0:=qa j0;clear j0;have HK:=qa (Kept.refl w (fun k_=>P0_ k_));have HB:=qa hB;clear hB;have H:=h;unfold laws_markIntSS.f at H;clear h;have H':=qa H;clear H
 go_enter Tryz.func59,Tryz.ntmps59
 go_wp2
 go_loopg [1,5] k (fun kq p0 q0 w'=>∃(r0:List (List Int)) (s0:Int) (t0:Int),p0= .int .i64 s0∧q0= .int .i64 t0∧Aside0 (laws_markIntSS.l0 kq r0 s0 t0=some (d0,e0))∧Aside0 (kq≤k)∧Aside0 (Kd.S (Kd.slice 3 (Kd.int .i64)) 22 w' g0.heap.size P0_ (.slice Au b0.length cu) r0)∧Aside0 (Kept w w' (fun k_=>P0_ k_))∧Aside0 (Below g0.heap.size g0 w'))
 case atStart=>exact⟨b0,c0,0,rfl,rfl,H',⟨Nat.le_refl _⟩,⟨kS n0⟩,⟨z3_⟩,⟨bl⟩⟩
 case round=>
  clear H';obtain⟨r0,s0,t0,rfl,rfl,HA,HK1,v0,HK,HB⟩:=hrel
  cases gk with
  |zero=>exact absurd HA.out (by simp[laws_markIntSS.l0])
  |succ k1=>
   have HL_:=qa (Kd.S_reads' v0.out).1;have H:=HA.out;clear HA;simp only[laws_markIntSS.l0]at H
   by_cases w0:t0<(r0.length:Int)
   ·rw[if_pos w0]at H;have x0:decide (t0<(b0.length:Int))=true:=decide_eq_true (by rw[HL_.out];exact w0);replace H:=qn H;obtain⟨y0,H⟩:=H;replace H:=qb H;obtain⟨⟨A0,B0⟩,C0,H⟩:=H;(try dsimp only at H);have H':=qa H;clear H;(have hi_:t0<((b0.length:Nat):Int):=by rw[HL_.out];exact w0);obtain⟨go_,cap_,ef_,_,_,_⟩:=Kd.S_form v0.out (by omega);(injection ef_ with ea_ en_ ec_);subst ea_;clear en_ ec_ cap_;obtain⟨oki,c_,hcl_,hM_,hcc_,hoki_,hH_⟩:=Kd.S_lend v0.out ([]:List Int) t0 y0 hi_;obtain⟨v_,ev_,hv_⟩:=hM_;subst ev_
    have hx_:wr.cell? ⟨go_,t0.toNat,none⟩=some v_:=by
     have h_:=hcc_ 0 v_ rfl;(try simp only[show(Kd.slice 3 (Kd.int .i64)).sz =1 from rfl,Nat.mul_one,Nat.add_zero]at h_);exact h_
    obtain⟨Av_,cv_,ev_⟩:=Kd.R_slice hv_;subst ev_;have HV_:=qa hv_;have HH_:=qa hH_;have HI_:=qa hoki_;clear hv_ hH_ hoki_ hcl_ hcc_;have D0:(0≤t0)=True:=eq_true y0;have E0:(t0<(b0.length:Int))=True:=eq_true hi_;clear w0 y0 hi_
    go_wp2_with(go_at_call 58;(refine(laws_markIntS.calls k1 oki (.slice Av_ (r0.getD t0.toNat []).length cv_) (r0.getD t0.toNat []) s0 A0 B0 g0 _ ?G0 ?J0 C0.out).mono ?_);(case G0=>exact bl);(case J0=>exact HV_.out);rintro e K0 ⟨rfl,L0,hb,hkp⟩;have hH2_:=Kd.H_kept HH_.out hkp (fun k_ ho_ hn_ hs_=>hn_ hs_);have n0_:=qa (Kd.H_back (x':=B0) (okp:=oki) hH2_ (Kd.M_row (Kd.R_reok rfl L0 (fun k_ e_=>HV_.out.1 k_ e_))) (fun k_ h_=>h_));have n1_:=qa (Kept.then_ HK.out hkp (fun k_ hs_=> .inl (HI_.out k_ hs_).1));have n2_:=qa hb;clear hH2_ L0 hkp hb HK HB v0 HH_ HV_ HI_;have v0:=n0_;have HK:=n1_;have HB:=n2_;clear n0_ n1_ n2_)
    go_roundg k1
    case measure=>have:=HK1.out;omega
    case rel=>exact⟨_,_,_,rfl,rfl,H',⟨by have:=HK1.out;omega⟩,⟨kS v0⟩,⟨z3_⟩,⟨bl⟩⟩
   ·rw[if_neg w0]at H;have x0:decide (t0<(b0.length:Int))=false:=decide_eq_false (by rw[HL_.out];exact w0);clear w0;simp only[Option.some.injEq,Prod.mk.injEq]at H;obtain⟨rfl,rfl⟩:=H;go_wp2;go_ret;exact⟨rfl,⟨Au,b0.length,cs,cu,rfl,hz1_,hz2_,kS v0⟩,bl,z3_⟩

-- CALLS: laws.markIntS laws.markIntSS
def laws_markDesk.f (k:Nat) (a0:List Int) (b0:List (List Int)) (c0:Int):Option (Int×List Int×List (List Int)):=(laws_markIntS.f k a0 c0).bind fun d0=>((laws_markIntSS.f k b0 d0.1).bind fun e0=>(some (e0.1,d0.2,e0.2)))
set_option maxHeartbeats 8000000 in
set_option maxRecDepth 100000 in
theorem laws_markDesk.calls (k:Nat) (P0_0_:Nat→Prop) (a0:Value) (b0:List Int) (P0_1_:Nat→Prop) (c0:Value) (d0:List (List Int)) (e0:Int) (g0:Int) (j0:List Int) (l0:List (List Int)) (n0 w:World) (hB:Below n0.heap.size n0 w) (p0:Kd.R (Kd.int .i64) 3 w n0.heap.size P0_0_ a0 b0) (q0:Kd.Z (Kd.slice 3 (Kd.int .i64)) 22 w n0.heap.size P0_1_ c0 d0) (hap:∀k_,P0_1_ k_→¬P0_0_ k_) (h:laws_markDesk.f k b0 d0 e0=some (g0,j0,l0)):
  Calls Tryz.prog 13 #[.agg #[a0,c0],.int .i64 e0] w fun e w'=>e= .returned (.int .i64 g0)∧Kd.R (Kd.int .i64) 3 w' n0.heap.size (fun k_=>(P0_0_ k_∨w.heap.size≤k_)) a0 j0∧Kd.Z (Kd.slice 3 (Kd.int .i64)) 22 w' n0.heap.size P0_1_ c0 l0∧Below n0.heap.size n0 w'∧Kept w w' (fun k_=>(P0_0_ k_∨P0_1_ k_)):=by
 have hu28:=Tryz.underlying27;have HO0_0:=qa (Kd.R_mono (ok':=fun k_=>P0_0_ k_∧k_<w.heap.size) (Kd.R_bound p0) (fun k_ hk=>⟨hk.1,hk.2.2.1⟩));have HO0_1:=qa (Kd.Z_mono (ok':=fun k_=>P0_1_ k_∧k_<w.heap.size) (Kd.Z_bound q0) (fun k_ hk=>⟨hk.1,hk.2.2.1⟩));clear p0 q0;have HK:=qa (Kept.refl w (fun k_=>P0_0_ k_∨P0_1_ k_));have HW0:=qa hB.size;have HB:=qa hB;clear hB;replace H:=Option.bind_eq_some_iff.mp h;clear h;obtain⟨⟨r0,s0⟩,t0,H⟩:=H;replace H:=Option.bind_eq_some_iff.mp H;have v0:=qa t0;clear t0;obtain⟨⟨w0,x0⟩,y0,H⟩:=H;have A0:=qa y0;clear y0;simp only[Option.some.injEq,Prod.mk.injEq]at H;obtain⟨rfl,rfl,rfl⟩:=H;obtain⟨B0,C0,rfl⟩:=Kd.R_slice HO0_0.out;obtain⟨D0,E0,G0,_⟩:=Kd.Z_slice HO0_1.out;subst G0
 go_enter Tryz.func13,Tryz.ntmps13
 go_wp2_with(first|(refine bx 2 #[.slice B0 b0.length C0,.slice D0 d0.length E0] 27 ?_;intro J0 hg K0 hbox hb;have n0_:=qa (Kd.R_below (by(with_reducible repeat(first|apply Kd.R_alloc|apply Kd.R_drewN|apply Kd.R_drew));exact HO0_0.out) hb);have n6_:=qa (Kd.Z_below z53_ hb);have n1_:=qa (Kept.below (S:=(fun k_=>P0_0_ k_∨P0_1_ k_)) z3_ hb);have n2_:=qa (below_step (bl) hb);have n3_:=qa (hbox);have n4_:=qa ((by rw[hg];exact(by first|exact HK.out.1|exact(show Kept w _ (fun k_=>P0_0_ k_∨P0_1_ k_)from by repeat(first|(with_reducible first|exact HK.out|apply Kept.alloc|apply Kept.drewN|apply Kept.drew)|exact HK.out)).1):w.heap.size≤J0));have n5_:=qa ((by rw[hg];exact(below_size (bl)):n0.heap.size≤J0));clear HO0_0;clear HO0_1;clear HK;clear HB;have HO0_0:=n0_;have HO0_1:=n6_;have HK:=n1_;have HB:=n2_;have L0:=n3_;have M0:=n4_;have N0:=n5_;clear n0_ n1_ n2_ n3_ n4_ n5_ n6_;clear hb hbox hg;obtain⟨P0,Q0,R0,U0⟩:=qk2 L0)|(refine gol (some 8) Tryz.func58 #[.slice B0 b0.length C0,.int .i64 e0] ?_;(with_reducible refine(laws_markIntS.calls k (fun k_=>some k_=(.slice B0 b0.length C0:Value).ownBlock) (.slice B0 b0.length C0) b0 e0 r0 s0 n0 _ ?V0 ?W0 v0.out).mono ?_);(case V0=>exact bl);(case W0=>exact Kd.R_tight rfl HO0_0.out);rintro e X0 ⟨rfl,Y0,hb,hkp⟩;refine⟨_,rfl,?_⟩;have n4_:=qa (Kd.Z_kept z53_ hkp (fun k_ (hk_:P0_1_ k_∧k_<w.heap.size) hs_=>hap k_ hk_.1 (HO0_0.out.1 k_ hs_.symm).1));have n0_:=qa (Kd.R_reok rfl Y0 (fun k_ e_=>HO0_0.out.1 k_ e_));have n1_:=qa (blk_kept (bk) hkp (fun hs_=>(fun e_=>(Kd.R_ne HO0_0.out L0.out (by decide)) e_) hs_));have n2_:=qa (Kept.then_ (S:=(fun k_=>P0_0_ k_∨P0_1_ k_)) z31_ hkp (fun k_ hs_=> .inl (.inl (HO0_0.out.1 k_ hs_.symm).1)));have n3_:=qa (hb);clear HO0_0;clear HO0_1;clear L0;clear HK;clear HB;have HO0_0:=n0_;have HO0_1:=n4_;have L0:=n1_;have HK:=n2_;have HB:=n3_;clear n0_ n1_ n2_ n3_ n4_;obtain⟨a1,b1,c1,d1⟩:=qk2 L0)|(refine gol (some 12) Tryz.func59 #[.slice D0 d0.length E0,.int .i64 r0] ?_;(with_reducible refine(laws_markIntSS.calls k (fun k_=>P0_1_ k_∧k_<w.heap.size) (.slice D0 d0.length E0) d0 r0 w0 x0 n0 _ ?V0 ?W0 A0.out).mono ?_);(case V0=>exact bl);(case W0=>exact HO0_1.out);rintro e e1 ⟨rfl,Y0,hb,hkp⟩;refine⟨_,rfl,?_⟩;have n0_:=qa (Kd.R_kept (by(with_reducible repeat(first|apply Kd.R_alloc|apply Kd.R_drewN|apply Kd.R_drew));exact HO0_0.out) hkp (fun k_ (hk_:P0_0_ k_∧k_<w.heap.size) hs_=>hap k_ hs_.1 hk_.1));have n4_:=qa (Kd.Z_mono (ok':=P0_1_) Y0 (fun k_ hk_=>hk_.1));have n1_:=qa (blk_kept (bk) hkp (fun hs_=>Nat.not_le.2 hs_.2 M0.out));have n2_:=qa (Kept.then_ (S:=(fun k_=>P0_0_ k_∨P0_1_ k_)) z31_ hkp (fun k_ hs_=> .inl (.inr hs_.1)));have n3_:=qa (hb);clear HO0_0;clear HO0_1;clear L0;clear HK;clear HB;have HO0_0:=n0_;have HO0_1:=n4_;have L0:=n1_;have HK:=n2_;have HB:=n3_;clear n0_ n1_ n2_ n3_ n4_))
 go_ret;exact⟨er,by(with_reducible repeat(first|apply Kd.R_alloc|apply Kd.R_drewN|apply Kd.R_drew));exact Kd.R_mono HO0_0.out (fun k_ hk_=> .inl hk_.1),z53_,bl,z31_⟩

def laws_heldIntS.l0:Nat→List Int→Int→Int→Option (Int)
 |0,_,_,_=>none
 |k+1,a0,b0,c0=>if c0<(a0.length:Int)then(if 0≤c0 then(if(rd a0 c0)=b0 then(laws_heldIntS.l0 k a0 (wrap64 (b0+1)) (wrap64 (c0+1)))else(some (-1)))else(none))else(some b0)
def laws_heldIntS.f (k:Nat) (a0:List Int) (b0:Int):Option (Int):=laws_heldIntS.l0 k a0 b0 0
set_option maxHeartbeats 8000000 in
set_option maxRecDepth 100000 in
theorem laws_heldIntS.calls (k:Nat) (a0:Option Addr) (b0:Nat) (c0:List Int) (d0:Int) (r:Int) (w:World) (e0:Kd.C (Kd.int .i64) w a0 c0.length c0) (g0:c0.length≤b0) (h:laws_heldIntS.f k c0 d0=some r):
  Calls Tryz.prog 60 #[.slice a0 c0.length b0,.int .i64 d0] w fun e w'=>e= .returned (.int .i64 r)∧Drawn0 w w':=by
 have j0:=qa e0;have n0:=qa g0;clear e0 g0;have H:=h;unfold laws_heldIntS.f at H;clear h;have H':=qa H;clear H
 go_enter Tryz.func60,Tryz.ntmps60
 go_wp2
 go_loopg [1,5] k (fun kq p0 q0 w'=>∃(r0:Int) (s0:Int),p0= .int .i64 r0∧q0= .int .i64 s0∧Aside0 (laws_heldIntS.l0 kq c0 r0 s0=some r)∧Aside0 (kq≤k)∧Drawn0 w w')
 case atStart=>exact⟨(d0),(0),(sd),(sd),H',⟨Nat.le_refl _⟩,dr⟩
 case round=>
  clear H';obtain⟨r0,s0,rfl,rfl,HA,HK1,⟨m1,rfl⟩⟩:=hrel;obtain⟨k1,rfl,H⟩:=kz gk HA;clear HA;simp only[laws_heldIntS.l0]at H;replace H:=qe H;obtain⟨t0,H⟩|⟨t0,H⟩:=H
  ·replace H:=qd H;obtain⟨v0,H⟩:=H;replace H:=qq H;obtain⟨w0,x0,H⟩|⟨y0,w0,x0,H⟩:=H
   ·have H':=qa H;clear H;obtain⟨A0,⟨⟩,B0,C0,D0⟩:=ai j0.out s0;go_wp2
    go_roundg k1
    case measure=>have:=HK1.out;omega
    case rel=>exact⟨(wrap64 (r0+1)),(wrap64 (s0+1)),(sd),(sd),H',⟨by have:=HK1.out;omega⟩,dr⟩
   ·obtain rfl:=sj H;obtain⟨A0,⟨⟩,B0,C0,D0⟩:=ai j0.out s0;go_wp2;go_ret;exact⟨sd,dr⟩
  ·obtain rfl:=sj H;go_wp2;go_ret;exact⟨sd,dr⟩

def laws_heldIntSS.l0:Nat→List (List Int)→Int→Int→Option (Int)
 |0,_,_,_=>none
 |k+1,a0,b0,c0=>if c0<(a0.length:Int)then(if 0≤c0 then((laws_heldIntS.f k (rd_L1 a0 c0) b0).bind fun d0=>(if d0<0 then(some (-1))else(laws_heldIntSS.l0 k a0 d0 (wrap64 (c0+1)))))else(none))else(some b0)
def laws_heldIntSS.f (k:Nat) (a0:List (List Int)) (b0:Int):Option (Int):=laws_heldIntSS.l0 k a0 b0 0
set_option maxHeartbeats 8000000 in
set_option maxRecDepth 100000 in
theorem laws_heldIntSS.calls (k:Nat) (a0:Option Addr) (b0:Nat) (c0:List (List Int)) (d0:Int) (r:Int) (w:World) (e0:Kd.C (Kd.slice 3 (Kd.int .i64)) w a0 c0.length c0) (g0:c0.length≤b0) (h:laws_heldIntSS.f k c0 d0=some r):
  Calls Tryz.prog 61 #[.slice a0 c0.length b0,.int .i64 d0] w fun e w'=>e= .returned (.int .i64 r)∧Drawn0 w w':=by
 have j0:=qa e0;have n0:=qa g0;clear e0 g0;have H:=h;unfold laws_heldIntSS.f at H;clear h;have H':=qa H;clear H
 go_enter Tryz.func61,Tryz.ntmps61
 go_wp2
 go_loopg [1,5] k (fun kq p0 q0 w'=>∃(r0:Int) (s0:Int),p0= .int .i64 r0∧q0= .int .i64 s0∧Aside0 (laws_heldIntSS.l0 kq c0 r0 s0=some r)∧Aside0 (kq≤k)∧Drawn0 w w')
 case atStart=>exact⟨(d0),(0),(sd),(sd),H',⟨Nat.le_refl _⟩,dr⟩
 case round=>
  clear H';obtain⟨r0,s0,rfl,rfl,HA,HK1,⟨m1,rfl⟩⟩:=hrel;obtain⟨k1,rfl,H⟩:=kz gk HA;clear HA;simp only[laws_heldIntSS.l0]at H;replace H:=qe H;obtain⟨t0,H⟩|⟨t0,H⟩:=H
  ·replace H:=qd H;obtain⟨v0,H⟩:=H;replace H:=qb H;obtain⟨w0,x0,H⟩:=H;replace H:=qe H;obtain⟨y0,H⟩|⟨y0,H⟩:=H
   ·obtain rfl:=sj H;obtain⟨A0,B0,C0,⟨⟩,D0,E0,G0,J0,K0⟩:=cg_L1 j0.out s0
    go_wp2_with(first|(refine gd 17 Tryz.func60 (laws_heldIntS.calls k1 _ _ (rd_L1 c0 s0) r0 w0 _ (cx E0.out) G0.out x0.out) fun nd=>?_))
    go_ret;exact⟨sd,dr⟩
   ·have H':=qa H;clear H;obtain⟨A0,B0,C0,⟨⟩,D0,E0,G0,J0,K0⟩:=cg_L1 j0.out s0
    go_wp2_with(first|(refine gd 17 Tryz.func60 (laws_heldIntS.calls k1 _ _ (rd_L1 c0 s0) r0 w0 _ (cx E0.out) G0.out x0.out) fun nd=>?_))
    go_roundg k1
    case measure=>have:=HK1.out;omega
    case rel=>exact⟨(w0),(wrap64 (s0+1)),(sd),(sd),H',⟨by have:=HK1.out;omega⟩,dr⟩
  ·obtain rfl:=sj H;go_wp2;go_ret;exact⟨sd,dr⟩

def laws_heldDesk.f (k:Nat) (a0:List Int) (b0:List (List Int)) (c0:Int):Option (Int):=(laws_heldIntS.f k a0 c0).bind fun d0=>(if d0<0 then(some (-1))else((laws_heldIntSS.f k b0 d0).bind fun e0=>(if e0<0 then(some (-1))else(some e0))))
set_option maxHeartbeats 8000000 in
set_option maxRecDepth 100000 in
theorem laws_heldDesk.calls (k:Nat) (a0:Option Addr) (b0:Nat) (c0:List Int) (d0:Option Addr) (e0:Nat) (g0:List (List Int)) (j0:Int) (r:Int) (w:World) (l0:Kd.C (Kd.int .i64) w a0 c0.length c0) (n0:c0.length≤b0) (p0:Kd.C (Kd.slice 3 (Kd.int .i64)) w d0 g0.length g0) (q0:g0.length≤e0) (h:laws_heldDesk.f k c0 g0 j0=some r):
  Calls Tryz.prog 14 #[.agg #[.slice a0 c0.length b0,.slice d0 g0.length e0],.int .i64 j0] w fun e w'=>e= .returned (.int .i64 r)∧Below w.heap.size w w':=by
 have r0:=Tryz.underlying27;have s0:=qa l0;have t0:=qa n0;clear l0 n0;have v0:=qa p0;have w0:=qa q0;clear p0 q0;have HB:=qa (Below.refl w.heap.size w);have H:=h;unfold laws_heldDesk.f at H;clear h;replace H:=qb H;obtain⟨x0,y0,H⟩:=H;replace H:=qe H;obtain⟨A0,H⟩|⟨A0,H⟩:=H
 ·obtain rfl:=sj H
  go_enter Tryz.func14,Tryz.ntmps14
  go_wp2_with(first|(refine bx 2 #[.slice a0 c0.length b0,.slice d0 g0.length e0] 27 ?_;intro B0 hg C0 hbox hb;have D0:=qa (hbox);have E0:=gw hg;have G0:=gw hg;replace HB:=bs hb;clear hb hbox hg;obtain⟨J0,K0,L0,M0⟩:=qk2 D0)|(refine gd 8 Tryz.func60 (laws_heldIntS.calls k _ _ c0 j0 x0 _ (cx (Kd.C_below s0.out HB.out)) t0.out y0.out) fun nd=>?_))
  go_ret;exact⟨er,bl⟩
 ·replace H:=qb H;obtain⟨N0,P0,H⟩:=H;replace H:=qe H;obtain⟨Q0,H⟩|⟨Q0,H⟩:=H
  ·obtain rfl:=sj H
   go_enter Tryz.func14,Tryz.ntmps14
   go_wp2_with(first|(refine bx 2 #[.slice a0 c0.length b0,.slice d0 g0.length e0] 27 ?_;intro B0 hg R0 hbox hb;have D0:=qa (hbox);have E0:=gw hg;have G0:=gw hg;replace HB:=bs hb;clear hb hbox hg;obtain⟨U0,V0,W0,X0⟩:=qk2 D0)|(refine gd 8 Tryz.func60 (laws_heldIntS.calls k _ _ c0 j0 x0 _ (cx (Kd.C_below s0.out HB.out)) t0.out y0.out) fun nd=>?_)|(refine gd 14 Tryz.func61 (laws_heldIntSS.calls k _ _ g0 x0 N0 _ (cx (Kd.C_below v0.out (bl))) w0.out P0.out) fun nd=>?_))
   go_ret;exact⟨er,bl⟩
  ·obtain rfl:=sj H
   go_enter Tryz.func14,Tryz.ntmps14
   go_wp2_with(first|(refine bx 2 #[.slice a0 c0.length b0,.slice d0 g0.length e0] 27 ?_;intro B0 hg Y0 hbox hb;have D0:=qa (hbox);have E0:=gw hg;have G0:=gw hg;replace HB:=bs hb;clear hb hbox hg;obtain⟨a1,b1,c1,d1⟩:=qk2 D0)|(refine gd 8 Tryz.func60 (laws_heldIntS.calls k _ _ c0 j0 x0 _ (cx (Kd.C_below s0.out HB.out)) t0.out y0.out) fun nd=>?_)|(refine gd 14 Tryz.func61 (laws_heldIntSS.calls k _ _ g0 x0 N0 _ (cx (Kd.C_below v0.out (bl))) w0.out P0.out) fun nd=>?_))
   go_ret;exact⟨er,bl⟩
end Go.Proofs.YtdmlkjjlgkdnlaaGreatDoor.PFnExactDeskLine
