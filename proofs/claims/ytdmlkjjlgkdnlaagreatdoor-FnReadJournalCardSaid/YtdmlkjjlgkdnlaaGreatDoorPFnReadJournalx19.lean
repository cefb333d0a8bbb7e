import Derived.Test.YtdmlkjjlgkdnlaaGreatDoorPFnReadJournalx13
namespace Go.Proofs.YtdmlkjjlgkdnlaaGreatDoor.PFnReadJournal
open Go.RowKit Go.Proofs.YtdmlkjjlgkdnlaaGreatDoorW.PrintWords Go.Proofs.YtdmlkjjlgkdnlaaGreatDoorW.PrintLast Go.Proofs.YtdmlkjjlgkdnlaaGreatDoorW.PrintMore
attribute [local go_sem] max2_int min2_int max_two min_two max_three min_three max_four min_four
set_option linter.unusedVariables false
set_option linter.unusedSimpArgs false
set_option maxHeartbeats 8000000
set_option maxRecDepth 100000
mutual
def impl_answer.j0:Nat→List Int→ByteArray→Int→Bool→Option (ByteArray)
 |0,_,_,_,_=>none
 |k+1,a0,b0,c0,d0=>if d0=true then(some (⟨#[119,104,97,116]⟩:ByteArray))else((impl_numberOk.f c0).bind fun e0=>(if e0=true then(if b0.toList=([97,116]:List UInt8)then(impl_answer.j1 k a0 b0 c0 (decide (c0>24)))else(impl_answer.j1 k a0 b0 c0 false))else(impl_answer.j1 k a0 b0 c0 true)))
def impl_answer.j1:Nat→List Int→ByteArray→Int→Bool→Option (ByteArray)
 |0,_,_,_,_=>none
 |k+1,a0,b0,c0,g0=>if g0=true then(some (⟨#[110,111,110,101]⟩:ByteArray))else(if b0.toList=([97,116]:List UInt8)then(if 0≤(wrap64 (c0-1))then(if(wrap64 (c0-1))<(a0.length:Int)then((strconv_Itoa.f (rd a0 (wrap64 (c0-1)))).bind fun l0=>(some l0))else(none))else(none))else(if b0.toList=([112,114,105,109,101,115]:List UInt8)then((impl_FactorText.f k c0).bind fun n0=>(some n0))else(if b0.toList=([100,105,118,105,115,111,114,115]:List UInt8)then((impl_divisors.f k c0).bind fun p0=>((impl_rowText.f k p0).bind fun q0=>(some q0)))else(if b0.toList=([119,97,121]:List UInt8)then((impl_WayFrom.f k c0).bind fun r0=>((impl_rowText.f k r0).bind fun s0=>(some s0)))else(if b0.toList=([115,117,109]:List UInt8)then((impl_AllSum.f k c0).bind fun t0=>((strconv_Itoa.f t0).bind fun v0=>(some v0)))else(if b0.toList=([107,105,110,100]:List UInt8)then((some (([(⟨#[112,111,111,114]⟩:ByteArray),(⟨#[112,101,114,102,101,99,116]⟩:ByteArray),(⟨#[114,105,99,104]⟩:ByteArray)]:List ByteArray):List ByteArray)).bind fun w0=>((impl_KindOf.f k c0).bind fun x0=>(if 0≤(wrap64 (x0+1))then(if(wrap64 (x0+1))<(w0.length:Int)then(some (rdOf ByteArray.empty w0 (wrap64 (x0+1))))else(none))else(none))))else(if b0.toList=([97,112,97,114,116]:List UInt8)then((impl_phi.f k c0).bind fun y0=>((strconv_Itoa.f y0).bind fun A0=>(some A0)))else((impl_ByDivisors.f k c0).bind fun B0=>((strconv_Itoa.f B0).bind fun C0=>(some C0))))))))))
end

def impl_answer.f (k:Nat) (a0:List Int) (b0:ByteArray):Option (ByteArray):=if b0.toList=([102,105,114,115,116]:List UInt8)then(if 8≤(a0.length:Int)then((impl_rowText.f k (a0.take 8)).bind fun c0=>(some c0))else(none))else(if b0.toList=([109,117,108,116,105,112,108,105,99,97,116,105,118,101]:List UInt8)then((impl_MultiplicativeOk.f k a0).bind fun d0=>((impl_yes.f d0).bind fun e0=>(some e0)))else(if b0.toList=([102,117,108,108]:List UInt8)then((impl_FullyOk.f k a0).bind fun g0=>((impl_yes.f g0).bind fun l0=>(some l0)))else((strings_Cut.f b0 (⟨#[32]⟩:ByteArray)).bind fun n0=>((strconv_Atoi.f n0.2.1).bind fun p0=>((slices_Contains_string_string.f k (([(⟨#[97,116]⟩:ByteArray),(⟨#[112,114,105,109,101,115]⟩:ByteArray),(⟨#[100,105,118,105,115,111,114,115]⟩:ByteArray),(⟨#[119,97,121]⟩:ByteArray),(⟨#[115,117,109]⟩:ByteArray),(⟨#[107,105,110,100]⟩:ByteArray),(⟨#[97,112,97,114,116]⟩:ByteArray),(⟨#[115,113,117,97,114,101,115]⟩:ByteArray)]:List ByteArray)) n0.1).bind fun q0=>(if q0=true then(if p0.2.isNone=true then(if p0.1<0 then(impl_answer.j0 k a0 n0.1 p0.1 true)else(if(n0.2.1.size:Int)>5 then(impl_answer.j0 k a0 n0.1 p0.1 true)else((strconv_Itoa.f p0.1).bind fun r0=>(impl_answer.j0 k a0 n0.1 p0.1 (r0.toList != n0.2.1.toList)))))else(impl_answer.j0 k a0 n0.1 p0.1 true))else(impl_answer.j0 k a0 n0.1 p0.1 true)))))))
theorem impl_answer.calls (k:Nat) (a0:Option Addr) (b0:Nat) (c0:List Int) (d0:ByteArray) (r:ByteArray) (w:World) (e0:Kd.C (Kd.int .i64) w a0 c0.length c0) (g0:c0.length≤b0) (h:impl_answer.f k c0 d0=some r) (hG_:GL w):
  Calls Tryz.prog 55 #[.slice a0 c0.length b0,.string d0] w fun e w'=>e= .returned (.string r)∧Below w.heap.size w w':=by
 have l0:=Tryz.underlying98;have n0:=qa e0;have p0:=qa g0;clear e0 g0;have HB:=qa (Below.refl w.heap.size w);have H:=h;unfold impl_answer.f at H;clear h;replace H:=qq H;obtain⟨q0,r0,H⟩|⟨s0,q0,r0,H⟩:=H
 ·replace H:=qn H;obtain⟨t0,H⟩:=H;have v0:=eq_true t0;have w0:decide (8≤(c0.length:Int))=true:=decide_eq_true t0;clear t0;replace H:=qb H;obtain⟨x0,y0,H⟩:=H;obtain rfl:=sj H;obtain⟨i06,A0,_,B0,_⟩:=info_parts info3;obtain⟨C0,hA6,hC6⟩:=print_take_of (P:=Tryz.prog) (Value.int .i64) 0 22 3 .i64 Tryz.underlying22 A0 B0 a0 b0 c0 8 ko_ (qo) p0.out;have D0:=qa (Kd.C_of_reads (h1:=fun _=>rfl) (hA6 _ (Kd.reads_of_C n0.out)));have E0:=qa hC6;clear hA6 hC6 A0 B0
  go_enter Tryz.func55,Tryz.ntmps55
  go_wp2_with(first|((with_reducible refine gate_callee (f:=102) rfl ?_);refine goesL_ (some 15) rfl rfl Tryz.func102 kr_ rfl #[.slice a0 (c0.take 8).length b0] rfl (by(try simp only[List.map_toArray,List.map_cons,List.map_nil]);first|done|(rw[show(c0.take 8).length =8 from(by rw[List.length_take];have h_:(8:Int)≤(c0.length:Int):=qo;omega)] <;> rfl)|rfl|(simp only[List.length_drop,List.length_take];rfl)) ?_;(with_reducible refine(impl_rowText.calls k _ _ (c0.take 8) x0 _ ?G0 ?J0 y0.out ?K0).mono ?_);(case G0=>exact cx D0.out);(case J0=>exact E0.out);(case K0=>exact GL_below hG_ (bl));rintro e L0 ⟨rfl,hb⟩;refine⟨_,rfl,?_⟩;replace HB:=bs hb))
  go_ret;exact⟨z1_,bl⟩
 ·replace H:=qq H;obtain⟨M0,N0,H⟩|⟨P0,M0,N0,H⟩:=H
  ·replace H:=qb H;obtain⟨Q0,R0,H⟩:=H;replace H:=qb H;obtain⟨U0,V0,H⟩:=H;obtain rfl:=sj H
   go_enter Tryz.func55,Tryz.ntmps55
   go_wp2_with(first|(refine gd 19 Tryz.func104 (impl_MultiplicativeOk.calls k _ _ c0 Q0 _ (cx n0.out) p0.out R0.out) fun nd=>?_)|(refine gd 20 Tryz.func103 (impl_yes.calls Q0 U0 _ V0.out) fun nd=>?_))
   go_ret;exact⟨z1_,bl⟩
  ·replace H:=qq H;obtain⟨W0,X0,H⟩|⟨Y0,W0,X0,H⟩:=H
   ·replace H:=qb H;obtain⟨a1,b1,H⟩:=H;replace H:=qb H;obtain⟨c1,d1,H⟩:=H;obtain rfl:=sj H
    go_enter Tryz.func55,Tryz.ntmps55
    go_wp2_with(first|(refine gd 24 Tryz.func105 (impl_FullyOk.calls k _ _ c0 a1 _ (cx n0.out) p0.out b1.out) fun nd=>?_)|(refine gd 25 Tryz.func103 (impl_yes.calls a1 c1 _ d1.out) fun nd=>?_))
    go_ret;exact⟨z1_,bl⟩
   ·replace H:=qb H;obtain⟨⟨e1,g1,l1⟩,n1,H⟩:=H;(try dsimp only at H);replace H:=qb H;obtain⟨⟨p1,q1⟩,r1,H⟩:=H;(try dsimp only at H);have s1:=qa H;clear H
    go_enter Tryz.func55,Tryz.ntmps55
    go_upto_region 10 with(first|(refine gb 28 Tryz.func75 (strings_Cut.calls d0 (⟨#[32]⟩:ByteArray) e1 g1 l1 _ n1.out (GL_below hG_ (bl))) fun t1 hb=>?_;replace HB:=bs hb)|(refine gol (some 34) Tryz.func94 #[.string g1] ?_;(with_reducible refine(strconv_Atoi.calls g1 p1 q1 _ r1.out ?G0).mono ?_);(case G0=>exact GL_below hG_ (bl));rintro e v1 ⟨ev_,hev_,rfl,hb⟩;refine⟨_,rfl,?_⟩;replace HB:=bs hb;(try simp only[errW_none,errW_some])))
    (try simp only[Act.put,List.setIfInBounds_toArray,List.set_cons_zero,List.set_cons_succ])
    go_cut [59] (fun w1 wc=>∃(kq:Nat) (x1:Bool),w1= .bool x1∧Aside0 (impl_answer.j0 kq c0 e1 p1 x1=some r)∧Aside0 (kq≤k)∧Aside0 (Below w.heap.size w wc))
    case first=>
     have H:=s1.out;clear s1;obtain⟨y1,hy_⟩:∃y_:List ByteArray,y_=(([(⟨#[97,116]⟩:ByteArray),(⟨#[112,114,105,109,101,115]⟩:ByteArray),(⟨#[100,105,118,105,115,111,114,115]⟩:ByteArray),(⟨#[119,97,121]⟩:ByteArray),(⟨#[115,117,109]⟩:ByteArray),(⟨#[107,105,110,100]⟩:ByteArray),(⟨#[97,112,97,114,116]⟩:ByteArray),(⟨#[115,113,117,97,114,101,115]⟩:ByteArray)]:List ByteArray)):=⟨_,rfl⟩;replace H:((slices_Contains_string_string.f k y1 e1).bind fun A1=>(if A1=true then(if q1.isNone=true then(if p1<0 then(impl_answer.j0 k c0 e1 p1 true)else(if(g1.size:Int)>5 then(impl_answer.j0 k c0 e1 p1 true)else((strconv_Itoa.f p1).bind fun B1=>(impl_answer.j0 k c0 e1 p1 (B1.toList != g1.toList)))))else(impl_answer.j0 k c0 e1 p1 true))else(impl_answer.j0 k c0 e1 p1 true)))=some r:=yh;have C1:=qa hy_;clear hy_;replace H:=qb H;obtain⟨A1,D1,H⟩:=H;replace H:=qc H;obtain⟨rfl,H⟩|⟨rfl,H⟩:=H
     ·rcases q1 with _|E1
      ·obtain rfl:=ev0_ hev_;(have H1:(if p1<0 then(impl_answer.j0 k c0 e1 p1 true)else(if(g1.size:Int)>5 then(impl_answer.j0 k c0 e1 p1 true)else((strconv_Itoa.f p1).bind fun B1=>(impl_answer.j0 k c0 e1 p1 (B1.toList != g1.toList)))))=some r:=by rw[if_pos (show(none:Option Int).isNone =true by rfl)]at H;exact H);clear H;have H:=H1;clear H1
       try simp only[errW_none,errW_some]
       replace H:=qe H;obtain⟨G1,H⟩|⟨G1,H⟩:=H
       ·(first|rw[G1]|(simp only[i64_w,i32_w];rw[G1])|skip);have H':=qa H;clear H
        go_wp2_with(first|(refine rls 9 37 C1.out fun J1 K1 L1 hb=>?_;have M1:=qa (Kd.R_lower L1 (below_size (bl)));replace HB:=bs hb;clear hb L1;obtain⟨N1,P1,rfl⟩:=Kd.R_slice M1.out)|(refine gd 39 Tryz.func106 (slices_Contains_string_string.calls k _ _ y1 e1 true _ (cx (Kd.R_reads' M1.out).2.2) ((Kd.R_reads' M1.out).2.1) D1.out) fun nd=>?_))
        go_meet
        case rel=>exact⟨_,(true),(sd),H',⟨by first|omega|exact Nat.le_refl _⟩,⟨bl⟩⟩
       ·(first|rw[G1]|(simp only[i64_w,i32_w];rw[G1])|skip)
        by_cases Q1:(g1.size:Int)>5
        ·rw[if_pos Q1]at H;have R1:decide (5<(g1.size:Int))=true:=decide_eq_true Q1;have U1:decide (5<g1.size)=true:=decide_eq_true ko_;clear Q1;have H':=qa H;clear H
         go_wp2_with(first|(refine rls 9 37 C1.out fun J1 V1 W1 hb=>?_;have M1:=qa (Kd.R_lower W1 (below_size (bl)));replace HB:=bs hb;clear hb W1;obtain⟨X1,Y1,rfl⟩:=Kd.R_slice M1.out)|(refine gd 39 Tryz.func106 (slices_Contains_string_string.calls k _ _ y1 e1 true _ (cx (Kd.R_reads' M1.out).2.2) ((Kd.R_reads' M1.out).2.1) D1.out) fun nd=>?_))
         go_meet
         case rel=>exact⟨_,(true),(sd),H',⟨by first|omega|exact Nat.le_refl _⟩,⟨bl⟩⟩
        ·rw[if_neg Q1]at H;have R1:decide (5<(g1.size:Int))=false:=decide_eq_false Q1;have U1:decide (5<g1.size)=false:=decide_eq_false ko_;clear Q1;replace H:=qb H;obtain⟨B1,a2,H⟩:=H;have H':=qa H;clear H
         go_wp2_with(first|(refine rls 9 37 C1.out fun J1 b2 c2 hb=>?_;have M1:=qa (Kd.R_lower c2 (below_size (bl)));replace HB:=bs hb;clear hb c2;obtain⟨d2,e2,rfl⟩:=Kd.R_slice M1.out)|(refine gd 39 Tryz.func106 (slices_Contains_string_string.calls k _ _ y1 e1 true _ (cx (Kd.R_reads' M1.out).2.2) ((Kd.R_reads' M1.out).2.1) D1.out) fun nd=>?_)|(go_at_call 77;(with_reducible refine(strconv_Itoa.calls p1 B1 _ a2.out ?G0).mono ?_);(case G0=>exact GL_below hG_ (bl));rintro e g2 ⟨rfl,hb⟩;replace M1:=qa (Kd.R_below (kR M1) hb);replace HB:=bs hb))
         go_meet
         case rel=>exact⟨_,((B1.toList != g1.toList)),(sd),H',⟨by first|omega|exact Nat.le_refl _⟩,⟨bl⟩⟩
      ·obtain⟨te_,pe_,rfl⟩:=ev1_ hev_;(have H1:(impl_answer.j0 k c0 e1 p1 true)=some r:=by rw[if_neg (show ¬(some E1).isNone =true by simp)]at H;exact H);clear H;have H:=H1;clear H1
       try simp only[errW_none,errW_some]
       have H':=qa H;clear H
       go_wp2_with(first|(refine rls 9 37 C1.out fun J1 j2 l2 hb=>?_;have M1:=qa (Kd.R_lower l2 (below_size (bl)));replace HB:=bs hb;clear hb l2;obtain⟨n2,p2,rfl⟩:=Kd.R_slice M1.out)|(refine gd 39 Tryz.func106 (slices_Contains_string_string.calls k _ _ y1 e1 true _ (cx (Kd.R_reads' M1.out).2.2) ((Kd.R_reads' M1.out).2.1) D1.out) fun nd=>?_))
       go_meet
       case rel=>exact⟨_,(true),(sd),H',⟨by first|omega|exact Nat.le_refl _⟩,⟨bl⟩⟩
     ·have H':=qa H;clear H
      go_wp2_with(first|(refine rls 9 37 C1.out fun J1 q2 r2 hb=>?_;have M1:=qa (Kd.R_lower r2 (below_size (bl)));replace HB:=bs hb;clear hb r2;obtain⟨s2,t2,rfl⟩:=Kd.R_slice M1.out)|(refine gd 39 Tryz.func106 (slices_Contains_string_string.calls k _ _ y1 e1 false _ (cx (Kd.R_reads' M1.out).2.2) ((Kd.R_reads' M1.out).2.1) D1.out) fun nd=>?_))
      go_meet
      case rel=>exact⟨_,(true),(sd),H',⟨by first|omega|exact Nat.le_refl _⟩,⟨bl⟩⟩
    case rest=>
     clear s1;obtain⟨kq,x1,rfl,HA,v2,HB⟩:=hcut;obtain⟨w2,rfl,H⟩:=kz kq HA;clear HA;simp only[impl_answer.j0]at H;replace H:=qc H;obtain⟨rfl,H⟩|⟨rfl,H⟩:=H
     ·obtain rfl:=sj H;go_wp2;go_ret;exact⟨z1_,bl⟩
     ·have x2:=qa H;clear H
      go_upto_region 12 with(fail)
      go_cut [70] (fun y2 wc=>∃(kq:Nat) (A2:Bool),y2= .bool A2∧Aside0 (impl_answer.j1 kq c0 e1 p1 A2=some r)∧Aside0 (kq≤w2)∧Aside0 (Below w.heap.size w wc))
      case first=>
       have H:=x2.out;clear x2;replace H:=qb H;obtain⟨B2,C2,H⟩:=H;replace H:=qc H;obtain⟨rfl,H⟩|⟨rfl,H⟩:=H
       ·replace H:=qq H;obtain⟨D2,E2,H⟩|⟨G2,D2,E2,H⟩:=H
        ·(first|rw[D2]|(simp only[i64_w,i32_w];rw[D2])|skip);have H':=qa H;clear H
         go_wp2_with(first|(refine gd 61 Tryz.func107 (impl_numberOk.calls p1 true _ C2.out) fun nd=>?_))
         go_meet
         case rel=>exact⟨_,(decide (p1>24)),(sd),H',⟨by have:=v2.out;first|omega|exact Nat.le_refl _⟩,⟨bl⟩⟩
        ·(first|rw[D2]|(simp only[i64_w,i32_w];rw[D2])|skip);have H':=qa H;clear H
         go_wp2_with(first|(refine gd 61 Tryz.func107 (impl_numberOk.calls p1 true _ C2.out) fun nd=>?_))
         go_meet
         case rel=>exact⟨_,(false),(sd),H',⟨by have:=v2.out;first|omega|exact Nat.le_refl _⟩,⟨bl⟩⟩
       ·have H':=qa H;clear H
        go_wp2_with(first|(refine gd 61 Tryz.func107 (impl_numberOk.calls p1 false _ C2.out) fun nd=>?_))
        go_meet
        case rel=>exact⟨_,(true),(sd),H',⟨by have:=v2.out;first|omega|exact Nat.le_refl _⟩,⟨bl⟩⟩
      case rest=>
       clear x2;obtain⟨kq,A2,rfl,HA,J2,HB⟩:=hcut;obtain⟨K2,rfl,H⟩:=kz kq HA;clear HA;simp only[impl_answer.j1]at H;replace H:=qc H;obtain⟨rfl,H⟩|⟨rfl,H⟩:=H
       ·obtain rfl:=sj H;go_wp2;go_ret;exact⟨z1_,bl⟩
       ·replace H:=qq H;obtain⟨L2,M2,H⟩|⟨N2,L2,M2,H⟩:=H
        ·obtain⟨P2,Q2⟩:∃j_:Int,(wrap64 (p1-1))=j_:=⟨_,rfl⟩;(first|rw[Q2]at H|(try simp only[Q2]at H));have R2:(IntKind.i64.wrap (p1-1))=P2:=(i64_w _).trans Q2;replace H:=qd H;obtain⟨U2,H⟩:=H;replace H:=qd H;obtain⟨V2,H⟩:=H;replace H:=qb H;obtain⟨W2,X2,H⟩:=H;obtain rfl:=sj H;obtain⟨Y2,⟨⟩,a3,b3,c3⟩:=ai n0.out (P2);(try replace a3:=(HB.out.cell (World.block_lt_of_cell? w _ a3)).trans a3)
         go_wp2_with(first|((with_reducible refine gate_callee (f:=77) rfl ?_);refine goesL_ (some 79) rfl rfl Tryz.func77 kr_ rfl #[.int .i64 (rd c0 (P2))] rfl (by(try simp only[List.map_toArray,List.map_cons,List.map_nil]);first|done|(simp only[Q2];rfl)|rfl|(simp only[List.length_drop,List.length_take];rfl)) ?_;(with_reducible refine(strconv_Itoa.calls (rd c0 (P2)) W2 _ X2.out ?G0).mono ?_);(case G0=>exact GL_below hG_ (bl));rintro e d3 ⟨rfl,hb⟩;refine⟨_,rfl,?_⟩;replace HB:=bs hb))
         go_ret;exact⟨by first|rfl|(simp[errW_none,errW_some] <;> rfl)|(simp only[←Q2];first|rfl|(simp[errW_none,errW_some] <;> rfl))|(simp[*,errW_none,errW_some] <;> rfl),bl⟩
        ·replace H:=qq H;obtain⟨e3,g3,H⟩|⟨j3,e3,g3,H⟩:=H
         ·replace H:=qb H;obtain⟨l3,n3,H⟩:=H;obtain rfl:=sj H
          go_wp2_with(first|(refine gb 83 Tryz.func108 (impl_FactorText.calls K2 p1 l3 _ n3.out (GL_below hG_ (bl))) fun p3 hb=>?_;replace HB:=bs hb))
          go_ret;exact⟨z1_,bl⟩
         ·replace H:=qq H;obtain⟨q3,r3,H⟩|⟨s3,q3,r3,H⟩:=H
          ·replace H:=qb H;obtain⟨t3,v3,H⟩:=H;replace H:=qb H;obtain⟨w3,x3,H⟩:=H;obtain rfl:=sj H
           go_wp2_with(first|(refine ge_ 87 Tryz.func109 (impl_divisors.calls K2 p1 t3 _ v3.out) fun y3 A3 B3 hb=>?_;have C3:=qa (Kd.R_lower B3 (below_size (bl)));replace HB:=bs hb;obtain⟨D3,E3,rfl⟩:=Kd.R_slice C3.out)|(refine gb 88 Tryz.func102 (impl_rowText.calls K2 _ _ t3 w3 _ (cx (Kd.R_reads' C3.out).2.2) ((Kd.R_reads' C3.out).2.1) x3.out (GL_below hG_ (bl))) fun G3 hb=>?_;replace C3:=qa (Kd.R_below (kR C3) hb);replace HB:=bs hb))
           go_ret;exact⟨z1_,bl⟩
          ·replace H:=qq H;obtain⟨J3,K3,H⟩|⟨L3,J3,K3,H⟩:=H
           ·replace H:=qb H;obtain⟨M3,N3,H⟩:=H;replace H:=qb H;obtain⟨P3,Q3,H⟩:=H;obtain rfl:=sj H
            go_wp2_with(first|(refine ge_ 92 Tryz.func110 (impl_WayFrom.calls K2 p1 M3 _ N3.out) fun R3 U3 B3 hb=>?_;have V3:=qa (Kd.R_lower B3 (below_size (bl)));replace HB:=bs hb;obtain⟨W3,X3,rfl⟩:=Kd.R_slice V3.out)|(refine gb 93 Tryz.func102 (impl_rowText.calls K2 _ _ M3 P3 _ (cx (Kd.R_reads' V3.out).2.2) ((Kd.R_reads' V3.out).2.1) Q3.out (GL_below hG_ (bl))) fun Y3 hb=>?_;replace V3:=qa (Kd.R_below (kR V3) hb);replace HB:=bs hb))
            go_ret;exact⟨z1_,bl⟩
           ·replace H:=qq H;obtain⟨a4,b4,H⟩|⟨c4,a4,b4,H⟩:=H
            ·replace H:=qb H;obtain⟨d4,e4,H⟩:=H;replace H:=qb H;obtain⟨g4,j4,H⟩:=H;obtain rfl:=sj H
             go_wp2_with(first|(refine gb 97 Tryz.func111 (impl_AllSum.calls K2 p1 d4 _ e4.out) fun l4 hb=>?_;replace HB:=bs hb)|(refine gb 98 Tryz.func77 (strconv_Itoa.calls d4 g4 _ j4.out (GL_below hG_ (bl))) fun n4 hb=>?_;replace HB:=bs hb))
             go_ret;exact⟨z1_,bl⟩
            ·replace H:=qq H;obtain⟨p4,q4,H⟩|⟨r4,p4,q4,H⟩:=H
             ·replace H:=qs H;obtain⟨s4,t4,H⟩:=H;replace H:=qb H;obtain⟨v4,w4,H⟩:=H;obtain⟨x4,y4⟩:∃j_:Int,(wrap64 (v4+1))=j_:=⟨_,rfl⟩;(first|rw[y4]at H|(try simp only[y4]at H));(try rw[y4]at w4);have A4:(IntKind.i64.wrap (v4+1))=x4:=(i64_w _).trans y4;replace H:=qd H;obtain⟨B4,H⟩:=H;replace H:=qd H;obtain⟨C4,H⟩:=H;obtain rfl:=sj H
              go_wp2_with(first|(refine rls 9 101 t4.out fun D4 E4 G4 hb=>?_;have J4:=qa (Kd.R_lower G4 (below_size (bl)));replace HB:=bs hb;clear hb G4)|(refine gb 103 Tryz.func112 (impl_KindOf.calls K2 p1 v4 _ w4.out) fun K4 hb=>?_;replace J4:=qa (Kd.R_below (kR J4) hb);replace HB:=bs hb;obtain⟨L4,M4,rfl⟩:=Kd.R_slice J4.out;obtain⟨N4,⟨⟩,P4,Q4,R4⟩:=as_ (Kd.R_reads' J4.out).2.2 (x4)))
              go_ret;exact⟨by first|rfl|(simp[errW_none,errW_some] <;> rfl)|(simp only[←y4];first|rfl|(simp[errW_none,errW_some] <;> rfl))|(simp[*,errW_none,errW_some] <;> rfl),bl⟩
             ·replace H:=qq H;obtain⟨U4,V4,H⟩|⟨W4,U4,V4,H⟩:=H
              ·replace H:=qb H;obtain⟨X4,Y4,H⟩:=H;replace H:=qb H;obtain⟨a5,b5,H⟩:=H;obtain rfl:=sj H
               go_wp2_with(first|(refine gb 110 Tryz.func113 (impl_phi.calls K2 p1 X4 _ Y4.out) fun c5 hb=>?_;replace HB:=bs hb)|(refine gb 111 Tryz.func77 (strconv_Itoa.calls X4 a5 _ b5.out (GL_below hG_ (bl))) fun d5 hb=>?_;replace HB:=bs hb))
               go_ret;exact⟨z1_,bl⟩
              ·replace H:=qb H;obtain⟨e5,g5,H⟩:=H;replace H:=qb H;obtain⟨j5,l5,H⟩:=H;obtain rfl:=sj H
               go_wp2_with(first|(refine gb 113 Tryz.func114 (impl_ByDivisors.calls K2 p1 e5 _ g5.out) fun n5 hb=>?_;replace HB:=bs hb)|(refine gb 114 Tryz.func77 (strconv_Itoa.calls e5 j5 _ l5.out (GL_below hG_ (bl))) fun p5 hb=>?_;replace HB:=bs hb))
               go_ret;exact⟨z1_,bl⟩
def impl_DeskLine.f (k:Nat) (a0:List Int) (b0:List (List Int)) (c0:ByteArray):Option (List Int×(List (List Int))×ByteArray):=(impl_DeskOk.f k a0 b0).bind fun d0=>(if d0=true then((impl_ReadDeed.f k c0).bind fun e0=>(if e0.2.2.2=true then((impl_DeskDo.f k a0 b0 e0.1 e0.2.1 e0.2.2.1).bind fun g0=>(if g0.2.2=true then(some (g0.1,g0.2.1,(⟨#[111,107]⟩:ByteArray)))else(some (g0.1,g0.2.1,(⟨#[110,111,116]⟩:ByteArray)))))else((impl_copyDesk.f k a0 b0).bind fun j0=>((impl_answer.f k a0 c0).bind fun l0=>(some (j0.1,j0.2,l0))))))else(some (([]:List Int),([]:List (List Int)),(⟨#[]⟩:ByteArray))))
def impl_DeskLine.T9:Bool×List (List Nat×List Nat):=(true,[([],[]),([0],[0]),([],[]),([2],[2]),([],[]),([3,4,1],[3,4]),([1,5,0,1],[1]),([5,6,0,1,2,3,4,5,6],[5])])
def impl_DeskLine.B9:List Nat:=[0,1,0,4,0,31,63,127]
theorem impl_DeskLine.tab9:rtab .any (opsOf Tryz.f11 9)=impl_DeskLine.T9:=by kernel_rfl
theorem impl_DeskLine.bits9:waitsOk impl_DeskLine.T9.2 impl_DeskLine.B9=true:=by kernel_rfl
theorem impl_DeskLine.calls (k:Nat) (a0:Option Addr) (b0:Nat) (c0:List Int) (d0:Option Addr) (e0:Nat) (g0:List (List Int)) (j0:ByteArray) (l0:List Int) (n0:List (List Int)) (p0:ByteArray) (w:World) (q0:Kd.C (Kd.int .i64) w a0 c0.length c0) (r0:c0.length≤b0) (s0:Kd.C (Kd.slice 3 (Kd.int .i64)) w d0 g0.length g0) (t0:g0.length≤e0) (h:impl_DeskLine.f k c0 g0 j0=some (l0,n0,p0)) (hG_:GL w):
  Calls Tryz.prog 11 #[.agg #[.slice a0 c0.length b0,.slice d0 g0.length e0],.string j0] w fun e w'=>∃v0_ v1_:Value,e= .returned (.tuple #[.agg #[v0_,v1_],.string p0])∧Kd.R (Kd.int .i64) 3 w' w.heap.size (fun _=>True) v0_ l0∧Kd.Q (Kd.slice 3 (Kd.int .i64)) 22 w' w.heap.size (fun k_=>some k_≠(v0_:Value).ownBlock) v1_ n0∧Below w.heap.size w w':=by
 have v0:=Tryz.underlying27;have w0:=Tryz.underlying55;have x0:=qa q0;have y0:=qa r0;clear q0 r0;have A0:=qa s0;have B0:=qa t0;clear s0 t0;have HB:=qa (Below.refl w.heap.size w);have H:=h;unfold impl_DeskLine.f at H;clear h;replace H:=qb H;obtain⟨C0,D0,H⟩:=H;replace H:=qc H;obtain⟨rfl,H⟩|⟨rfl,H⟩:=H
 ·replace H:=qb H;obtain⟨⟨E0,G0,J0,K0⟩,L0,H⟩:=H;(try dsimp only at H);replace H:=qc H;obtain⟨rfl,H⟩|⟨rfl,H⟩:=H
  ·replace H:=qb H;obtain⟨⟨M0,N0,P0⟩,Q0,H⟩:=H;(try dsimp only at H);replace H:=qc H;obtain⟨rfl,H⟩|⟨rfl,H⟩:=H
   ·simp only[Option.some.injEq,Prod.mk.injEq]at H;obtain⟨rfl,rfl,rfl⟩:=H
    go_enter Tryz.func11,Tryz.ntmps11
    go_wp2_with(first|(refine bx 2 #[.slice a0 c0.length b0,.slice d0 g0.length e0] 27 ?_;intro R0 hg U0 hbox hb;have V0:=qa (hbox);have W0:=gw hg;have X0:=gw hg;replace HB:=bs hb;clear hb hbox hg)|(refine bx 4 #[.slice none 0 0,.slice none 0 0] 27 ?_;intro Y0 hg a1 hbox hb;have b1:=qa (hbox);have c1:=gw hg;have d1:=gw hg;replace HB:=bs hb;have e1:=qnl hg V0;have g1:=qng hg V0;replace V0:=qbb V0 hb;clear hb hbox hg;have j1:=e1.out;have l1:=g1.out;obtain⟨n1,p1,q1,r1⟩:=qk2 V0)|(refine gb 11 Tryz.func37 (impl_DeskOk.calls k _ _ c0 _ _ g0 true _ (cx (Kd.C_below x0.out HB.out)) y0.out (cx (Kd.C_below A0.out HB.out)) B0.out D0.out) fun s1 hb=>?_;replace V0:=qbb V0 hb;replace b1:=qbb b1 hb;replace HB:=bs hb)|(refine gb 16 Tryz.func52 (impl_ReadDeed.calls k j0 E0 G0 J0 true _ L0.out (GL_below hG_ (bl))) fun t1 hb=>?_;replace V0:=qbb V0 hb;replace b1:=qbb b1 hb;replace HB:=bs hb)|(refine bx 6 #[.int .i64 0,.int .i64 0,.int .i64 0] 55 ?_;intro v1 hg w1 hbox hb;have x1:=qa (hbox);have y1:=gw hg;have A1:=gw hg;replace HB:=bs hb;have B1:=qnl hg V0;have C1:=qng hg V0;replace V0:=qbb V0 hb;have D1:=qnl hg b1;have E1:=qng hg b1;replace b1:=qbb b1 hb;clear hb hbox hg;have G1:=C1.out;have J1:=B1.out;have K1:=E1.out;have L1:=D1.out;obtain⟨M1,N1,P1,Q1,R1,U1⟩:=qk3 x1;obtain⟨V1,W1,X1,Y1⟩:=qk2 V0)|(refine gol (some 23) Tryz.func53 #[.agg #[.slice a0 c0.length b0,.slice d0 g0.length e0],.agg #[.int .i64 E0,.int .i64 G0,.int .i64 J0]] ?_;(with_reducible refine(impl_DeskDo.calls k _ _ c0 _ _ g0 E0 G0 J0 M0 N0 true _ ?a2 ?b2 ?c2 ?d2 Q0.out).mono ?_);(case a2=>exact Kd.C_below x0.out (bl));(case b2=>exact y0.out);(case c2=>exact Kd.C_below A0.out (bl));(case d2=>exact B0.out);rintro e e2 ⟨g2,j2,rfl,l2,n2,hb⟩;refine⟨_,rfl,?_⟩;have p2:=qa (Kd.R_lower l2 (below_size (bl)));have q2:=qa (Kd.Q_lower n2 (below_size (bl)));replace V0:=qbb V0 hb;replace b1:=qbb b1 hb;replace x1:=qa (blk_below (g:=v1) (o:= .cells #[.int .i64 E0,.int .i64 G0,.int .i64 J0] 55 (0,0)) (kP x1) hb);replace HB:=bs hb)|(refine bx 8 #[.slice none 0 0,.slice none 0 0] 27 ?_;intro r2 hg s2 hbox hb;replace p2:=qa (Kd.R_below (kR p2) hb);replace q2:=qa (Kd.Q_below (kQ q2) hb);have t2:=qa (hbox);have v2:=gw hg;have w2:=gw hg;replace HB:=bs hb;have x2:=qnl hg V0;have y2:=qng hg V0;replace V0:=qbb V0 hb;have A2:=qnl hg b1;have B2:=qng hg b1;replace b1:=qbb b1 hb;have C2:=qnl hg x1;have D2:=qng hg x1;replace x1:=qbb x1 hb;clear hb hbox hg;obtain⟨E2,G2,rfl⟩:=Kd.R_slice p2.out;have J2:=y2.out;have K2:=x2.out;have L2:=B2.out;have M2:=A2.out;have N2:=D2.out;have P2:=C2.out;obtain⟨Q2,R2,U2,V2⟩:=qk2 t2;obtain⟨W2,X2,Y2,_⟩:=Kd.Q_slice q2.out;subst Y2;obtain⟨a3,b3,c3,d3⟩:=qk2 b1))
    refine bodyPost_ret (results_ct rfl _ _ Y0 27 #[.slice E2 M0.length G2,.slice W2 N0.length X2] (0,0) _ rfl (by(with_reducible repeat(first|refine blk_drewN ?_ _|refine blk_drew ?_|refine blk_alloc ?_ _));refine blk_put (cs:=#[.slice E2 M0.length G2,.slice none 0 0]) ?_ 1 _ rfl;(with_reducible repeat(first|refine blk_drewN ?_ _|refine blk_drew ?_|refine blk_alloc ?_ _));refine blk_put (cs:=#[.slice none 0 0,.slice none 0 0]) ?_ 0 _ rfl;(with_reducible repeat(first|refine blk_drewN ?_ _|refine blk_drew ?_|refine blk_alloc ?_ _));refine blk_far ?_ A2.out _;(with_reducible repeat(first|refine blk_drewN ?_ _|refine blk_drew ?_|refine blk_alloc ?_ _));refine blk_far ?_ A2.out _;(with_reducible repeat(first|refine blk_drewN ?_ _|refine blk_drew ?_|refine blk_alloc ?_ _));exact b1.out) Tryz.underlying27 rfl kr_) rfl ?_;exact⟨_,_,z1_,kGR p2.out t2 b1 (fun _ hk=>trivial),kGQ q2.out t2 b1 (fun _ hk=>hk.1.1),bl⟩
   ·simp only[Option.some.injEq,Prod.mk.injEq]at H;obtain⟨rfl,rfl,rfl⟩:=H
    go_enter Tryz.func11,Tryz.ntmps11
    go_wp2_with(first|(refine bx 2 #[.slice a0 c0.length b0,.slice d0 g0.length e0] 27 ?_;intro R0 hg e3 hbox hb;have V0:=qa (hbox);have W0:=gw hg;have X0:=gw hg;replace HB:=bs hb;clear hb hbox hg)|(refine bx 4 #[.slice none 0 0,.slice none 0 0] 27 ?_;intro Y0 hg g3 hbox hb;have b1:=qa (hbox);have c1:=gw hg;have d1:=gw hg;replace HB:=bs hb;have e1:=qnl hg V0;have g1:=qng hg V0;replace V0:=qbb V0 hb;clear hb hbox hg;have j3:=e1.out;have l3:=g1.out;obtain⟨n3,p3,q3,r3⟩:=qk2 V0)|(refine gb 11 Tryz.func37 (impl_DeskOk.calls k _ _ c0 _ _ g0 true _ (cx (Kd.C_below x0.out HB.out)) y0.out (cx (Kd.C_below A0.out HB.out)) B0.out D0.out) fun s3 hb=>?_;replace V0:=qbb V0 hb;replace b1:=qbb b1 hb;replace HB:=bs hb)|(refine gb 16 Tryz.func52 (impl_ReadDeed.calls k j0 E0 G0 J0 true _ L0.out (GL_below hG_ (bl))) fun t3 hb=>?_;replace V0:=qbb V0 hb;replace b1:=qbb b1 hb;replace HB:=bs hb)|(refine bx 6 #[.int .i64 0,.int .i64 0,.int .i64 0] 55 ?_;intro v1 hg v3 hbox hb;have x1:=qa (hbox);have y1:=gw hg;have A1:=gw hg;replace HB:=bs hb;have B1:=qnl hg V0;have C1:=qng hg V0;replace V0:=qbb V0 hb;have D1:=qnl hg b1;have E1:=qng hg b1;replace b1:=qbb b1 hb;clear hb hbox hg;have w3:=C1.out;have x3:=B1.out;have y3:=E1.out;have A3:=D1.out;obtain⟨B3,C3,D3,E3,G3,J3⟩:=qk3 x1;obtain⟨K3,L3,M3,N3⟩:=qk2 V0)|(refine gol (some 23) Tryz.func53 #[.agg #[.slice a0 c0.length b0,.slice d0 g0.length e0],.agg #[.int .i64 E0,.int .i64 G0,.int .i64 J0]] ?_;(with_reducible refine(impl_DeskDo.calls k _ _ c0 _ _ g0 E0 G0 J0 M0 N0 false _ ?a2 ?b2 ?c2 ?d2 Q0.out).mono ?_);(case a2=>exact Kd.C_below x0.out (bl));(case b2=>exact y0.out);(case c2=>exact Kd.C_below A0.out (bl));(case d2=>exact B0.out);rintro e P3 ⟨g2,j2,rfl,l2,n2,hb⟩;refine⟨_,rfl,?_⟩;have p2:=qa (Kd.R_lower l2 (below_size (bl)));have q2:=qa (Kd.Q_lower n2 (below_size (bl)));replace V0:=qbb V0 hb;replace b1:=qbb b1 hb;replace x1:=qa (blk_below (g:=v1) (o:= .cells #[.int .i64 E0,.int .i64 G0,.int .i64 J0] 55 (0,0)) (kP x1) hb);replace HB:=bs hb)|(refine bx 8 #[.slice none 0 0,.slice none 0 0] 27 ?_;intro r2 hg Q3 hbox hb;replace p2:=qa (Kd.R_below (kR p2) hb);replace q2:=qa (Kd.Q_below (kQ q2) hb);have t2:=qa (hbox);have v2:=gw hg;have w2:=gw hg;replace HB:=bs hb;have x2:=qnl hg V0;have y2:=qng hg V0;replace V0:=qbb V0 hb;have A2:=qnl hg b1;have B2:=qng hg b1;replace b1:=qbb b1 hb;have C2:=qnl hg x1;have D2:=qng hg x1;replace x1:=qbb x1 hb;clear hb hbox hg;obtain⟨R3,U3,rfl⟩:=Kd.R_slice p2.out;have V3:=y2.out;have W3:=x2.out;have X3:=B2.out;have Y3:=A2.out;have a4:=D2.out;have b4:=C2.out;obtain⟨c4,d4,e4,g4⟩:=qk2 t2;obtain⟨j4,l4,n4,_⟩:=Kd.Q_slice q2.out;subst n4;obtain⟨p4,q4,r4,s4⟩:=qk2 b1))
    refine bodyPost_ret (results_ct rfl _ _ Y0 27 #[.slice R3 M0.length U3,.slice j4 N0.length l4] (0,0) _ rfl (by(with_reducible repeat(first|refine blk_drewN ?_ _|refine blk_drew ?_|refine blk_alloc ?_ _));refine blk_put (cs:=#[.slice R3 M0.length U3,.slice none 0 0]) ?_ 1 _ rfl;(with_reducible repeat(first|refine blk_drewN ?_ _|refine blk_drew ?_|refine blk_alloc ?_ _));refine blk_put (cs:=#[.slice none 0 0,.slice none 0 0]) ?_ 0 _ rfl;(with_reducible repeat(first|refine blk_drewN ?_ _|refine blk_drew ?_|refine blk_alloc ?_ _));refine blk_far ?_ A2.out _;(with_reducible repeat(first|refine blk_drewN ?_ _|refine blk_drew ?_|refine blk_alloc ?_ _));refine blk_far ?_ A2.out _;(with_reducible repeat(first|refine blk_drewN ?_ _|refine blk_drew ?_|refine blk_alloc ?_ _));exact b1.out) Tryz.underlying27 rfl kr_) rfl ?_;exact⟨_,_,z1_,kGR p2.out t2 b1 (fun _ hk=>trivial),kGQ q2.out t2 b1 (fun _ hk=>hk.1.1),bl⟩
  ·replace H:=qb H;obtain⟨⟨t4,v4⟩,w4,H⟩:=H;(try dsimp only at H);replace H:=qb H;obtain⟨x4,y4,H⟩:=H;simp only[Option.some.injEq,Prod.mk.injEq]at H;obtain⟨rfl,rfl,rfl⟩:=H
   go_enter Tryz.func11,Tryz.ntmps11
   try go_wp2_with(first|(refine bx 2 #[.slice a0 c0.length b0,.slice d0 g0.length e0] 27 ?_;intro R0 hg A4 hbox hb;have V0:=qa (hbox);have W0:=gw hg;have X0:=gw hg;replace HB:=bs hb;clear hb hbox hg)|(refine bx 4 #[.slice none 0 0,.slice none 0 0] 27 ?_;intro Y0 hg B4 hbox hb;have b1:=qa (hbox);have c1:=gw hg;have d1:=gw hg;replace HB:=bs hb;have e1:=qnl hg V0;have g1:=qng hg V0;replace V0:=qbb V0 hb;clear hb hbox hg;have C4:=e1.out;have D4:=g1.out;obtain⟨E4,G4,J4,K4⟩:=qk2 V0)|(refine gb 11 Tryz.func37 (impl_DeskOk.calls k _ _ c0 _ _ g0 true _ (cx (Kd.C_below x0.out HB.out)) y0.out (cx (Kd.C_below A0.out HB.out)) B0.out D0.out) fun L4 hb=>?_;replace V0:=qbb V0 hb;replace b1:=qbb b1 hb;replace HB:=bs hb)|(refine gb 16 Tryz.func52 (impl_ReadDeed.calls k j0 E0 G0 J0 false _ L0.out (GL_below hG_ (bl))) fun M4 hb=>?_;replace V0:=qbb V0 hb;replace b1:=qbb b1 hb;replace HB:=bs hb)|(refine bx 6 #[.int .i64 0,.int .i64 0,.int .i64 0] 55 ?_;intro v1 hg N4 hbox hb;have x1:=qa (hbox);have y1:=gw hg;have A1:=gw hg;replace HB:=bs hb;have B1:=qnl hg V0;have C1:=qng hg V0;replace V0:=qbb V0 hb;have D1:=qnl hg b1;have E1:=qng hg b1;replace b1:=qbb b1 hb;clear hb hbox hg;have P4:=C1.out;have Q4:=B1.out;have R4:=E1.out;have U4:=D1.out;obtain⟨V4,W4,X4,Y4,a5,b5⟩:=qk3 x1))
   have n0_:Aside0 ((((N4.setCell ⟨v1,0,none⟩ (.int .i64 E0)).setCell ⟨v1,1,none⟩ (.int .i64 G0)).setCell ⟨v1,2,none⟩ (.int .i64 J0)).heap[R0]? =some (.cells #[.slice a0 c0.length b0,.slice d0 g0.length e0] 27 (0,0))):=⟨kb V0⟩;have n1_:Aside0 ((((N4.setCell ⟨v1,0,none⟩ (.int .i64 E0)).setCell ⟨v1,1,none⟩ (.int .i64 G0)).setCell ⟨v1,2,none⟩ (.int .i64 J0)).heap[Y0]? =some (.cells #[.slice none 0 0,.slice none 0 0] 27 (0,0))):=⟨kb b1⟩;have n2_:Aside0 ((((N4.setCell ⟨v1,0,none⟩ (.int .i64 E0)).setCell ⟨v1,1,none⟩ (.int .i64 G0)).setCell ⟨v1,2,none⟩ (.int .i64 J0)).heap[v1]? =some (.cells #[.int .i64 E0,.int .i64 G0,.int .i64 J0] 55 (0,0))):=⟨kP x1⟩;have n3_:Aside0 (Below w.heap.size w (((N4.setCell ⟨v1,0,none⟩ (.int .i64 E0)).setCell ⟨v1,1,none⟩ (.int .i64 G0)).setCell ⟨v1,2,none⟩ (.int .i64 J0))):=⟨bl⟩;(try clear V0);(try clear b1);(try clear x1);(try clear HB);generalize (((N4.setCell ⟨v1,0,none⟩ (.int .i64 E0)).setCell ⟨v1,1,none⟩ (.int .i64 G0)).setCell ⟨v1,2,none⟩ (.int .i64 J0))=c5 at n0_ n1_ n2_ n3_ ⊢;have V0:=n0_;have b1:=n1_;have x1:=n2_;have HB:=n3_;clear n0_ n1_ n2_ n3_;replace V0:=qa (blk_drew V0.out);replace b1:=qa (blk_drew b1.out);replace x1:=qa (blk_drew x1.out);replace HB:=qa (below_drew1 HB.out);refine start_ (n:=8) (S:=fun w'=>w'.cell? ⟨R0,0,none⟩=some (.slice a0 c0.length b0)∧w'.cell? ⟨R0,1,none⟩=some (.slice d0 g0.length e0)) (ds:=[]) _ kr_ rfl rfl ⟨(blk_cell V0.out 0).trans rfl,(blk_cell V0.out 1).trans rfl⟩ (fun hHeld=>?_);refine with_tabW impl_DeskLine.tab9 impl_DeskLine.bits9 (fun HT_ HW_=>?_);generalize c5.drew=d5 at V0 b1 x1 HB hHeld ⊢;refine pur 2 32 (bz 8 4) HT_ ?_;refine pur 4 34 (bz 8 20) HT_ ?_;refine tk 0 30 (bz 8 21) hHeld (take_ofW HT_.out HW_.out kr_) ?_;refine tk 3 33 (bz 8 29) hHeld (take_ofW HT_.out HW_.out kr_) ?_;(refine o1 1 (some 31) (bz 8 31) (one_of HT_.out kr_) fun K hK=>?_);refine goes_ Tryz.func54 kr_ rfl #[.agg #[.slice a0 c0.length b0,.slice d0 g0.length e0]] (by rfl) rfl rfl am ?_
   with_reducible refine(impl_copyDesk.calls k _ _ c0 _ _ g0 t4 v4 _ ?a2 ?b2 ?c2 ?d2 w4.out).mono ?_
   (case a2=>exact cx (Kd.C_below x0.out HB.out));(case b2=>exact y0.out);(case c2=>exact cx (Kd.C_below A0.out HB.out));(case d2=>exact B0.out);rintro e e5 ⟨g5,j5,rfl,l2,n2,hb⟩;refine⟨_,rfl,?_⟩;have l5:=qa (Kd.R_lower l2 (below_size (bl)));have n5:=qa (Kd.S_lower n2 (below_size (bl)));replace V0:=qbb V0 hb;replace b1:=qbb b1 hb;replace x1:=qbb x1 hb;replace HB:=bs hb;(try clear hb);(try clear p5);(try clear hk);(try clear hi);(try clear l2);(try clear n2);refine hK.out _ _ ⟨(blk_cell V0.out 0).trans rfl,(blk_cell V0.out 1).trans rfl⟩ (fun hHeld=>?_);clear hK K;refine nm 31 ?_;(refine o1 5 (some 35) (bz 8 63) (one_of HT_.out kr_) fun K hK=>?_);(refine gsb Tryz.func55 (impl_answer.calls k _ _ c0 j0 x4 _ (cx (Kd.C_below x0.out HB.out)) y0.out y4.out (GL_below hG_ (bl))) fun q5 hb=>?_);replace l5:=qa (Kd.R_below (kR l5) hb);replace n5:=qa (Kd.S_below (kS n5) hb);replace V0:=qbb V0 hb;replace b1:=qbb b1 hb;replace x1:=qbb x1 hb;replace HB:=bs hb;(try clear hb);(try clear p5);(try clear hk);(try clear hi);obtain⟨r5,s5,t5⟩:=Kd.R_slice l5.out;(first|subst t5|(injection t5 with f1_ f2_ f3_;have f4_:=f1_.symm;have f5_:=f3_.symm;clear f1_ f2_ f3_;subst f4_;subst f5_));obtain⟨v5,w5,x5⟩:=Kd.S_slice n5.out;(first|subst x5|(injection x5 with f1_ f2_ f3_;have f4_:=f1_.symm;have f5_:=f3_.symm;clear f1_ f2_ f3_;subst f4_;subst f5_));refine hK.out _ _ ⟨(blk_cell V0.out 0).trans rfl,(blk_cell V0.out 1).trans rfl⟩ (fun hHeld=>?_);clear hK K;refine nm 35 ?_;(refine o1 6 none (bz 8 127) (one_of HT_.out kr_) fun K hK=>?_);have y5:q5.cell? ⟨Y0,0,none⟩=some (.slice none 0 0):=(blk_cell b1.out 0).trans rfl;have A5:=blk_frozen b1.out 0;have B5:=e1.out;have C5:=E1.out;have D5:=g1.out;have E5:=D1.out;have G5:q5.cell? ⟨Y0,1,none⟩=some (.slice none 0 0):=(blk_cell b1.out 1).trans rfl;have J5:=blk_frozen b1.out 1;have K5:=e1.out;have L5:=E1.out;have M5:=g1.out;have N5:=D1.out;refine skip_ (w1:=?_) (by rfl) rfl ?_ ?_;rotate_left
   ·go_simp
    rfl
   refine hK.out _ _ ⟨((cell_far (p:=⟨Y0,_,none⟩) e1.out _).trans (((cell_far (p:=⟨Y0,_,none⟩) e1.out _).trans (hHeld.1)))),((cell_far (p:=⟨Y0,_,none⟩) e1.out _).trans (((cell_far (p:=⟨Y0,_,none⟩) e1.out _).trans (hHeld.2))))⟩ (fun hHeld=>?_);clear hK K;refine pur 7 5 (bz 8 255) HT_ ?_;refine done_ (done_of HT_.out kr_) ?_
   try go_wp2
   refine bodyPost_ret (results_ct rfl _ _ Y0 27 #[.slice r5 t4.length s5,.slice v5 v4.length w5] (0,0) _ rfl (kP b1) Tryz.underlying27 rfl kr_) rfl ?_;exact⟨_,_,z1_,kFR l5 b1 (fun _ hk=>trivial),Kd.Q_of_R ((Kd.S_R (kFS n5 b1 (fun _ hk=>hk.1)))),bl⟩
 ·simp only[Option.some.injEq,Prod.mk.injEq]at H;obtain⟨rfl,rfl,rfl⟩:=H
  go_enter Tryz.func11,Tryz.ntmps11
  go_wp2_with(first|(refine bx 2 #[.slice a0 c0.length b0,.slice d0 g0.length e0] 27 ?_;intro R0 hg P5 hbox hb;have V0:=qa (hbox);have W0:=gw hg;have X0:=gw hg;replace HB:=bs hb;clear hb hbox hg)|(refine bx 4 #[.slice none 0 0,.slice none 0 0] 27 ?_;intro Y0 hg Q5 hbox hb;have b1:=qa (hbox);have c1:=gw hg;have d1:=gw hg;replace HB:=bs hb;have e1:=qnl hg V0;have g1:=qng hg V0;replace V0:=qbb V0 hb;clear hb hbox hg;have R5:=e1.out;have U5:=g1.out;obtain⟨V5,W5,X5,Y5⟩:=qk2 V0)|(refine gb 11 Tryz.func37 (impl_DeskOk.calls k _ _ c0 _ _ g0 false _ (cx (Kd.C_below x0.out HB.out)) y0.out (cx (Kd.C_below A0.out HB.out)) B0.out D0.out) fun a6 hb=>?_;replace V0:=qbb V0 hb;replace b1:=qbb b1 hb;replace HB:=bs hb;obtain⟨b6,c6,d6,e6⟩:=qk2 b1))
  refine bodyPost_ret (results_ct rfl _ _ Y0 27 #[.slice none 0 0,.slice none 0 0] (0,0) _ rfl (kP b1) Tryz.underlying27 rfl kr_) rfl ?_;exact⟨_,_,z1_,z4_,Kd.Q_of_R ((Kd.S_R z7_)),bl⟩

def laws_sameInts.l0:Nat→List Int→List Int→Int→Option (Bool)
 |0,_,_,_=>none
 |k+1,a0,b0,c0=>if c0<(a0.length:Int)then(if 0≤c0 then(if c0<(b0.length:Int)then(if(rd a0 c0)=(rd b0 c0)then(laws_sameInts.l0 k a0 b0 (wrap64 (c0+1)))else(some false))else(none))else(none))else(some true)
def laws_sameInts.f (k:Nat) (a0:List Int) (b0:List Int):Option (Bool):=if(a0.length:Int)=(b0.length:Int)then(laws_sameInts.l0 k a0 b0 0)else(some false)
theorem laws_sameInts.calls (k:Nat) (a0:Option Addr) (b0:Nat) (c0:List Int) (d0:Option Addr) (e0:Nat) (g0:List Int) (r:Bool) (w:World) (j0:Kd.C (Kd.int .i64) w a0 c0.length c0) (n0:c0.length≤b0) (p0:Kd.C (Kd.int .i64) w d0 g0.length g0) (q0:g0.length≤e0) (h:laws_sameInts.f k c0 g0=some r):
  Calls Tryz.prog 67 #[.slice a0 c0.length b0,.slice d0 g0.length e0] w fun e w'=>e= .returned (.bool r)∧Drawn0 w w':=by
 have r0:=qa j0;have s0:=qa n0;clear j0 n0;have t0:=qa p0;have v0:=qa q0;clear p0 q0;have H:=h;unfold laws_sameInts.f at H;clear h
 by_cases w0:(c0.length:Int)=(g0.length:Int)
 ·rw[if_pos w0]at H;have x0:((c0.length:Int)==(g0.length:Int))=true:=beq_iff_eq.mpr w0;have y0:((c0.length:Int) != (g0.length:Int))=false:=bne_eq_false_iff_eq.mpr w0;(have A0:(c0.length==g0.length)=true:=by first|simpa using w0|(simp at w0 ⊢;omega));clear w0;have H':=qa H;clear H
  go_enter Tryz.func67,Tryz.ntmps67
  go_wp2
  repeat(go_quiet(fail);try go_wp2)
  go_loopg [5] k (fun kq B0 w'=>∃(C0:Int),B0= .int .i64 C0∧Aside0 (laws_sameInts.l0 kq c0 g0 C0=some r)∧Aside0 (kq≤k)∧Drawn0 w w')
  case atStart=>exact⟨(0),(sd),H',⟨Nat.le_refl _⟩,dr⟩
  case round=>
   clear H';obtain⟨C0,rfl,HA,HK1,⟨m1,rfl⟩⟩:=hrel;obtain⟨k1,rfl,H⟩:=kz gk HA;clear HA;simp only[laws_sameInts.l0]at H;replace H:=qe H;obtain⟨D0,H⟩|⟨D0,H⟩:=H
   ·replace H:=qd H;obtain⟨E0,H⟩:=H;replace H:=qd H;obtain⟨G0,H⟩:=H;replace H:=qq H;obtain⟨J0,K0,H⟩|⟨L0,J0,K0,H⟩:=H
    ·have H':=qa H;clear H;obtain⟨M0,⟨⟩,N0,P0,Q0⟩:=ai r0.out C0;obtain⟨R0,⟨⟩,U0,V0,W0⟩:=ai t0.out C0;go_wp2
     repeat(go_quiet(fail);try go_wp2)
     go_roundg k1
     case measure=>have:=HK1.out;omega
     case rel=>exact⟨(wrap64 (C0+1)),(sd),H',⟨by have:=HK1.out;omega⟩,dr⟩
    ·obtain rfl:=sj H;obtain⟨M0,⟨⟩,N0,P0,Q0⟩:=ai r0.out C0;obtain⟨R0,⟨⟩,U0,V0,W0⟩:=ai t0.out C0;go_wp2
     repeat(go_quiet(fail);try go_wp2)
     go_ret;exact⟨sd,dr⟩
   ·obtain rfl:=sj H;go_wp2
    repeat(go_quiet(fail);try go_wp2)
    go_ret;exact⟨sd,dr⟩
 ·rw[if_neg w0]at H;have x0:((c0.length:Int)==(g0.length:Int))=false:=beq_eq_false_iff_ne.mpr w0;have y0:((c0.length:Int) != (g0.length:Int))=true:=bne_iff_ne.mpr w0;(have A0:(c0.length==g0.length)=false:=by first|simpa using w0|(simp at w0 ⊢;omega));obtain rfl:=sj H
  go_enter Tryz.func67,Tryz.ntmps67
  go_wp2
  repeat(go_quiet(fail);try go_wp2)
  go_ret;exact⟨sd,dr⟩

def laws_sameRows.l0:Nat→List (List Int)→List (List Int)→Int→Option (Bool)
 |0,_,_,_=>none
 |k+1,a0,b0,c0=>if c0<(a0.length:Int)then(if 0≤c0 then(if c0<(b0.length:Int)then((laws_sameInts.f k (rd_L1 a0 c0) (rd_L1 b0 c0)).bind fun d0=>(if d0=true then(laws_sameRows.l0 k a0 b0 (wrap64 (c0+1)))else(some false)))else(none))else(none))else(some true)
def laws_sameRows.f (k:Nat) (a0:List (List Int)) (b0:List (List Int)):Option (Bool):=if(a0.length:Int)=(b0.length:Int)then(laws_sameRows.l0 k a0 b0 0)else(some false)
theorem laws_sameRows.calls (k:Nat) (a0:Option Addr) (b0:Nat) (c0:List (List Int)) (d0:Option Addr) (e0:Nat) (g0:List (List Int)) (r:Bool) (w:World) (j0:Kd.C (Kd.slice 3 (Kd.int .i64)) w a0 c0.length c0) (n0:c0.length≤b0) (p0:Kd.C (Kd.slice 3 (Kd.int .i64)) w d0 g0.length g0) (q0:g0.length≤e0) (h:laws_sameRows.f k c0 g0=some r):
  Calls Tryz.prog 68 #[.slice a0 c0.length b0,.slice d0 g0.length e0] w fun e w'=>e= .returned (.bool r)∧Drawn0 w w':=by
 have r0:=qa j0;have s0:=qa n0;clear j0 n0;have t0:=qa p0;have v0:=qa q0;clear p0 q0;have H:=h;unfold laws_sameRows.f at H;clear h
 by_cases w0:(c0.length:Int)=(g0.length:Int)
 ·rw[if_pos w0]at H;have x0:((c0.length:Int)==(g0.length:Int))=true:=beq_iff_eq.mpr w0;have y0:((c0.length:Int) != (g0.length:Int))=false:=bne_eq_false_iff_eq.mpr w0;(have A0:(c0.length==g0.length)=true:=by first|simpa using w0|(simp at w0 ⊢;omega));clear w0;have H':=qa H;clear H
  go_enter Tryz.func68,Tryz.ntmps68
  go_wp2
  repeat(go_quiet(fail);try go_wp2)
  go_loopg [5] k (fun kq B0 w'=>∃(C0:Int),B0= .int .i64 C0∧Aside0 (laws_sameRows.l0 kq c0 g0 C0=some r)∧Aside0 (kq≤k)∧Drawn0 w w')
  case atStart=>exact⟨(0),(sd),H',⟨Nat.le_refl _⟩,dr⟩
  case round=>
   clear H';obtain⟨C0,rfl,HA,HK1,⟨m1,rfl⟩⟩:=hrel;obtain⟨k1,rfl,H⟩:=kz gk HA;clear HA;simp only[laws_sameRows.l0]at H;replace H:=qe H;obtain⟨D0,H⟩|⟨D0,H⟩:=H
   ·replace H:=qd H;obtain⟨E0,H⟩:=H;replace H:=qd H;obtain⟨G0,H⟩:=H;replace H:=qb H;obtain⟨J0,K0,H⟩:=H;replace H:=qc H;obtain⟨rfl,H⟩|⟨rfl,H⟩:=H
    ·have H':=qa H;clear H;obtain⟨L0,M0,N0,⟨⟩,P0,Q0,R0,U0,V0⟩:=cg_L1 r0.out C0;obtain⟨W0,X0,Y0,⟨⟩,a1,b1,c1,d1,e1⟩:=cg_L1 t0.out C0
     go_wp2_with(first|(go_at_call 67;(with_reducible refine(laws_sameInts.calls k1 _ _ (rd_L1 c0 C0) _ _ (rd_L1 g0 C0) true _ ?g1 ?j1 ?l1 ?n1 K0.out).mono ?_);(case g1=>exact cx Q0.out);(case j1=>exact R0.out);(case l1=>exact cx b1.out);(case n1=>exact c1.out);rintro e w' ⟨rfl,⟨nd,rfl⟩⟩;(try exact dn)))
     repeat(go_quiet(first|(go_at_call 67;(with_reducible refine(laws_sameInts.calls k1 _ _ (rd_L1 c0 C0) _ _ (rd_L1 g0 C0) true _ ?g1 ?j1 ?l1 ?n1 K0.out).mono ?_);(case g1=>exact cx Q0.out);(case j1=>exact R0.out);(case l1=>exact cx b1.out);(case n1=>exact c1.out);rintro e w' ⟨rfl,⟨nd,rfl⟩⟩;(try exact dn)));try go_wp2_with(first|(go_at_call 67;(with_reducible refine(laws_sameInts.calls k1 _ _ (rd_L1 c0 C0) _ _ (rd_L1 g0 C0) true _ ?g1 ?j1 ?l1 ?n1 K0.out).mono ?_);(case g1=>exact cx Q0.out);(case j1=>exact R0.out);(case l1=>exact cx b1.out);(case n1=>exact c1.out);rintro e w' ⟨rfl,⟨nd,rfl⟩⟩;(try exact dn))))
     go_roundg k1
     case measure=>have:=HK1.out;omega
     case rel=>exact⟨(wrap64 (C0+1)),(sd),H',⟨by have:=HK1.out;omega⟩,dr⟩
    ·obtain rfl:=sj H;obtain⟨L0,M0,N0,⟨⟩,P0,Q0,R0,U0,V0⟩:=cg_L1 r0.out C0;obtain⟨W0,X0,Y0,⟨⟩,a1,b1,c1,d1,e1⟩:=cg_L1 t0.out C0
     go_wp2_with(first|(go_at_call 67;(with_reducible refine(laws_sameInts.calls k1 _ _ (rd_L1 c0 C0) _ _ (rd_L1 g0 C0) false _ ?g1 ?j1 ?l1 ?n1 K0.out).mono ?_);(case g1=>exact cx Q0.out);(case j1=>exact R0.out);(case l1=>exact cx b1.out);(case n1=>exact c1.out);rintro e w' ⟨rfl,⟨nd,rfl⟩⟩;(try exact dn)))
     repeat(go_quiet(first|(go_at_call 67;(with_reducible refine(laws_sameInts.calls k1 _ _ (rd_L1 c0 C0) _ _ (rd_L1 g0 C0) false _ ?g1 ?j1 ?l1 ?n1 K0.out).mono ?_);(case g1=>exact cx Q0.out);(case j1=>exact R0.out);(case l1=>exact cx b1.out);(case n1=>exact c1.out);rintro e w' ⟨rfl,⟨nd,rfl⟩⟩;(try exact dn)));try go_wp2_with(first|(go_at_call 67;(with_reducible refine(laws_sameInts.calls k1 _ _ (rd_L1 c0 C0) _ _ (rd_L1 g0 C0) false _ ?g1 ?j1 ?l1 ?n1 K0.out).mono ?_);(case g1=>exact cx Q0.out);(case j1=>exact R0.out);(case l1=>exact cx b1.out);(case n1=>exact c1.out);rintro e w' ⟨rfl,⟨nd,rfl⟩⟩;(try exact dn))))
     go_ret;exact⟨sd,dr⟩
   ·obtain rfl:=sj H;go_wp2
    repeat(go_quiet(fail);try go_wp2)
    go_ret;exact⟨sd,dr⟩
 ·rw[if_neg w0]at H;have x0:((c0.length:Int)==(g0.length:Int))=false:=beq_eq_false_iff_ne.mpr w0;have y0:((c0.length:Int) != (g0.length:Int))=true:=bne_iff_ne.mpr w0;(have A0:(c0.length==g0.length)=false:=by first|simpa using w0|(simp at w0 ⊢;omega));obtain rfl:=sj H
  go_enter Tryz.func68,Tryz.ntmps68
  go_wp2
  repeat(go_quiet(fail);try go_wp2)
  go_ret;exact⟨sd,dr⟩

def laws_sameDesk.f (k:Nat) (a0:List Int) (b0:List (List Int)) (c0:List Int) (d0:List (List Int)):Option (Bool):=(laws_sameInts.f k a0 c0).bind fun e0=>(if e0=true then((laws_sameRows.f k b0 d0).bind fun g0=>(some g0))else(some false))
theorem laws_sameDesk.calls (k:Nat) (a0:Option Addr) (b0:Nat) (c0:List Int) (d0:Option Addr) (e0:Nat) (g0:List (List Int)) (j0:Option Addr) (l0:Nat) (n0:List Int) (p0:Option Addr) (q0:Nat) (r0:List (List Int)) (r:Bool) (w:World) (s0:Kd.C (Kd.int .i64) w a0 c0.length c0) (t0:c0.length≤b0) (v0:Kd.C (Kd.slice 3 (Kd.int .i64)) w d0 g0.length g0) (w0:g0.length≤e0) (x0:Kd.C (Kd.int .i64) w j0 n0.length n0) (y0:n0.length≤l0) (A0:Kd.C (Kd.slice 3 (Kd.int .i64)) w p0 r0.length r0) (B0:r0.length≤q0) (h:laws_sameDesk.f k c0 g0 n0 r0=some r):
  Calls Tryz.prog 18 #[.agg #[.slice a0 c0.length b0,.slice d0 g0.length e0],.agg #[.slice j0 n0.length l0,.slice p0 r0.length q0]] w fun e w'=>e= .returned (.bool r)∧Below w.heap.size w w':=by
 have C0:=Tryz.underlying27;have D0:=qa s0;have E0:=qa t0;clear s0 t0;have G0:=qa v0;have J0:=qa w0;clear v0 w0;have K0:=qa x0;have L0:=qa y0;clear x0 y0;have M0:=qa A0;have N0:=qa B0;clear A0 B0;have HB:=qa (Below.refl w.heap.size w);have H:=h;unfold laws_sameDesk.f at H;clear h;replace H:=qb H;obtain⟨P0,Q0,H⟩:=H;replace H:=qc H;obtain⟨rfl,H⟩|⟨rfl,H⟩:=H
 ·replace H:=qb H;obtain⟨R0,U0,H⟩:=H;obtain rfl:=sj H
  go_enter Tryz.func18,Tryz.ntmps18
  go_wp2_with(first|(refine bx 2 #[.slice a0 c0.length b0,.slice d0 g0.length e0] 27 ?_;intro V0 hg W0 hbox hb;have X0:=qa (hbox);have Y0:=gw hg;have a1:=gw hg;replace HB:=bs hb;clear hb hbox hg)|(refine bx 3 #[.slice j0 n0.length l0,.slice p0 r0.length q0] 27 ?_;intro b1 hg c1 hbox hb;have d1:=qa (hbox);have e1:=gw hg;have g1:=gw hg;replace HB:=bs hb;have j1:=qnl hg X0;have l1:=qng hg X0;replace X0:=qbb X0 hb;clear hb hbox hg;have n1:=j1.out;have p1:=l1.out;obtain⟨q1,r1,s1,t1⟩:=qk2 X0;obtain⟨v1,w1,x1,y1⟩:=qk2 d1)|(refine gd 9 Tryz.func67 (laws_sameInts.calls k _ _ c0 _ _ n0 true _ (cx (Kd.C_below D0.out HB.out)) E0.out (cx (Kd.C_below K0.out HB.out)) L0.out Q0.out) fun nd=>?_)|(go_at_call 68;(with_reducible refine(laws_sameRows.calls k _ _ g0 _ _ r0 R0 _ ?A1 ?B1 ?C1 ?D1 U0.out).mono ?_);(case A1=>exact cx (Kd.C_below G0.out (bl)));(case B1=>exact J0.out);(case C1=>exact cx (Kd.C_below M0.out (bl)));(case D1=>exact N0.out);rintro e w' ⟨rfl,⟨nd,rfl⟩⟩))
  go_ret;exact⟨z1_,bl⟩
 ·obtain rfl:=sj H
  go_enter Tryz.func18,Tryz.ntmps18
  go_wp2_with(first|(refine bx 2 #[.slice a0 c0.length b0,.slice d0 g0.length e0] 27 ?_;intro V0 hg E1 hbox hb;have X0:=qa (hbox);have Y0:=gw hg;have a1:=gw hg;replace HB:=bs hb;clear hb hbox hg)|(refine bx 3 #[.slice j0 n0.length l0,.slice p0 r0.length q0] 27 ?_;intro b1 hg G1 hbox hb;have d1:=qa (hbox);have e1:=gw hg;have g1:=gw hg;replace HB:=bs hb;have j1:=qnl hg X0;have l1:=qng hg X0;replace X0:=qbb X0 hb;clear hb hbox hg;have J1:=j1.out;have K1:=l1.out;obtain⟨L1,M1,N1,P1⟩:=qk2 X0;obtain⟨Q1,R1,U1,V1⟩:=qk2 d1)|(refine gd 9 Tryz.func67 (laws_sameInts.calls k _ _ c0 _ _ n0 false _ (cx (Kd.C_below D0.out HB.out)) E0.out (cx (Kd.C_below K0.out HB.out)) L0.out Q0.out) fun nd=>?_))
  go_ret;exact⟨z1_,bl⟩

def spec_l1In.f (a0:Int) (b0:Int) (c0:Int):Option (Bool):=if a0≥b0 then(some (decide (a0≤c0)))else(some false)
theorem spec_l1In.calls (a0:Int) (b0:Int) (c0:Int) (r:Bool) (w:World) (h:spec_l1In.f a0 b0 c0=some r):
  Calls Tryz.prog 84 #[.int .i64 a0,.int .i64 b0,.int .i64 c0] w fun e w'=>e= .returned (.bool r)∧Drawn0 w w':=by
 have H:=h;unfold spec_l1In.f at H;clear h;replace H:=qu H;obtain⟨d0,H⟩|⟨d0,H⟩:=H
 ·obtain rfl:=sj H
  go_enter Tryz.func84,Tryz.ntmps84
  go_wp2;go_ret;exact⟨sd,dr⟩
 ·obtain rfl:=sj H
  go_enter Tryz.func84,Tryz.ntmps84
  go_wp2;go_ret;exact⟨sd,dr⟩

def spec_RowOk.l0:Nat→List Int→Int→Option (Bool)
 |0,_,_=>none
 |k+1,a0,b0=>if b0<(a0.length:Int)then(if 0≤b0 then((spec_l1In.f (rd a0 b0) (-1000000000) 1000000000).bind fun c0=>(if c0=true then(spec_RowOk.l0 k a0 (wrap64 (b0+1)))else(some false)))else(none))else(some ((a0.length:Int)==24))
def spec_RowOk.f (k:Nat) (a0:List Int):Option (Bool):=spec_RowOk.l0 k a0 0
theorem spec_RowOk.mono_l:∀k,(∀a0 b0,LeO (spec_RowOk.l0 k a0 b0) (spec_RowOk.l0 (k+1) a0 b0))
 |0=>fun _ _ r h=>by simp[spec_RowOk.l0]at h
 |k+1=>by
  have ih0:=spec_RowOk.mono_l k
  ·intro a0 b0;unfold spec_RowOk.l0;exact mz
theorem spec_RowOk.mono:∀a0 k,LeO (spec_RowOk.f k a0) (spec_RowOk.f (k+1) a0):=by
 intro a0 k;have ih0:=spec_RowOk.mono_l k;unfold spec_RowOk.f;exact mz
theorem spec_RowOk.calls (k:Nat) (a0:Option Addr) (b0:Nat) (c0:List Int) (r:Bool) (w:World) (d0:Kd.C (Kd.int .i64) w a0 c0.length c0) (e0:c0.length≤b0) (h:spec_RowOk.f k c0=some r):
  Calls Tryz.prog 69 #[.slice a0 c0.length b0] w fun e w'=>e= .returned (.bool r)∧Drawn0 w w':=by
 have g0:=qa d0;have j0:=qa e0;clear d0 e0;have H:=h;unfold spec_RowOk.f at H;clear h;have H':=qa H;clear H
 go_enter Tryz.func69,Tryz.ntmps69
 go_wp2
 go_loopg [3] k (fun kq n0 w'=>∃(p0:Int),n0= .int .i64 p0∧Aside0 (spec_RowOk.l0 kq c0 p0=some r)∧Aside0 (kq≤k)∧Drawn0 w w')
 case atStart=>exact⟨(0),(sd),H',⟨Nat.le_refl _⟩,dr⟩
 case round=>
  clear H';obtain⟨p0,rfl,HA,HK1,⟨m1,rfl⟩⟩:=hrel;obtain⟨k1,rfl,H⟩:=kz gk HA;clear HA;simp only[spec_RowOk.l0]at H;replace H:=qe H;obtain⟨q0,H⟩|⟨q0,H⟩:=H
  ·replace H:=qd H;obtain⟨r0,H⟩:=H;replace H:=qb H;obtain⟨s0,t0,H⟩:=H;replace H:=qc H;obtain⟨rfl,H⟩|⟨rfl,H⟩:=H
   ·have H':=qa H;clear H;obtain⟨v0,⟨⟩,w0,x0,y0⟩:=ai g0.out p0
    go_wp2_with(first|(refine gd 14 Tryz.func84 (spec_l1In.calls (rd c0 p0) (-1000000000) 1000000000 true _ t0.out) fun nd=>?_))
    go_roundg k1
    case measure=>have:=HK1.out;omega
    case rel=>exact⟨(wrap64 (p0+1)),(sd),H',⟨by have:=HK1.out;omega⟩,dr⟩
   ·obtain rfl:=sj H;obtain⟨v0,⟨⟩,w0,x0,y0⟩:=ai g0.out p0
    go_wp2_with(first|(refine gd 14 Tryz.func84 (spec_l1In.calls (rd c0 p0) (-1000000000) 1000000000 false _ t0.out) fun nd=>?_))
    go_ret;exact⟨sd,dr⟩
  ·obtain rfl:=sj H;go_wp2;go_ret;exact⟨sd,dr⟩
def spec_DeskOk.l0:Nat→Int→List Int→List (List Int)→Option (Bool)
 |0,_,_,_=>none
 |k+1,a0,b0,c0=>if a0<(c0.length:Int)then(if 0≤a0 then((spec_RowOk.f k (rd_L1 c0 a0)).bind fun d0=>(if d0=true then(spec_DeskOk.l0 k (wrap64 (a0+1)) b0 c0)else(some false)))else(none))else((spec_RowOk.f k b0).bind fun e0=>(if e0=true then(some (decide ((c0.length:Int)≤8)))else(some false)))
def spec_DeskOk.f (k:Nat) (a0:List Int) (b0:List (List Int)):Option (Bool):=spec_DeskOk.l0 k 0 a0 b0
theorem spec_DeskOk.calls (k:Nat) (a0:Option Addr) (b0:Nat) (c0:List Int) (d0:Option Addr) (e0:Nat) (g0:List (List Int)) (r:Bool) (w:World) (j0:Kd.C (Kd.int .i64) w a0 c0.length c0) (n0:c0.length≤b0) (p0:Kd.C (Kd.slice 3 (Kd.int .i64)) w d0 g0.length g0) (q0:g0.length≤e0) (h:spec_DeskOk.f k c0 g0=some r):
  Calls Tryz.prog 20 #[.agg #[.slice a0 c0.length b0,.slice d0 g0.length e0]] w fun e w'=>e= .returned (.bool r)∧Below w.heap.size w w':=by
 have r0:=Tryz.underlying27;have s0:=qa j0;have t0:=qa n0;clear j0 n0;have v0:=qa p0;have w0:=qa q0;clear p0 q0;have HB:=qa (Below.refl w.heap.size w);have H:=h;unfold spec_DeskOk.f at H;clear h;have H':=qa H;clear H
 go_enter Tryz.func20,Tryz.ntmps20
 go_wp2_with(first|((with_reducible refine gate_dst (N:=1) rfl ?_);(try(refine gate_guard (by rfl) ?_;dsimp only));refine bx 1 #[.slice a0 c0.length b0,.slice d0 g0.length e0] 27 ?_;intro x0 hg y0 hbox hb;have A0:=qa (hbox);have B0:=gw hg;have C0:=gw hg;replace HB:=bs hb;clear hb hbox hg))
 go_loopg [3] k (fun kq D0 w'=>∃(E0:Int),D0= .int .i64 E0∧Aside0 (spec_DeskOk.l0 kq E0 c0 g0=some r)∧Aside0 (kq≤k)∧Aside0 (w'.heap[x0]? =some (.cells #[(.slice a0 c0.length b0),(.slice d0 g0.length e0)] 27 (0,0)))∧Aside0 (Below w.heap.size w w'))
 case atStart=>exact⟨(0),(sd),H',⟨Nat.le_refl _⟩,⟨bk⟩,⟨bl⟩⟩
 case round=>
  clear H';obtain⟨E0,rfl,HA,HK1,A0,HB⟩:=hrel;obtain⟨k1,rfl,H⟩:=kz gk HA;clear HA;simp only[spec_DeskOk.l0]at H;replace H:=qe H;obtain⟨G0,H⟩|⟨G0,H⟩:=H
  ·replace H:=qd H;obtain⟨J0,H⟩:=H;replace H:=qb H;obtain⟨K0,L0,H⟩:=H;replace H:=qc H;obtain⟨rfl,H⟩|⟨rfl,H⟩:=H
   ·have H':=qa H;clear H;obtain⟨M0,N0,P0,Q0⟩:=qk2 A0;obtain⟨R0,U0,V0,⟨⟩,W0,X0,Y0,a1,b1⟩:=cg_L1 v0.out E0;(try replace W0:=(HB.out.cell (World.block_lt_of_cell? w _ W0)).trans W0)
    go_wp2_with(first|(refine gd 16 Tryz.func69 (spec_RowOk.calls k1 _ _ (rd_L1 g0 E0) true _ (cx (Kd.C_below X0.out HB.out)) Y0.out L0.out) fun nd=>?_))
    go_roundg k1
    case measure=>have:=HK1.out;omega
    case rel=>exact⟨(wrap64 (E0+1)),(sd),H',⟨by have:=HK1.out;omega⟩,⟨bk⟩,⟨bl⟩⟩
   ·obtain rfl:=sj H;obtain⟨c1,d1,e1,g1⟩:=qk2 A0;obtain⟨R0,U0,V0,⟨⟩,W0,X0,Y0,a1,b1⟩:=cg_L1 v0.out E0;(try replace W0:=(HB.out.cell (World.block_lt_of_cell? w _ W0)).trans W0)
    go_wp2_with(first|(refine gd 16 Tryz.func69 (spec_RowOk.calls k1 _ _ (rd_L1 g0 E0) false _ (cx (Kd.C_below X0.out HB.out)) Y0.out L0.out) fun nd=>?_))
    go_ret;exact⟨z1_,bl⟩
  ·replace H:=qb H;obtain⟨j1,l1,H⟩:=H;replace H:=qc H;obtain⟨rfl,H⟩|⟨rfl,H⟩:=H
   ·obtain rfl:=sj H;obtain⟨n1,p1,q1,r1⟩:=qk2 A0
    go_wp2_with(first|(refine gd 20 Tryz.func69 (spec_RowOk.calls k1 _ _ c0 true _ (cx (Kd.C_below s0.out HB.out)) t0.out l1.out) fun nd=>?_))
    go_ret;exact⟨z1_,bl⟩
   ·obtain rfl:=sj H;obtain⟨s1,t1,v1,w1⟩:=qk2 A0
    go_wp2_with(first|(refine gd 20 Tryz.func69 (spec_RowOk.calls k1 _ _ c0 false _ (cx (Kd.C_below s0.out HB.out)) t0.out l1.out) fun nd=>?_))
    go_ret;exact⟨z1_,bl⟩

def impl_DividesOk.f (a0:Int) (b0:Int):Option (Bool):=(impl_numberOk.f a0).bind fun c0=>(if c0=true then((impl_numberOk.f b0).bind fun d0=>(if d0=true then(if a0=0 then(none)else(some ((Int.tmod b0 a0)==0)))else(some false)))else(some false))
theorem impl_DividesOk.calls (a0:Int) (b0:Int) (r:Bool) (w:World) (h:impl_DividesOk.f a0 b0=some r):
  Calls Tryz.prog 70 #[.int .i64 a0,.int .i64 b0] w fun e w'=>e= .returned (.bool r)∧Drawn0 w w':=by
 have H:=h;unfold impl_DividesOk.f at H;clear h;replace H:=qb H;obtain⟨c0,d0,H⟩:=H;replace H:=qc H;obtain⟨rfl,H⟩|⟨rfl,H⟩:=H
 ·replace H:=qb H;obtain⟨e0,g0,H⟩:=H;replace H:=qc H;obtain⟨rfl,H⟩|⟨rfl,H⟩:=H
  ·by_cases j0:a0=0
   ·rw[if_pos j0]at H;exact absurd H (by simp)
   ·rw[if_neg j0]at H;have l0:(a0==0)=false:=beq_eq_false_iff_ne.mpr j0;have n0:(a0 != 0)=true:=bne_iff_ne.mpr j0;obtain rfl:=sj H
    go_enter Tryz.func70,Tryz.ntmps70
    go_wp2_with(first|(refine gd 6 Tryz.func107 (impl_numberOk.calls a0 true _ d0.out) fun nd=>?_)|(go_at_call 107;(with_reducible refine gm (impl_numberOk.calls b0 true _ g0.out) fun nd=>?_)))
    go_ret;exact⟨sd,dr⟩
  ·obtain rfl:=sj H
   go_enter Tryz.func70,Tryz.ntmps70
   go_wp2_with(first|(refine gd 6 Tryz.func107 (impl_numberOk.calls a0 true _ d0.out) fun nd=>?_)|(go_at_call 107;(with_reducible refine gm (impl_numberOk.calls b0 false _ g0.out) fun nd=>?_)))
   go_ret;exact⟨sd,dr⟩
 ·obtain rfl:=sj H
  go_enter Tryz.func70,Tryz.ntmps70
  go_wp2_with(first|(refine gd 6 Tryz.func107 (impl_numberOk.calls a0 false _ d0.out) fun nd=>?_))
  go_ret;exact⟨sd,dr⟩

def laws_alive.f  :Option (Bool):=(impl_DividesOk.f 3 12).bind fun a0=>(if a0=true then((impl_DividesOk.f 5 12).bind fun b0=>(some (!b0)))else(some false))
theorem laws_alive.calls  (r:Bool) (w:World) (h:laws_alive.f  =some r):
  Calls Tryz.prog 22 #[] w fun e w'=>e= .returned (.bool r)∧Drawn0 w w':=by
 have H:=h;unfold laws_alive.f at H;clear h;replace H:=qb H;obtain⟨a0,b0,H⟩:=H;replace H:=qc H;obtain⟨rfl,H⟩|⟨rfl,H⟩:=H
 ·replace H:=qb H;obtain⟨c0,d0,H⟩:=H;obtain rfl:=sj H
  go_enter Tryz.func22,Tryz.ntmps22
  go_wp2_with(first|(refine gd 1 Tryz.func70 (impl_DividesOk.calls 3 12 true _ b0.out) fun nd=>?_)|(go_at_call 70;(with_reducible refine gm (impl_DividesOk.calls 5 12 c0 _ d0.out) fun nd=>?_)))
  go_ret;exact⟨sd,dr⟩
 ·obtain rfl:=sj H
  go_enter Tryz.func22,Tryz.ntmps22
  go_wp2_with(first|(refine gd 1 Tryz.func70 (impl_DividesOk.calls 3 12 false _ b0.out) fun nd=>?_))
  go_ret;exact⟨sd,dr⟩

/-- A state of type 105 at block g of W; what its slices lead to came in by w0. -/
def IsS105 (a0 W:World) (g:Nat) (f0:List Int) (f1:Int):Prop:=∃b0 c0,W.heap[g]? =some (.cells #[.slice b0 f0.length c0,.int .i64 f1] 105 (0,0))∧a0.heap.size≤g∧Kd.C (Kd.int .u8) a0 b0 f0.length f0
theorem IsS105.grown {a0 W:World} {g:Nat} {f0:List Int} {f1:Int} {W1:World} {row:Option Nat} (h:IsS105 a0 W g f0 f1) (hw:W.grownBy W1 row) (hne:some g≠row):IsS105 a0 W1 g f0 f1:=by
 obtain⟨b0,c0,hb,hg,d0⟩:=h;exact⟨b0,c0,blk_grown hb hw hne,hg,d0⟩
theorem IsS105.own_neN {a0 W:World} {g:Nat} {f0:List Int} {f1:Int} {α:Type} {d:Kd α} {e:Nat} {base:Nat} {ok:Nat→Prop} {v:Value} {xs:List α} (h:IsS105 a0 W g f0 f1) (ho:Kd.N d e W base ok v xs) (ht:e≠105):some g≠v.ownBlock:=by
 obtain⟨b0,c0,hb,hg,d0⟩:=h;exact Kd.N_ne ho hb ht
theorem IsS105.fresh {a0 W:World} {g:Nat} {f0:List Int} {f1:Int} (h:IsS105 a0 W g f0 f1):∀k,W.heap.size≤k→k≠g:=by
 obtain⟨b0,c0,hb,hg,d0⟩:=h;exact Kd.freshB hb
theorem IsS105.kept {a0 W:World} {g:Nat} {f0:List Int} {f1:Int} {W1:World} {S:Nat→Prop} (h:IsS105 a0 W g f0 f1) (hk:Kept W W1 S) (hne:¬S g):IsS105 a0 W1 g f0 f1:=by
 obtain⟨b0,c0,hb,hg,d0⟩:=h;exact⟨b0,c0,blk_kept hb hk hne,hg,d0⟩
theorem IsS105.below {a0 W:World} {g:Nat} {f0:List Int} {f1:Int} {W1:World} (h:IsS105 a0 W g f0 f1) (hw:Below W.heap.size W W1):IsS105 a0 W1 g f0 f1:=h.grown (grown_of_below hw none) (by simp)
theorem IsS105.alloc {a0 W:World} {g:Nat} {f0:List Int} {f1:Int} (h:IsS105 a0 W g f0 f1) (o:Obj):IsS105 a0 (W.alloc o) g f0 f1:=h.below (below_alloc (Below.refl _ _) o)
theorem IsS105.drewN {a0 W:World} {g:Nat} {f0:List Int} {f1:Int} (h:IsS105 a0 W g f0 f1) (m:Nat):IsS105 a0 (W.drewN m) g f0 f1:=h
theorem IsS105.drew {a0 W:World} {g:Nat} {f0:List Int} {f1:Int} (h:IsS105 a0 W g f0 f1):IsS105 a0 W.drew g f0 f1:=h
theorem IsS105.at_ {a0 W:World} {g:Nat} {f0:List Int} {f1:Int} {w':World} {m:Nat} (hq:W.drewN m=w') (h:IsS105 a0 W g f0 f1):IsS105 a0 w' g f0 f1:=by subst hq;exact IsS105.drewN h m
theorem IsS105.apart {a0 W:World} {g:Nat} {f0:List Int} {f1:Int} {α:Type} {d:Kd α} {e:Nat} {base:Nat} {ok:Nat→Prop} {v:Value} {xs:List α} (h:IsS105 a0 W g f0 f1) (ho:d.R e W base ok v xs) (ht:∀q,q∈e::d.E→q≠105):d.R e W base (fun k=>ok k∧k≠g) v xs:=by
 obtain⟨b0,c0,hb,hg,d0⟩:=h;exact Kd.R_types ho hb ht
theorem IsS105.own_ne {a0 W:World} {g:Nat} {f0:List Int} {f1:Int} {α:Type} {d:Kd α} {e:Nat} {base:Nat} {ok:Nat→Prop} {v:Value} {xs:List α} (h:IsS105 a0 W g f0 f1) (ho:d.R e W base ok v xs) (ht:e≠105):some g≠v.ownBlock:=by
 obtain⟨b0,c0,hb,hg,d0⟩:=h;exact Kd.R_ne ho hb ht
theorem IsS105.apartQ {a0 W:World} {g:Nat} {f0:List Int} {f1:Int} {α:Type} {d:Kd α} {e:Nat} {base:Nat} {ok:Nat→Prop} {v:Value} {xs:List α} (h:IsS105 a0 W g f0 f1) (ho:d.Q e W base ok v xs) (ht:∀q,q∈e::d.E→q≠105):d.Q e W base (fun k=>ok k∧k≠g) v xs:=by
 obtain⟨b0,c0,hb,hg,d0⟩:=h;exact Kd.Q_types ho hb ht
theorem IsS105.own_neQ {a0 W:World} {g:Nat} {f0:List Int} {f1:Int} {α:Type} {d:Kd α} {e:Nat} {base:Nat} {ok:Nat→Prop} {v:Value} {xs:List α} (h:IsS105 a0 W g f0 f1) (ho:d.Q e W base ok v xs) (ht:e≠105):some g≠v.ownBlock:=by
 obtain⟨b0,c0,hb,hg,d0⟩:=h;exact Kd.Q_ne ho hb ht
theorem IsS105.apartS {a0 W:World} {g:Nat} {f0:List Int} {f1:Int} {α:Type} {d:Kd α} {e:Nat} {base:Nat} {ok:Nat→Prop} {v:Value} {xs:List α} (h:IsS105 a0 W g f0 f1) (ho:d.S e W base ok v xs) (ht:∀q,q∈e::d.E→q≠105):d.S e W base (fun k=>ok k∧k≠g) v xs:=by
 obtain⟨b0,c0,hb,hg,d0⟩:=h;exact Kd.S_types ho hb ht
theorem IsS105.own_neS {a0 W:World} {g:Nat} {f0:List Int} {f1:Int} {α:Type} {d:Kd α} {e:Nat} {base:Nat} {ok:Nat→Prop} {v:Value} {xs:List α} (h:IsS105 a0 W g f0 f1) (ho:d.S e W base ok v xs) (ht:e≠105):some g≠v.ownBlock:=by
 obtain⟨b0,c0,hb,hg,d0⟩:=h;exact Kd.S_ne ho hb ht
theorem IsS105.lt {a0 W:World} {g:Nat} {f0:List Int} {f1:Int} (h:IsS105 a0 W g f0 f1):g<W.heap.size:=by
 obtain⟨b0,c0,hb,hg,d0⟩:=h;exact blk_lt hb
theorem IsS105.ge {a0 W:World} {g:Nat} {f0:List Int} {f1:Int} (h:IsS105 a0 W g f0 f1):a0.heap.size≤g:=by
 obtain⟨b0,c0,hb,hg,d0⟩:=h;exact hg
theorem IsS105.ne_blk {a0 W:World} {g:Nat} {f0:List Int} {f1:Int} {a:Nat} {cs:Array Value} {t:TypeId} {fr:Nat×Nat} (h:IsS105 a0 W g f0 f1) (b0:W.heap[a]? =some (.cells cs t fr)) (ht:t≠105):g≠a:=by
 obtain⟨c0,d0,hb,hg,e0⟩:=h;rintro rfl;rw[hb]at b0;(injection b0 with b0);(injection b0 with _ g0);exact ht g0.symm
theorem IsS105.far {a0 W:World} {g:Nat} {f0:List Int} {f1:Int} {p:Addr} (h:IsS105 a0 W g f0 f1) (hne:g≠p.block) (u:Value):IsS105 a0 (W.setCell p u) g f0 f1:=by
 obtain⟨b0,c0,hb,hg,d0⟩:=h;exact⟨b0,c0,blk_far hb hne u,hg,d0⟩
theorem cellS105_0 {W:World} {g:Nat} {a0:Option Addr} {b0:Nat} {f0:List Int} {f1:Int} (h:W.heap[g]? =some (.cells #[.slice a0 f0.length b0,.int .i64 f1] 105 (0,0))):W.cell? ⟨g,0,none⟩=some (.slice a0 f0.length b0):=(blk_cell h 0).trans rfl
theorem cellS105_1 {W:World} {g:Nat} {a0:Option Addr} {b0:Nat} {f0:List Int} {f1:Int} (h:W.heap[g]? =some (.cells #[.slice a0 f0.length b0,.int .i64 f1] 105 (0,0))):W.cell? ⟨g,1,none⟩=some (.int .i64 f1):=(blk_cell h 1).trans rfl
theorem IsS105.set_1 {a0 W:World} {g:Nat} {f0:List Int} {f1:Int} (h:IsS105 a0 W g f0 f1) (x:Int):IsS105 a0 (W.setCell ⟨g,1,none⟩ (.int .i64 x)) g f0 x:=by
 obtain⟨b0,c0,hb,hg,d0⟩:=h;exact⟨b0,c0,by simpa using blk_set hb 1 (.int .i64 x),hg,d0⟩
theorem IsS105.new (a0 W:World) (b0:Option Addr) (c0:Nat) (f0:List Int) (f1:Int) (hB:Below a0.heap.size a0 W) (d0:Kd.C (Kd.int .u8) a0 b0 f0.length f0):IsS105 a0 (W.alloc (.cells #[.slice b0 f0.length c0,.int .i64 f1] 105)) W.heap.size f0 f1:=⟨b0,c0,by simpa using heap_alloc_new W _,hB.size,d0⟩

def spec_l20Open.f (a0:List Int):Option (List Int×Int):=if(a0.length:Int)>2000 then(if 2000≤(a0.length:Int)then(some (a0.take 2000,0))else(none))else(some (a0,0))
theorem spec_l20Open.calls (a0:Option Addr) (b0:Nat) (c0:List Int) (d0:List Int) (e0:Int) (g0 w:World) (hB:Below g0.heap.size g0 w) (j0:Kd.C (Kd.int .u8) g0 a0 c0.length c0) (l0:c0.length≤b0) (h:spec_l20Open.f c0=some (d0,e0)):
  Calls Tryz.prog 62 #[.slice a0 c0.length b0] w fun e w'=>∃g_:Nat,e= .returned (.pointer (some ⟨g_,0,none⟩))∧IsS105 g0 w' g_ d0 e0∧Below g0.heap.size g0 w'∧Below w.heap.size w w':=by
 have n0:=Tryz.underlying105;have p0:=qa j0;have q0:=qa l0;clear j0 l0;have HBW:=qa (Below.refl w.heap.size w);have HW0:=qa hB.size;have HB:=qa hB;clear hB;have H:=h;unfold spec_l20Open.f at H;clear h
 by_cases r0:(c0.length:Int)>2000
 ·rw[if_pos r0]at H;have s0:decide (2000<(c0.length:Int))=true:=decide_eq_true r0;have t0:decide (2000<c0.length)=true:=decide_eq_true ko_;clear r0;replace H:=qn H;obtain⟨v0,H⟩:=H;have w0:=eq_true v0;have x0:decide (2000≤(c0.length:Int))=true:=decide_eq_true v0;clear v0;simp only[Option.some.injEq,Prod.mk.injEq]at H;obtain⟨rfl,rfl⟩:=H;obtain⟨i04,y0,_,A0,_⟩:=info_parts info5;obtain⟨B0,hA4,hC4⟩:=print_take_of (P:=Tryz.prog) (Value.int .u8) 0 34 5 .i64 Tryz.underlying34 y0 A0 a0 b0 c0 2000 ko_ (qo) q0.out;have C0:=qa (Kd.C_of_reads (h1:=fun _=>rfl) (hA4 _ (Kd.reads_of_C p0.out)));have D0:=qa hC4;clear hA4 hC4 y0 A0
  go_enter Tryz.func62,Tryz.ntmps62
  go_wp2_with(first|(refine bx 10 #[.slice a0 (c0.take 2000).length b0,.int .i64 0] 105 ?_;intro E0 hg G0 hbox hb;replace HB:=bs hb;have J0:=qa (hbox);have K0:=qa ((by rw[hg];exact(below_size z27_):w.heap.size≤E0));have L0:=qa ((Nat.le_trans HW0.out (by rw[hg];exact(below_size z27_):w.heap.size≤E0):g0.heap.size≤E0));replace HBW:=qa (below_step HBW.out hb);clear hb hbox hg))
  go_ret;exact⟨_,rfl,(show IsS105 g0 _ E0 (c0.take 2000) 0 from⟨_,_,bk,L0.out,C0.out⟩),bl,by repeat(first|(with_reducible first|exact HBW.out|apply below_alloc|apply pw_below_drewN|apply below_drew1|refine below_set ?_ K0.out)|exact HBW.out)⟩
 ·rw[if_neg r0]at H;have s0:decide (2000<(c0.length:Int))=false:=decide_eq_false r0;have t0:decide (2000<c0.length)=false:=decide_eq_false ko_;clear r0;simp only[Option.some.injEq,Prod.mk.injEq]at H;obtain⟨rfl,rfl⟩:=H
  go_enter Tryz.func62,Tryz.ntmps62
  go_wp2_with(first|(refine bx 10 #[.slice a0 c0.length b0,.int .i64 0] 105 ?_;intro M0 hg N0 hbox hb;replace HB:=bs hb;have P0:=qa (hbox);have Q0:=qa ((by rw[hg];exact(below_size z27_):w.heap.size≤M0));have R0:=qa ((Nat.le_trans HW0.out (by rw[hg];exact(below_size z27_):w.heap.size≤M0):g0.heap.size≤M0));replace HBW:=qa (below_step HBW.out hb);clear hb hbox hg))
  go_ret;exact⟨_,rfl,(show IsS105 g0 _ M0 c0 0 from⟨_,_,bk,R0.out,p0.out⟩),bl,by repeat(first|(with_reducible first|exact HBW.out|apply below_alloc|apply pw_below_drewN|apply below_drew1|refine below_set ?_ Q0.out)|exact HBW.out)⟩

def spec_l20Rd_pick.j0:Nat→Int→Bool→List Int→Int→Option (Int×Int)
 |0,_,_,_,_=>none
 |k+1,a0,b0,c0,d0=>if b0=true then(some (0,d0))else(if(wrap64 (d0-1))<(c0.length:Int)then(if 0≤(wrap64 (d0-1))then(if a0=0 then(none)else(some (Int.tmod (wrap64 (rd c0 (wrap64 (d0-1)))) a0,d0)))else(none))else(if(c0.length:Int)=0 then(none)else(if 0≤(Int.tmod (wrap64 (d0-1)) (c0.length:Int))then(if(Int.tmod (wrap64 (d0-1)) (c0.length:Int))<(c0.length:Int)then(if 0≤(Int.tmod (wrap64 ((wrap64 ((wrap64 (d0-1))*7))+3)) (c0.length:Int))then(if(Int.tmod (wrap64 ((wrap64 ((wrap64 (d0-1))*7))+3)) (c0.length:Int))<(c0.length:Int)then(if a0=0 then(none)else(some (Int.tmod (Go.bits .xor .i64 (wrap64 ((wrap64 ((wrap64 ((wrap64 ((wrap64 (rd c0 (Int.tmod (wrap64 (d0-1)) (c0.length:Int))))*131))+(wrap64 ((wrap64 (rd c0 (Int.tmod (wrap64 ((wrap64 ((wrap64 (d0-1))*7))+3)) (c0.length:Int))))*1117))))+(wrap64 ((wrap64 (d0-1))*29))))+(wrap64 ((wrap64 (Int.tdiv (wrap64 (d0-1)) (c0.length:Int)))*53)))) (wrap64 (Int.tdiv (wrap64 ((wrap64 ((wrap64 ((wrap64 ((wrap64 (rd c0 (Int.tmod (wrap64 (d0-1)) (c0.length:Int))))*131))+(wrap64 ((wrap64 (rd c0 (Int.tmod (wrap64 ((wrap64 ((wrap64 (d0-1))*7))+3)) (c0.length:Int))))*1117))))+(wrap64 ((wrap64 (d0-1))*29))))+(wrap64 ((wrap64 (Int.tdiv (wrap64 (d0-1)) (c0.length:Int)))*53)))) 64))) a0,d0)))else(none))else(none))else(none))else(none))))
def spec_l20Rd_pick.f (k:Nat) (s0_0:List Int) (s0_1:Int) (a0:Int):Option (Int×Int):=if a0<1 then(spec_l20Rd_pick.j0 k a0 true s0_0 (wrap64 (s0_1+1)))else(spec_l20Rd_pick.j0 k a0 ((s0_0.length:Int)==0) s0_0 (wrap64 (s0_1+1)))
theorem spec_l20Rd_pick.calls (k:Nat) (g:Nat) (s0_0:List Int) (s0_1:Int) (a0:Int) (b0:Int) (c0:Int) (d0 w:World) (hI:IsS105 d0 w g s0_0 s0_1) (hB:Below d0.heap.size d0 w) (h:spec_l20Rd_pick.f k s0_0 s0_1 a0=some (b0,c0)):
  Calls Tryz.prog 64 #[.pointer (some ⟨g,0,none⟩),.int .i64 a0] w fun e w'=>e= .returned (.int .i64 b0)∧IsS105 d0 w' g s0_0 c0∧Below d0.heap.size d0 w'∧KeepBut w w' g none:=by
 have e0:=qa hI;have HK:=qa (KeepBut.refl w g none);have HL:=qa hB.size;clear hI;have HW0:=qa hB.size;have HB:=qa hB;clear hB;have H:=h;unfold spec_l20Rd_pick.f at H;clear h;have g0:=qa H;clear H;obtain⟨ASz4_0,cSz4_0,HGz4,l0,HSz4_0⟩:=e0.out;have n0:=cellS105_0 HGz4;have p0:=cellS105_1 HGz4;have q0:=blk_frozen HGz4 1;clear HGz4 l0
 go_enter Tryz.func64,Tryz.ntmps64
 go_upto_region 2 with(fail)
 repeat(go_quiet(fail);go_upto_region 2 with(fail))
 go_cut [24] (fun r0 wc=>∃(kq:Nat) (s0:Bool),r0= .bool s0∧Aside0 (spec_l20Rd_pick.j0 kq a0 s0 s0_0 (wrap64 (s0_1+1))=some (b0,c0))∧Aside0 (kq≤k)∧Aside0 (IsS105 d0 wc g s0_0 (wrap64 (s0_1+1)))∧Aside0 (KeepBut w wc g none)∧Aside0 (Below d0.heap.size d0 wc))
 case first=>
  have H:=g0.out;clear g0;replace H:=qe H;obtain⟨t0,H⟩|⟨t0,H⟩:=H
  ·(first|rw[t0]|(simp only[i64_w,i32_w];rw[t0])|skip);have H':=qa H;clear H;go_wp2
   repeat(go_quiet(fail);try go_wp2)
   go_meet
   case rel=>exact⟨_,(true),(sd),H',⟨by first|omega|exact Nat.le_refl _⟩,⟨kI e0⟩,⟨kK⟩,⟨bl⟩⟩
  ·(first|rw[t0]|(simp only[i64_w,i32_w];rw[t0])|skip);have H':=qa H;clear H;obtain⟨ASz6_0,cSz6_0,HGz6,v0,HSz6_0⟩:=e0.out;have w0:=cellS105_0 HGz6;have x0:=cellS105_1 HGz6;have y0:=blk_frozen HGz6 1;clear HGz6 v0;go_wp2
   repeat(go_quiet(fail);try go_wp2)
   go_meet
   case rel=>exact⟨_,(((s0_0.length:Int)==0)),(sd),H',⟨by first|omega|exact Nat.le_refl _⟩,⟨kI e0⟩,⟨kK⟩,⟨bl⟩⟩
 case rest=>
  clear g0;obtain⟨kq,s0,rfl,HA,A0,e0,HK,HB⟩:=hcut;obtain⟨B0,rfl,H⟩:=kz kq HA;clear HA;simp only[spec_l20Rd_pick.j0]at H;replace H:=qc H;obtain⟨rfl,H⟩|⟨rfl,H⟩:=H
  ·simp only[Option.some.injEq,Prod.mk.injEq]at H;obtain⟨rfl,rfl⟩:=H;go_wp2
   repeat(go_quiet(fail);try go_wp2)
   go_ret;exact⟨z1_,kI e0,bl,kK⟩
  ·replace H:=qe H;obtain⟨C0,H⟩|⟨C0,H⟩:=H
   ·obtain⟨D0,E0⟩:∃j_:Int,(wrap64 ((wrap64 (s0_1+1))-1))=j_:=⟨_,rfl⟩;(first|rw[E0]at H|(try simp only[E0]at H));(try rw[E0]at C0);have G0:(IntKind.i64.wrap ((wrap64 (s0_1+1))-1))=D0:=(i64_w _).trans E0;replace H:=qd H;obtain⟨J0,H⟩:=H
    by_cases K0:a0=0
    ·rw[if_pos K0]at H;exact absurd H (by simp)
    ·rw[if_neg K0]at H;have L0:(a0==0)=false:=beq_eq_false_iff_ne.mpr K0;have M0:(a0 != 0)=true:=bne_iff_ne.mpr K0;simp only[Option.some.injEq,Prod.mk.injEq]at H;obtain⟨rfl,rfl⟩:=H;obtain⟨ASz12_0,cSz12_0,HGz12,N0,HSz12_0⟩:=e0.out;have P0:=cellS105_0 HGz12;have Q0:=cellS105_1 HGz12;have R0:=blk_frozen HGz12 1;clear HGz12 N0;have U0:0≤((D0):Int):=qo;have V0:(D0)<(s0_0.length:Int):=qo;obtain⟨W0,X0,Y0⟩:=Kd.at_int HSz12_0 (D0) U0 V0;cases X0;replace Y0:=pw_cell_below HB.out Y0;replace U0:=eq_true U0;replace V0:=eq_true V0;go_wp2
     repeat(go_quiet(fail);try go_wp2)
     go_ret;exact⟨by first|rfl|(simp[errW_none,errW_some] <;> rfl)|(simp only[←E0];first|rfl|(simp[errW_none,errW_some] <;> rfl))|(simp[*,errW_none,errW_some] <;> rfl),kI e0,bl,kK⟩
   ·by_cases a1:(s0_0.length:Int)=0
    ·rw[if_pos a1]at H;exact absurd H (by simp)
    ·rw[if_neg a1]at H;have b1:((s0_0.length:Int)==0)=false:=beq_eq_false_iff_ne.mpr a1;have c1:((s0_0.length:Int) != 0)=true:=bne_iff_ne.mpr a1;(have d1:¬(s0_0=[]):=fun h_=>a1 (by rw[h_];rfl));obtain⟨e1,g1⟩:∃j_:Int,(Int.tmod (wrap64 ((wrap64 (s0_1+1))-1)) (s0_0.length:Int))=j_:=⟨_,rfl⟩;(first|rw[g1]at H|(try simp only[g1]at H))
     by_cases j1:0≤(e1)
     ·rw[if_pos j1]at H;have l1:decide (0≤(e1))=true:=decide_eq_true j1;clear j1;replace H:=qd H;obtain⟨n1,H⟩:=H;obtain⟨p1,q1⟩:∃j_:Int,(Int.tmod (wrap64 ((wrap64 ((wrap64 ((wrap64 (s0_1+1))-1))*7))+3)) (s0_0.length:Int))=j_:=⟨_,rfl⟩;(first|rw[q1]at H|(try simp only[q1]at H));replace H:=qd H;obtain⟨r1,H⟩:=H;replace H:=qd H;obtain⟨s1,H⟩:=H
      by_cases t1:a0=0
      ·rw[if_pos t1]at H;exact absurd H (by simp)
      ·rw[if_neg t1]at H;have v1:(a0==0)=false:=beq_eq_false_iff_ne.mpr t1;have w1:(a0 != 0)=true:=bne_iff_ne.mpr t1;simp only[Option.some.injEq,Prod.mk.injEq]at H;obtain⟨rfl,rfl⟩:=H;obtain⟨ASz21_0,cSz21_0,HGz21,x1,HSz21_0⟩:=e0.out;have y1:=cellS105_0 HGz21;have A1:=cellS105_1 HGz21;have B1:=blk_frozen HGz21 1;clear HGz21 x1;have C1:0≤((e1):Int):=qo;have D1:(e1)<(s0_0.length:Int):=qo;obtain⟨E1,G1,J1⟩:=Kd.at_int HSz21_0 (e1) C1 D1;cases G1;replace J1:=pw_cell_below HB.out J1;replace C1:=eq_true C1;replace D1:=eq_true D1;have K1:0≤((p1):Int):=qo;have L1:(p1)<(s0_0.length:Int):=qo;obtain⟨M1,N1,P1⟩:=Kd.at_int HSz21_0 (p1) K1 L1;obtain rfl:E1=M1:=(by injection N1);replace P1:=pw_cell_below HB.out P1;replace K1:=eq_true K1;replace L1:=eq_true L1;go_wp2
       repeat(go_quiet(fail);try go_wp2)
       go_ret;exact⟨by first|rfl|(simp[errW_none,errW_some] <;> rfl)|(simp only[←g1,←q1];first|rfl|(simp[errW_none,errW_some] <;> rfl))|(simp[*,errW_none,errW_some] <;> rfl),kI e0,bl,kK⟩
     ·rw[if_neg j1]at H;exact absurd H (by simp)
mutual
def spec_l1Number.j0:Nat→Int→Bool→Option (ByteArray)
 |0,_,_=>none
 |k+1,a0,b0=>if b0=true then(some (⟨#[45,57,50,50,51,51,55,50,48,51,54,56,53,52,55,55,53,56,48,56]⟩:ByteArray))else(if a0<0 then((spec_l1Number.f k (wrap64 (-a0))).bind fun c0=>(if 1+c0.size≤9223372036854775807 then(some ((⟨#[45]⟩:ByteArray)++c0))else(none)))else(if a0<10 then(some (strOfNums (([(wrap64 (48+a0))%256]:List Int))))else((spec_l1Number.f k (wrap64 (Int.tdiv a0 10))).bind fun d0=>((some (([(wrap64 (48+(Int.tmod a0 10)))%256]:List Int):List Int)).bind fun e0=>(if d0.size+(strOfNums e0).size ≤9223372036854775807 then(some (d0++(strOfNums e0)))else(none))))))
def spec_l1Number.f:Nat→Int→Option (ByteArray)
 |0,_=>none
 |k+1,g0=>if g0<0 then(spec_l1Number.j0 k g0 (g0==(wrap64 (-g0))))else(spec_l1Number.j0 k g0 false)
end

def spec_l1Number.T7:Bool×List (List Nat×List Nat):=(true,[([],[]),([0],[0]),([1],[1]),([],[]),([3],[3]),([4],[4]),([5],[5]),([6],[6]),([7],[7]),([2,8],[2,8]),([9,2,0,1,2,3,4,5,6,7,8,9],[9])])
def spec_l1Number.B7:List Nat:=[0,1,3,0,8,24,56,120,248,511,1023]
theorem spec_l1Number.tab7:rtab .any (opsOf Tryz.f82 7)=spec_l1Number.T7:=by kernel_rfl
theorem spec_l1Number.bits7:waitsOk spec_l1Number.T7.2 spec_l1Number.B7=true:=by kernel_rfl
theorem spec_l1Number.calls (k:Nat):∀(a0:Int) (r:ByteArray) (w:World) (h:spec_l1Number.f k a0=some r),
  Calls Tryz.prog 82 #[.int .i64 a0] w fun e w'=>e= .returned (.string r)∧Below w.heap.size w w':=by
 induction k using Nat.strongRecOn with
 |_ k ih=>
 intro a0 r w h
 cases k with
 |zero=>exact absurd h (by simp[spec_l1Number.f])
 |succ k=>
 simp only[spec_l1Number.f]at h;have HB:=qa (Below.refl w.heap.size w);have H:(if a0<0 then(spec_l1Number.j0 k a0 (a0==(wrap64 (-a0))))else(spec_l1Number.j0 k a0 false))=some r:=h;clear h;have b0:=qa H;clear H
 go_enter Tryz.func82,Tryz.ntmps82
 go_upto_region 1 with(fail)
 go_cut [10] (fun c0 wc=>∃(kq:Nat) (d0:Bool),c0= .bool d0∧Aside0 (spec_l1Number.j0 kq a0 d0=some r)∧Aside0 (kq≤k)∧Aside0 (Below w.heap.size w wc))
 case first=>
  have H:=b0.out;clear b0;replace H:=qe H;obtain⟨e0,H⟩|⟨e0,H⟩:=H
  ·(first|rw[e0]|(simp only[i64_w,i32_w];rw[e0])|skip);have H':=qa H;clear H;go_wp2;go_meet
   case rel=>exact⟨_,((a0==(wrap64 (-a0)))),(sd),H',⟨by first|omega|exact Nat.le_refl _⟩,⟨bl⟩⟩
  ·(first|rw[e0]|(simp only[i64_w,i32_w];rw[e0])|skip);have H':=qa H;clear H;go_wp2;go_meet
   case rel=>exact⟨_,(false),(sd),H',⟨by first|omega|exact Nat.le_refl _⟩,⟨bl⟩⟩
 case rest=>
  clear b0;obtain⟨kq,d0,rfl,HA,g0,HB⟩:=hcut;obtain⟨l0,rfl,H⟩:=kz kq HA;clear HA;simp only[spec_l1Number.j0]at H;replace H:=qc H;obtain⟨rfl,H⟩|⟨rfl,H⟩:=H
  ·obtain rfl:=sj H;go_wp2;go_ret;exact⟨z1_,bl⟩
  ·replace H:=qe H;obtain⟨n0,H⟩|⟨n0,H⟩:=H
   ·replace H:=qb H;obtain⟨p0,q0,H⟩:=H;replace H:=qN H;obtain⟨r0,s0,t0,v0,H⟩:=H;obtain rfl:=sj H
    go_wp2_with(first|(refine gb 15 Tryz.func82 (ih l0 (by have:=g0.out;omega) (wrap64 (-a0)) p0 _ q0.out) fun w0 hb=>?_;replace HB:=bs hb))
    go_ret;exact⟨z1_,bl⟩
   ·replace H:=qe H;obtain⟨x0,H⟩|⟨x0,H⟩:=H
    ·obtain⟨y0,A0⟩:∃y_:List Int,y_=(([(wrap64 (48+a0))%256]:List Int)):=⟨_,rfl⟩;(replace H:(some (strOfNums y0))=some r:=by first|(rw[A0];with_reducible exact H)|(have H2_:=(Option.bind_some _ _).symm.trans H;rw[A0];with_reducible exact H2_)|(have H2_:=(Option.bind_some _ _).symm.trans H;with_reducible exact H2_)|with_reducible exact H|(rw[A0];exact H)|exact H);have B0:=qa A0;clear A0;obtain rfl:=sj H
     go_wp2_with(first|(refine rli .u8 5 22 B0.out fun C0 D0 E0 hb=>?_;have G0:=qa (Kd.R_lower E0 (below_size (bl)));replace HB:=bs hb;clear hb E0;have J0:=own_string (P:=Tryz.prog) Tryz.underlying34 Tryz.underlying5 Tryz.underlying9 (Kd.own_of_R G0.out)))
     go_ret;exact⟨z1_,bl⟩
    ·replace H:=qb H;obtain⟨K0,L0,H⟩:=H;replace H:=qs H;obtain⟨M0,N0,H⟩:=H
     by_cases P0:K0.size+(strOfNums M0).size ≤9223372036854775807
     ·rw[if_pos P0]at H;have Q0:=eq_true P0;have R0:decide (K0.size+(strOfNums M0).size ≤9223372036854775807)=true:=decide_eq_true P0
      try have U0:(9223372036854775807<K0.size+(strOfNums M0).size)=False:=eq_false (Nat.not_lt.2 P0)
      obtain rfl:=sj H
      try go_wp2
      replace HB:=qa (below_drew1 HB.out);refine start_ (n:=11) (S:=fun w'=>True) (ds:=[]) _ kr_ rfl rfl trivial (fun hHeld=>?_);refine with_tabW spec_l1Number.tab7 spec_l1Number.bits7 (fun HT_ HW_=>?_);generalize wc.drew=V0 at HB hHeld ⊢;refine pur 0 24 (bz 11 1) HT_ ?_;refine pur 1 25 (bz 11 3) HT_ ?_;refine pur 3 27 (bz 11 11) HT_ ?_;refine pur 4 28 (bz 11 27) HT_ ?_;refine pur 5 29 (bz 11 59) HT_ ?_;refine pur 6 30 (bz 11 123) HT_ ?_;refine join_ (σ:=Value) 2 (bz 11 511) (fun s_=>[(26,.string K0),(31,s_),(32,.string (strOfNums M0))]) (fun s_ w'=>(Kd.R (Kd.int .u8) 5 w' w.heap.size (fun _=>True) s_ M0)∧(Below w.heap.size w w')) ?_ ?_;rotate_left
      ·intro hCont;refine two_ (i:=2) (j:=7) (Ni:=some 26) (Nj:=some 31) (bz 11 127) (bz 11 251) rfl rfl rfl rfl (two_of HT_.out kr_) kd_ kd_ (fun K hK=>?_) (fun K hK=>?_)
       ·skip
        (refine gsb Tryz.func82 (ih l0 (by have:=g0.out;omega) (wrap64 (Int.tdiv a0 10)) K0 _ L0.out) fun W0 hb=>?_);replace HB:=bs hb;(try clear hb);(try clear X0);(try clear hk);(try clear hi);refine hK.out _ _ trivial (fun hHeld=>?_);clear hK K;refine nm 26 ?_;(refine o1 7 (some 31) (bz 11 255) (one_of HT_.out kr_) fun K hK=>?_);refine Kd.R_lit_step (Kd.int .u8) _ 5 ?hg (N:=31) ?hd (xs:=([(wrap64 (48+(Int.tmod a0 10)))%256]:List Int)) (inner:=[.int .u8 ((wrap64 (48+(Int.tmod a0 10)))%256)]) (ok:=fun _=>True) (okp:=fun _=>True) ?hr ?hp (fun _ hk=>hk) trivial (Below.refl _ _) (Nat.le_refl _) (by simp) ?_;(case hd=>rfl);(case hg=>rfl);(case hr=>exact gr);(case hp=>exact(Reps.one (show Kd.M (Kd.int .u8) _ _ _ ((wrap64 (48+(Int.tmod a0 10)))%256) [.int .u8 ((wrap64 (48+(Int.tmod a0 10)))%256)]from rfl) (Reps.none _ _)));intro Y0 a1 b1 hb hg_ hnew_;clear hg_ hnew_;(first|rw[←N0.out]at b1|(simp only[Int.reduceToNat]at b1;rw[←N0.out]at b1));have c1:=qa (Kd.R_lower b1 (below_size (bl)));replace HB:=bs hb;clear hb b1;refine hK.out _ _ trivial (fun hHeld=>?_);clear hK K;refine nm 31 ?_;(refine o1 8 (some 32) (bz 11 511) (one_of HT_.out kr_) fun K hK=>?_);have d1:=own_string (P:=Tryz.prog) Tryz.underlying34 Tryz.underlying5 Tryz.underlying9 (Kd.own_of_R c1.out);refine value_ (w1:=?_) (v:=?_) (by rfl) rfl ?_ ?_;rotate_left 2
        ·go_simp
         constructor
         ·rfl
         ·rfl
        clear d1;refine hK.out _ _ trivial (fun hHeld=>?_);clear hK K;refine nm 32 ?_;exact norm_ z5_ (hCont (Y0) _ ⟨(kR c1),(bl)⟩)
       ·skip
        refine Kd.R_lit_step (Kd.int .u8) _ 5 ?hg (N:=31) ?hd (xs:=([(wrap64 (48+(Int.tmod a0 10)))%256]:List Int)) (inner:=[.int .u8 ((wrap64 (48+(Int.tmod a0 10)))%256)]) (ok:=fun _=>True) (okp:=fun _=>True) ?hr ?hp (fun _ hk=>hk) trivial (Below.refl _ _) (Nat.le_refl _) (by simp) ?_;(case hd=>rfl);(case hg=>rfl);(case hr=>exact gr);(case hp=>exact(Reps.one (show Kd.M (Kd.int .u8) _ _ _ ((wrap64 (48+(Int.tmod a0 10)))%256) [.int .u8 ((wrap64 (48+(Int.tmod a0 10)))%256)]from rfl) (Reps.none _ _)));intro Y0 W0 e1 hb hg_ hnew_;clear hg_ hnew_;(first|rw[←N0.out]at e1|(simp only[Int.reduceToNat]at e1;rw[←N0.out]at e1));have c1:=qa (Kd.R_lower e1 (below_size (bl)));replace HB:=bs hb;clear hb e1;refine hK.out _ _ trivial (fun hHeld=>?_);clear hK K;refine nm 31 ?_;refine two_ (i:=2) (j:=8) (Ni:=some 26) (Nj:=some 32) (bz 11 255) (bz 11 507) rfl rfl rfl rfl (two_of HT_.out kr_) kd_ kd_ (fun K hK=>?_) (fun K hK=>?_)
        ·skip
         (refine gsb Tryz.func82 (ih l0 (by have:=g0.out;omega) (wrap64 (Int.tdiv a0 10)) K0 _ L0.out) fun g1 hb=>?_);replace c1:=qa (Kd.R_below (kR c1) hb);replace HB:=bs hb;(try clear hb);(try clear X0);(try clear hk);(try clear hi);refine hK.out _ _ trivial (fun hHeld=>?_);clear hK K;refine nm 26 ?_;(refine o1 8 (some 32) (bz 11 511) (one_of HT_.out kr_) fun K hK=>?_);have d1:=own_string (P:=Tryz.prog) Tryz.underlying34 Tryz.underlying5 Tryz.underlying9 (Kd.own_of_R c1.out);refine value_ (w1:=?_) (v:=?_) (by rfl) rfl ?_ ?_;rotate_left 2
         ·go_simp
          constructor
          ·rfl
          ·rfl
         clear d1;refine hK.out _ _ trivial (fun hHeld=>?_);clear hK K;refine nm 32 ?_;exact norm_ z5_ (hCont (Y0) _ ⟨(kR c1),(bl)⟩)
        ·skip
         have j1:=own_string (P:=Tryz.prog) Tryz.underlying34 Tryz.underlying5 Tryz.underlying9 (Kd.own_of_R c1.out);refine value_ (w1:=?_) (v:=?_) (by rfl) rfl ?_ ?_;rotate_left 2
         ·go_simp
          constructor
          ·rfl
          ·rfl
         clear j1;refine hK.out _ _ trivial (fun hHeld=>?_);clear hK K;refine nm 32 ?_;(refine o1 2 (some 26) (bz 11 511) (one_of HT_.out kr_) fun K hK=>?_);(refine gsb Tryz.func82 (ih l0 (by have:=g0.out;omega) (wrap64 (Int.tdiv a0 10)) K0 _ L0.out) fun l1 hb=>?_);replace c1:=qa (Kd.R_below (kR c1) hb);replace HB:=bs hb;(try clear hb);(try clear X0);(try clear hk);(try clear hi);refine hK.out _ _ trivial (fun hHeld=>?_);clear hK K;refine nm 26 ?_;exact norm_ z5_ (hCont (Y0) _ ⟨(kR c1),(bl)⟩)
      rintro Y0 n1 ⟨h0_,h1_⟩;have n0_:Aside0 (Kd.R (Kd.int .u8) 5 n1 w.heap.size (fun _=>True) Y0 M0):=⟨h0_⟩;have n1_:Aside0 (Below w.heap.size w n1):=⟨h1_⟩;clear HB;clear h0_ h1_;have c1:=n0_;have HB:=n1_;clear n0_ n1_;have hHeld:=trivial;refine norm_ (a':=?_) ?_ ?_;rotate_left
      ·simp only[putAll,Act.put,List.setIfInBounds_toArray,List.set_cons_zero,List.set_cons_succ]
       rfl
      refine pur 9 33 (bz 11 1023) HT_ ?_;refine pur 10 2 (bz 11 2047) HT_ ?_;refine done_ (done_of HT_.out kr_) ?_
      try go_wp2
      go_ret;exact⟨z1_,bl⟩
     ·rw[if_neg P0]at H;exact absurd H (by simp)
attribute [local go_sem high] eqA55
mutual
def spec_DeedText.j0:Nat→Bool→Int→Int→Int→Option (ByteArray)
 |0,_,_,_,_=>none
 |k+1,a0,b0,c0,d0=>if a0=true then((spec_l1Number.f k c0).bind fun e0=>(if 6+e0.size≤9223372036854775807 then(some ((⟨#[116,105,109,101,115,32]⟩:ByteArray)++e0))else(none)))else(if b0=1 then((spec_l1In.f c0 0 9).bind fun g0=>(if g0=true then(spec_DeedText.j1 k (d0==0) b0 c0 d0)else(spec_DeedText.j1 k false b0 c0 d0)))else(spec_DeedText.j1 k false b0 c0 d0))
def spec_DeedText.j1:Nat→Bool→Int→Int→Int→Option (ByteArray)
 |0,_,_,_,_=>none
 |k+1,l0,b0,c0,d0=>if l0=true then((spec_l1Number.f k c0).bind fun n0=>(if 8+n0.size≤9223372036854775807 then(some ((⟨#[117,110,105,116,97,114,121,32]⟩:ByteArray)++n0))else(none)))else(if(b0==2&&(c0==0&&(d0==0)))=true then(some (⟨#[105,110,118,101,114,115,101]⟩:ByteArray))else(if b0=3 then((spec_l1In.f c0 0 99).bind fun p0=>(if p0=true then((spec_l1In.f d0 0 9999).bind fun q0=>(spec_DeedText.j2 k q0 b0 c0 d0))else(spec_DeedText.j2 k false b0 c0 d0)))else(spec_DeedText.j2 k false b0 c0 d0)))
def spec_DeedText.j2:Nat→Bool→Int→Int→Int→Option (ByteArray)
 |0,_,_,_,_=>none
 |k+1,r0,b0,c0,d0=>if r0=true then((spec_l1Number.f k c0).bind fun s0=>(if 4+s0.size≤9223372036854775807 then(if((⟨#[115,101,116,32]⟩:ByteArray)++s0).size +1≤9223372036854775807 then((spec_l1Number.f k d0).bind fun t0=>(if(((⟨#[115,101,116,32]⟩:ByteArray)++s0)++(⟨#[32]⟩:ByteArray)).size +t0.size≤9223372036854775807 then(some ((((⟨#[115,101,116,32]⟩:ByteArray)++s0)++(⟨#[32]⟩:ByteArray))++t0))else(none)))else(none))else(none)))else(if(b0==4&&(c0==0&&(d0==0)))=true then(some (⟨#[98,97,99,107]⟩:ByteArray))else(some (⟨#[]⟩:ByteArray)))
end

def spec_DeedText.f (k:Nat) (a0:Int) (b0:Int) (c0:Int):Option (ByteArray):=if a0=0 then((spec_l1In.f b0 0 9).bind fun d0=>(if d0=true then(spec_DeedText.j0 k (c0==0) a0 b0 c0)else(spec_DeedText.j0 k false a0 b0 c0)))else(spec_DeedText.j0 k false a0 b0 c0)
def spec_DeedText.T8:Bool×List (List Nat×List Nat):=(true,[([],[]),([0],[0]),([1],[1]),([2],[2]),([3],[3]),([],[]),([5],[5]),([6,2],[6]),([4,7],[4,7]),([8,7,0,1,2,3,4,5,6,7,8],[8])])
def spec_DeedText.B8:List Nat:=[0,1,3,7,15,0,32,103,255,511]
theorem spec_DeedText.tab8:rtab .any (opsOf Tryz.f79 8)=spec_DeedText.T8:=by kernel_rfl
theorem spec_DeedText.bits8:waitsOk spec_DeedText.T8.2 spec_DeedText.B8=true:=by kernel_rfl
theorem spec_DeedText.calls (k:Nat) (a0:Int) (b0:Int) (c0:Int) (r:ByteArray) (w:World) (h:spec_DeedText.f k a0 b0 c0=some r):
  Calls Tryz.prog 79 #[.agg #[.int .i64 a0,.int .i64 b0,.int .i64 c0]] w fun e w'=>e= .returned (.string r)∧Below w.heap.size w w':=by
 have d0:=Tryz.underlying55;have HB:=qa (Below.refl w.heap.size w);have H:=h;unfold spec_DeedText.f at H;clear h;have e0:=qa H;clear H
 go_enter Tryz.func79,Tryz.ntmps79
 go_upto_region 1 with(first|(refine bx 1 #[.int .i64 a0,.int .i64 b0,.int .i64 c0] 55 ?_;intro g0 hg l0 hbox hb;have n0:=qa (hbox);have p0:=gw hg;have q0:=gw hg;replace HB:=bs hb;clear hb hbox hg))
 (try simp only[Act.put,List.setIfInBounds_toArray,List.set_cons_zero,List.set_cons_succ])
 go_cut [3] (fun r0 wc=>∃(kq:Nat) (s0:Bool),r0= .bool s0∧Aside0 (spec_DeedText.j0 kq s0 a0 b0 c0=some r)∧Aside0 (kq≤k)∧Aside0 (wc.heap[g0]? =some (.cells #[.int .i64 a0,.int .i64 b0,.int .i64 c0] 55 (0,0)))∧Aside0 (Below w.heap.size w wc))
 case first=>
  have H:=e0.out;clear e0;replace H:=qq H;obtain⟨t0,v0,H⟩|⟨w0,t0,v0,H⟩:=H
  ·(first|rw[t0]|(simp only[i64_w,i32_w];rw[t0])|skip);replace H:=qb H;obtain⟨x0,y0,H⟩:=H;replace H:=qc H;obtain⟨rfl,H⟩|⟨rfl,H⟩:=H
   ·have H':=qa H;clear H;obtain⟨A0,B0,C0,D0,E0,G0⟩:=qk3 n0
    go_wp2_with(first|(go_at_call 84;(with_reducible refine gm (spec_l1In.calls b0 0 9 true _ y0.out) fun nd=>?_)))
    go_meet
    case rel=>exact⟨_,((c0==0)),(sd),H',⟨by first|omega|exact Nat.le_refl _⟩,⟨bk⟩,⟨bl⟩⟩
   ·have H':=qa H;clear H;obtain⟨J0,K0,L0,M0,N0,P0⟩:=qk3 n0
    go_wp2_with(first|(go_at_call 84;(with_reducible refine gm (spec_l1In.calls b0 0 9 false _ y0.out) fun nd=>?_)))
    go_meet
    case rel=>exact⟨_,(false),(sd),H',⟨by first|omega|exact Nat.le_refl _⟩,⟨bk⟩,⟨bl⟩⟩
  ·(first|rw[t0]|(simp only[i64_w,i32_w];rw[t0])|skip);have H':=qa H;clear H;obtain⟨Q0,R0,U0,V0,W0,X0⟩:=qk3 n0;go_wp2;go_meet
   case rel=>exact⟨_,(false),(sd),H',⟨by first|omega|exact Nat.le_refl _⟩,⟨bk⟩,⟨bl⟩⟩
 case rest=>
  clear e0;obtain⟨kq,s0,rfl,HA,Y0,n0,HB⟩:=hcut;obtain⟨a1,rfl,H⟩:=kz kq HA;clear HA;simp only[spec_DeedText.j0]at H;replace H:=qc H;obtain⟨rfl,H⟩|⟨rfl,H⟩:=H
  ·replace H:=qb H;obtain⟨b1,c1,H⟩:=H;replace H:=qN H;obtain⟨d1,e1,g1,l1,H⟩:=H;obtain rfl:=sj H;obtain⟨n1,p1,q1,r1,s1,t1⟩:=qk3 n0
   go_wp2_with(first|(refine gb 19 Tryz.func82 (spec_l1Number.calls a1 b0 b1 _ c1.out) fun v1 hb=>?_;replace n0:=qbb n0 hb;replace HB:=bs hb))
   go_ret;exact⟨z1_,bl⟩
  ·have w1:=qa H;clear H
   go_upto_region 3 with(fail)
   go_cut [21] (fun x1 wc=>∃(kq:Nat) (y1:Bool),x1= .bool y1∧Aside0 (spec_DeedText.j1 kq y1 a0 b0 c0=some r)∧Aside0 (kq≤a1)∧Aside0 (wc.heap[g0]? =some (.cells #[.int .i64 a0,.int .i64 b0,.int .i64 c0] 55 (0,0)))∧Aside0 (Below w.heap.size w wc))
   case first=>
    have H:=w1.out;clear w1;replace H:=qq H;obtain⟨A1,B1,H⟩|⟨C1,A1,B1,H⟩:=H
    ·(first|rw[A1]|(simp only[i64_w,i32_w];rw[A1])|skip);replace H:=qb H;obtain⟨D1,E1,H⟩:=H;replace H:=qc H;obtain⟨rfl,H⟩|⟨rfl,H⟩:=H
     ·have H':=qa H;clear H;obtain⟨G1,J1,K1,L1,M1,N1⟩:=qk3 n0
      go_wp2_with(first|(go_at_call 84;(with_reducible refine gm (spec_l1In.calls b0 0 9 true _ E1.out) fun nd=>?_)))
      go_meet
      case rel=>exact⟨_,((c0==0)),(sd),H',⟨by have:=Y0.out;first|omega|exact Nat.le_refl _⟩,⟨bk⟩,⟨bl⟩⟩
     ·have H':=qa H;clear H;obtain⟨P1,Q1,R1,U1,V1,W1⟩:=qk3 n0
      go_wp2_with(first|(go_at_call 84;(with_reducible refine gm (spec_l1In.calls b0 0 9 false _ E1.out) fun nd=>?_)))
      go_meet
      case rel=>exact⟨_,(false),(sd),H',⟨by have:=Y0.out;first|omega|exact Nat.le_refl _⟩,⟨bk⟩,⟨bl⟩⟩
    ·(first|rw[A1]|(simp only[i64_w,i32_w];rw[A1])|skip);have H':=qa H;clear H;obtain⟨X1,Y1,a2,b2,c2,d2⟩:=qk3 n0;go_wp2;go_meet
     case rel=>exact⟨_,(false),(sd),H',⟨by have:=Y0.out;first|omega|exact Nat.le_refl _⟩,⟨bk⟩,⟨bl⟩⟩
   case rest=>
    clear w1;obtain⟨kq,y1,rfl,HA,e2,n0,HB⟩:=hcut;obtain⟨g2,rfl,H⟩:=kz kq HA;clear HA;simp only[spec_DeedText.j1]at H;replace H:=qc H;obtain⟨rfl,H⟩|⟨rfl,H⟩:=H
    ·replace H:=qb H;obtain⟨l2,n2,H⟩:=H;replace H:=qN H;obtain⟨p2,q2,r2,s2,H⟩:=H;obtain rfl:=sj H;obtain⟨t2,v2,w2,x2,y2,A2⟩:=qk3 n0
     go_wp2_with(first|(refine gb 37 Tryz.func82 (spec_l1Number.calls g2 b0 l2 _ n2.out) fun B2 hb=>?_;replace n0:=qbb n0 hb;replace HB:=bs hb))
     go_ret;exact⟨z1_,bl⟩
    ·by_cases C2:(a0==2&&(b0==0&&(c0==0)))=true
     ·rw[if_pos C2]at H;have D2:(a0==2&&(b0==0&&(c0==0)))=true:=C2;(try(have E2:decide (a0=2&&(b0==0&&(c0==0)))=true:=by simpa using C2));(try(have G2:(a0==2&&(b0==0&&(c0==0)))=true:=by simpa using C2));clear C2;obtain rfl:=sj H;obtain⟨J2,K2,L2,M2,N2,P2⟩:=qk3 n0;go_wp2;go_ret;exact⟨z1_,bl⟩
     ·rw[if_neg C2]at H;(have D2:(a0==2&&(b0==0&&(c0==0)))=false:=by simpa using C2);(try(have E2:decide (a0=2&&(b0==0&&(c0==0)))=false:=by simpa using C2));(try(have G2:(a0==2&&(b0==0&&(c0==0)))=false:=by simpa using C2));(try(have Q2:¬(a0=2&&(b0==0&&(c0==0))):=by simpa using C2));clear C2;have R2:=qa H;clear H;obtain⟨U2,V2,W2,X2,Y2,a3⟩:=qk3 n0
      go_upto_region 7 with(fail)
      go_cut [43] (fun b3 wc=>∃(kq:Nat) (c3:Bool),b3= .bool c3∧Aside0 (spec_DeedText.j2 kq c3 a0 b0 c0=some r)∧Aside0 (kq≤g2)∧Aside0 (wc.heap[g0]? =some (.cells #[.int .i64 a0,.int .i64 b0,.int .i64 c0] 55 (0,0)))∧Aside0 (Below w.heap.size w wc))
      case first=>
       have H:=R2.out;clear R2;replace H:=qq H;obtain⟨d3,e3,H⟩|⟨g3,d3,e3,H⟩:=H
       ·(first|rw[d3]|(simp only[i64_w,i32_w];rw[d3])|skip);replace H:=qb H;obtain⟨j3,l3,H⟩:=H;replace H:=qc H;obtain⟨rfl,H⟩|⟨rfl,H⟩:=H
        ·replace H:=qb H;obtain⟨n3,p3,H⟩:=H;have H':=qa H;clear H;obtain⟨q3,r3,s3,t3,v3,w3⟩:=qk3 n0
         go_wp2_with(first|(go_at_call 84;(with_reducible refine gm (spec_l1In.calls b0 0 99 true _ l3.out) fun nd=>?_))|(go_at_call 84;(with_reducible refine gm (spec_l1In.calls c0 0 9999 n3 _ p3.out) fun nd=>?_)))
         go_meet
         case rel=>exact⟨_,(n3),(sd),H',⟨by have:=Y0.out;have:=e2.out;first|omega|exact Nat.le_refl _⟩,⟨bk⟩,⟨bl⟩⟩
        ·have H':=qa H;clear H;obtain⟨x3,y3,A3,B3,C3,D3⟩:=qk3 n0
         go_wp2_with(first|(go_at_call 84;(with_reducible refine gm (spec_l1In.calls b0 0 99 false _ l3.out) fun nd=>?_)))
         go_meet
         case rel=>exact⟨_,(false),(sd),H',⟨by have:=Y0.out;have:=e2.out;first|omega|exact Nat.le_refl _⟩,⟨bk⟩,⟨bl⟩⟩
       ·(first|rw[d3]|(simp only[i64_w,i32_w];rw[d3])|skip);have H':=qa H;clear H;obtain⟨E3,G3,J3,K3,L3,M3⟩:=qk3 n0;go_wp2;go_meet
        case rel=>exact⟨_,(false),(sd),H',⟨by have:=Y0.out;have:=e2.out;first|omega|exact Nat.le_refl _⟩,⟨bk⟩,⟨bl⟩⟩
      case rest=>
       clear R2;obtain⟨kq,c3,rfl,HA,N3,n0,HB⟩:=hcut;obtain⟨P3,rfl,H⟩:=kz kq HA;clear HA;simp only[spec_DeedText.j2]at H;replace H:=qc H;obtain⟨rfl,H⟩|⟨rfl,H⟩:=H
       ·replace H:=qb H;obtain⟨Q3,R3,H⟩:=H;replace H:=qN H;obtain⟨U3,V3,W3,X3,H⟩:=H;replace H:=qN H;obtain⟨Y3,a4,b4,c4,H⟩:=H
        try(have c41bq:=c4;simp only[ByteArray.size_append,show(⟨#[115,101,116,32]⟩:ByteArray).size =4 from rfl]at c41bq)
        replace H:=qb H;obtain⟨d4,e4,H⟩:=H;replace H:=qN H;obtain⟨g4,j4,l4,n4,H⟩:=H
        try(have c43bq:=n4;simp only[ByteArray.size_append,show(⟨#[115,101,116,32]⟩:ByteArray).size =4 from rfl,show(⟨#[32]⟩:ByteArray).size =1 from rfl]at c43bq)
        obtain rfl:=sj H
        try go_wp2
        replace n0:=qa (blk_drew n0.out);replace HB:=qa (below_drew1 HB.out);refine start_ (n:=10) (S:=fun w'=>w'.cell? ⟨g0,0,none⟩=some (.int .i64 a0)∧w'.cell? ⟨g0,1,none⟩=some (.int .i64 b0)∧w'.cell? ⟨g0,2,none⟩=some (.int .i64 c0)) (ds:=[]) _ kr_ rfl rfl ⟨(blk_cell n0.out 0).trans rfl,(blk_cell n0.out 1).trans rfl,(blk_cell n0.out 2).trans rfl⟩ (fun hHeld=>?_);refine with_tabW spec_DeedText.tab8 spec_DeedText.bits8 (fun HT_ HW_=>?_);generalize wc.drew=p4 at n0 HB hHeld ⊢;refine pur 0 57 (bz 10 1) HT_ ?_;refine pur 5 62 (bz 10 33) HT_ ?_;refine tk 1 58 (bz 10 35) hHeld (take_ofW HT_.out HW_.out kr_) ?_;refine tk 6 63 (bz 10 99) hHeld (take_ofW HT_.out HW_.out kr_) ?_;(refine o1 2 (some 59) (bz 10 103) (one_of HT_.out kr_) fun K hK=>?_);(refine gsb Tryz.func82 (spec_l1Number.calls P3 b0 Q3 _ R3.out) fun q4 hb=>?_);replace n0:=qbb n0 hb;replace HB:=bs hb;(try clear hb);(try clear r4);(try clear hk);(try clear hi);refine hK.out _ _ ⟨(blk_cell n0.out 0).trans rfl,(blk_cell n0.out 1).trans rfl,(blk_cell n0.out 2).trans rfl⟩ (fun hHeld=>?_);clear hK K;refine nm 59 ?_;refine pur 3 60 (bz 10 111) HT_ ?_;refine pur 4 61 (bz 10 127) HT_ ?_;(refine o1 7 (some 64) (bz 10 255) (one_of HT_.out kr_) fun K hK=>?_);(refine gsb Tryz.func82 (spec_l1Number.calls P3 c0 d4 _ e4.out) fun s4 hb=>?_);replace n0:=qbb n0 hb;replace HB:=bs hb;(try clear hb);(try clear r4);(try clear hk);(try clear hi);refine hK.out _ _ ⟨(blk_cell n0.out 0).trans rfl,(blk_cell n0.out 1).trans rfl,(blk_cell n0.out 2).trans rfl⟩ (fun hHeld=>?_);clear hK K;refine nm 64 ?_;refine pur 8 65 (bz 10 511) HT_ ?_;refine pur 9 2 (bz 10 1023) HT_ ?_;refine done_ (done_of HT_.out kr_) ?_
        try go_wp2
        go_ret;exact⟨z1_,bl⟩
       ·by_cases t4:(a0==4&&(b0==0&&(c0==0)))=true
        ·rw[if_pos t4]at H;have v4:(a0==4&&(b0==0&&(c0==0)))=true:=t4;(try(have w4:decide (a0=4&&(b0==0&&(c0==0)))=true:=by simpa using t4));(try(have x4:(a0==4&&(b0==0&&(c0==0)))=true:=by simpa using t4));clear t4;obtain rfl:=sj H;obtain⟨y4,A4,B4,C4,D4,E4⟩:=qk3 n0;go_wp2;go_ret;exact⟨z1_,bl⟩
        ·rw[if_neg t4]at H;(have v4:(a0==4&&(b0==0&&(c0==0)))=false:=by simpa using t4);(try(have w4:decide (a0=4&&(b0==0&&(c0==0)))=false:=by simpa using t4));(try(have x4:(a0==4&&(b0==0&&(c0==0)))=false:=by simpa using t4));(try(have G4:¬(a0=4&&(b0==0&&(c0==0))):=by simpa using t4));clear t4;obtain rfl:=sj H;obtain⟨J4,K4,L4,M4,N4,P4⟩:=qk3 n0;go_wp2;go_ret;exact⟨z1_,bl⟩
def spec_JournalText.l0:Nat→List (S55)→ByteArray→Int→Option (ByteArray)
 |0,_,_,_=>none
 |k+1,a0,b0,c0=>if c0<(a0.length:Int)then(if 0≤c0 then((spec_DeedText.f k ((rd_T55 a0 c0).f0) ((rd_T55 a0 c0).f1) ((rd_T55 a0 c0).f2)).bind fun d0=>(if d0.toList=([]:List UInt8)then(some (⟨#[]⟩:ByteArray))else((spec_DeedText.f k ((rd_T55 a0 c0).f0) ((rd_T55 a0 c0).f1) ((rd_T55 a0 c0).f2)).bind fun e0=>(if b0.size+e0.size≤9223372036854775807 then(if(b0++e0).size +1≤9223372036854775807 then(spec_JournalText.l0 k a0 ((b0++e0)++(⟨#[10]⟩:ByteArray)) (wrap64 (c0+1)))else(none))else(none)))))else(none))else(some b0)
def spec_JournalText.f (k:Nat) (a0:List (S55)):Option (ByteArray):=spec_JournalText.l0 k a0 (⟨#[]⟩:ByteArray) 0
theorem spec_JournalText.calls (k:Nat) (a0:Option Addr) (b0:Nat) (c0:List (S55)) (r:ByteArray) (w:World) (d0:Kd.C k55 w a0 c0.length c0) (e0:c0.length≤b0) (h:spec_JournalText.f k c0=some r):
  Calls Tryz.prog 72 #[.slice a0 c0.length b0] w fun e w'=>e= .returned (.string r)∧Below w.heap.size w w':=by
 have g0:=Tryz.underlying55;have j0:=qa d0;have n0:=qa e0;clear d0 e0;have HB:=qa (Below.refl w.heap.size w);have H:=h;unfold spec_JournalText.f at H;clear h;have H':=qa H;clear H
 go_enter Tryz.func72,Tryz.ntmps72
 go_wp2
 go_loopg [3,4] k (fun kq p0 q0 w'=>∃(r0:ByteArray) (s0:Int),p0= .string r0∧q0= .int .i64 s0∧Aside0 (spec_JournalText.l0 kq c0 r0 s0=some r)∧Aside0 (kq≤k)∧Aside0 (Below w.heap.size w w'))
 case atStart=>exact⟨((⟨#[]⟩:ByteArray)),(0),(sd),(sd),H',⟨Nat.le_refl _⟩,⟨bl⟩⟩
 case round=>
  clear H';obtain⟨r0,s0,rfl,rfl,HA,HK1,HB⟩:=hrel;obtain⟨k1,rfl,H⟩:=kz gk HA;clear HA;simp only[spec_JournalText.l0]at H;replace H:=qe H;obtain⟨t0,H⟩|⟨t0,H⟩:=H
  ·replace H:=qd H;obtain⟨v0,H⟩:=H;replace H:=qb H;obtain⟨w0,x0,H⟩:=H;replace H:=qq H;obtain⟨y0,A0,H⟩|⟨B0,y0,A0,H⟩:=H
   ·obtain rfl:=sj H;have C0:0≤(s0:Int):=qo;have D0:s0<(c0.length:Int):=qo;obtain⟨E0,G0,J0,K0,L0⟩:=at_T55 j0.out s0 C0 D0;cases G0;(try replace J0:=(HB.out.cell (World.block_lt_of_cell? w _ J0)).trans J0);(try replace K0:=(HB.out.cell (World.block_lt_of_cell? w _ K0)).trans K0);(try replace L0:=(HB.out.cell (World.block_lt_of_cell? w _ L0)).trans L0);replace C0:=eq_true C0;replace D0:=eq_true D0
    go_wp2_with(first|(refine gb 15 Tryz.func79 (spec_DeedText.calls k1 ((rd_T55 c0 s0).f0) ((rd_T55 c0 s0).f1) ((rd_T55 c0 s0).f2) w0 _ x0.out) fun M0 hb=>?_;replace HB:=bs hb))
    go_ret;exact⟨z1_,bl⟩
   ·replace H:=qb H;obtain⟨N0,P0,H⟩:=H;replace H:=qN H;obtain⟨Q0,R0,U0,V0,H⟩:=H;replace H:=qN H;obtain⟨W0,X0,Y0,a1,H⟩:=H
    try(have c9bq:=a1;simp only[ByteArray.size_append]at c9bq)
    have H':=qa H;clear H;have C0:0≤(s0:Int):=qo;have D0:s0<(c0.length:Int):=qo;obtain⟨E0,G0,J0,K0,L0⟩:=at_T55 j0.out s0 C0 D0;cases G0;(try replace J0:=(HB.out.cell (World.block_lt_of_cell? w _ J0)).trans J0);(try replace K0:=(HB.out.cell (World.block_lt_of_cell? w _ K0)).trans K0);(try replace L0:=(HB.out.cell (World.block_lt_of_cell? w _ L0)).trans L0);replace C0:=eq_true C0;replace D0:=eq_true D0
    go_wp2_with(first|(refine gb 15 Tryz.func79 (spec_DeedText.calls k1 ((rd_T55 c0 s0).f0) ((rd_T55 c0 s0).f1) ((rd_T55 c0 s0).f2) w0 _ x0.out) fun b1 hb=>?_;replace HB:=bs hb;have c1:0≤(s0:Int):=qo;have d1:s0<(c0.length:Int):=qo;obtain⟨e1,g1,j1,l1,n1⟩:=at_T55 j0.out s0 c1 d1;obtain rfl:E0=e1:=(by injection g1);replace j1:=(HB.out.cell (World.block_lt_of_cell? w _ j1)).trans j1;replace l1:=(HB.out.cell (World.block_lt_of_cell? w _ l1)).trans l1;replace n1:=(HB.out.cell (World.block_lt_of_cell? w _ n1)).trans n1;replace c1:=eq_true c1;replace d1:=eq_true d1)|(refine gb 22 Tryz.func79 (spec_DeedText.calls k1 ((rd_T55 c0 s0).f0) ((rd_T55 c0 s0).f1) ((rd_T55 c0 s0).f2) N0 _ P0.out) fun p1 hb=>?_;replace HB:=bs hb))
    go_roundg k1
    case measure=>have:=HK1.out;omega
    case rel=>exact⟨((r0++N0)++(⟨#[10]⟩:ByteArray)),(wrap64 (s0+1)),(sd),(sd),H',⟨by have:=HK1.out;omega⟩,⟨bl⟩⟩
  ·obtain rfl:=sj H;go_wp2;go_ret;exact⟨z1_,bl⟩

def spec_l20Rd_odd.f (k:Nat) (s0_0:List Int) (s0_1:Int) (a0:Int):Option (Bool×Int):=if a0>0 then((spec_l20Rd_pick.f k s0_0 s0_1 a0).bind fun b0=>(some ((b0.1==(wrap64 (a0-1))),b0.2)))else(some (false,s0_1))
theorem spec_l20Rd_odd.calls (k:Nat) (g:Nat) (s0_0:List Int) (s0_1:Int) (a0:Int) (b0:Bool) (c0:Int) (d0 w:World) (hI:IsS105 d0 w g s0_0 s0_1) (hB:Below d0.heap.size d0 w) (h:spec_l20Rd_odd.f k s0_0 s0_1 a0=some (b0,c0)):
  Calls Tryz.prog 66 #[.pointer (some ⟨g,0,none⟩),.int .i64 a0] w fun e w'=>e= .returned (.bool b0)∧IsS105 d0 w' g s0_0 c0∧Below d0.heap.size d0 w'∧KeepBut w w' g none:=by
 have e0:=qa hI;have HK:=qa (KeepBut.refl w g none);have HL:=qa hB.size;clear hI;have HW0:=qa hB.size;have HB:=qa hB;clear hB;have H:=h;unfold spec_l20Rd_odd.f at H;clear h;replace H:=qg H;obtain⟨g0,H⟩|⟨g0,H⟩:=H
 ·replace H:=qb H;obtain⟨⟨j0,l0⟩,n0,H⟩:=H;(try dsimp only at H);simp only[Option.some.injEq,Prod.mk.injEq]at H;obtain⟨rfl,rfl⟩:=H
  go_enter Tryz.func66,Tryz.ntmps66
  go_wp2_with(first|(go_at_call 64;(with_reducible refine(spec_l20Rd_pick.calls k g s0_0 s0_1 a0 j0 l0 d0 _ ?p0 ?q0 n0.out).mono ?_);(case p0=>exact kI e0);(case q0=>exact bl);rintro e r0 ⟨rfl,hi,hb,hk⟩;replace HK:=qa (KeepBut.trans (w:=w) (kK) hk (.inl rfl));replace HB:=qa (hb);replace e0:=qa (hi)))
  go_ret;exact⟨z1_,kI e0,bl,kK⟩
 ·simp only[Option.some.injEq,Prod.mk.injEq]at H;obtain⟨rfl,rfl⟩:=H
  go_enter Tryz.func66,Tryz.ntmps66
  go_wp2;go_ret;exact⟨z1_,kI e0,bl,kK⟩
end Go.Proofs.YtdmlkjjlgkdnlaaGreatDoor.PFnReadJournal
