import Derived.Test.YtdmlkjjlgkdnlaaGreatDoorPFnReadJournalx0
import Derived.Lib.SmallJoins
import Derived.Lib.ItoaNum
import Derived.Test.YtdmlkjjlgkdnlaaGreatDoorShelf
namespace Go.Proofs.YtdmlkjjlgkdnlaaGreatDoor.PFnReadJournal
open Go.RowKit Go.Proofs.YtdmlkjjlgkdnlaaGreatDoorW.PrintWords Go.Proofs.YtdmlkjjlgkdnlaaGreatDoorW.PrintLast Go.Proofs.YtdmlkjjlgkdnlaaGreatDoorW.PrintMore
attribute [local go_sem] max2_int min2_int max_two min_two max_three min_three max_four min_four
set_option linter.unusedVariables false
set_option linter.unusedSimpArgs false
set_option maxHeartbeats 8000000
set_option maxRecDepth 100000
theorem eqA55 (d:Nat) (w:World) (a0 b0:Int) (c0 d0:Int) (e0 g0:Int):
  (Op.equalIn (d+2) 55 (.agg #[.int .i64 a0,.int .i64 c0,.int .i64 e0]) (.agg #[.int .i64 b0,.int .i64 d0,.int .i64 g0])).run Tryz.prog w= .ok (a0==b0&&(c0==d0&&(e0==g0))) w:=by
 refine eqA_of Tryz.underlying55 kr_ ?_;refine eqf_cons (by rfl) (by go_simp;rfl) (by go_simp;rfl) (by go_simp) ?_;refine eqf_cons (by rfl) (by go_simp;rfl) (by go_simp;rfl) (by go_simp) ?_;exact eqf_last (by rfl) (by go_simp;rfl) (by go_simp;rfl) (by go_simp)
def impl_within.l0:Nat→List Int→Int→List Int→Int→Int→Option (Bool)
 |0,_,_,_,_,_=>none
 |k+1,a0,b0,c0,d0,e0=>if e0<d0 then(if 0≤e0 then(if e0<(c0.length:Int)then(if(rd c0 e0)<(wrap64 (-b0))then(some false)else(if(rd c0 e0)>b0 then(some false)else(impl_within.l0 k a0 b0 c0 d0 (wrap64 (e0+1)))))else(none))else(none))else(some ((a0.length:Int)==24))
def impl_within.f (k:Nat) (a0:List Int) (b0:Int):Option (Bool):=impl_within.l0 k a0 b0 a0 (a0.length:Int) 0
theorem impl_within.calls (k:Nat) (a0:Option Addr) (b0:Nat) (c0:List Int) (d0:Int) (r:Bool) (w:World) (e0:Kd.C (Kd.int .i64) w a0 c0.length c0) (g0:c0.length≤b0) (h:impl_within.f k c0 d0=some r):
  Calls Tryz.prog 120 #[.slice a0 c0.length b0,.int .i64 d0] w fun e w'=>e= .returned (.bool r)∧Drawn0 w w':=by
 have j0:=qa e0;have n0:=qa g0;clear e0 g0;have H:=h;unfold impl_within.f at H;clear h;have H':=qa H;clear H
 go_enter Tryz.func120,Tryz.ntmps120
 go_wp2
 go_loopg [9] k (fun kq p0 w'=>∃(q0:Int),p0= .int .i64 q0∧Aside0 (impl_within.l0 kq c0 d0 c0 (c0.length:Int) q0=some r)∧Aside0 (kq≤k)∧Drawn0 w w')
 case atStart=>exact⟨(0),(sd),H',⟨Nat.le_refl _⟩,dr⟩
 case round=>
  clear H';obtain⟨q0,rfl,HA,HK1,⟨m1,rfl⟩⟩:=hrel;obtain⟨k1,rfl,H⟩:=kz gk HA;clear HA;simp only[impl_within.l0]at H;replace H:=qe H;obtain⟨r0,H⟩|⟨r0,H⟩:=H
  ·replace H:=qd H;obtain⟨s0,H⟩:=H;replace H:=qd H;obtain⟨t0,H⟩:=H;replace H:=qe H;obtain⟨v0,H⟩|⟨v0,H⟩:=H
   ·obtain rfl:=sj H;obtain⟨w0,⟨⟩,x0,y0,A0⟩:=ai j0.out q0;go_wp2;go_ret;exact⟨sd,dr⟩
   ·replace H:=qg H;obtain⟨B0,H⟩|⟨B0,H⟩:=H
    ·obtain rfl:=sj H;obtain⟨w0,⟨⟩,x0,y0,A0⟩:=ai j0.out q0;go_wp2;go_ret;exact⟨sd,dr⟩
    ·have H':=qa H;clear H;obtain⟨w0,⟨⟩,x0,y0,A0⟩:=ai j0.out q0;go_wp2
     go_roundg k1
     case measure=>have:=HK1.out;omega
     case rel=>exact⟨(wrap64 (q0+1)),(sd),H',⟨by have:=HK1.out;omega⟩,dr⟩
  ·obtain rfl:=sj H;go_wp2;go_ret;exact⟨sd,dr⟩

def impl_RowOk.f (k:Nat) (a0:List Int):Option (Bool):=(impl_within.f k a0 1000000000).bind fun b0=>(some b0)
theorem impl_RowOk.calls (k:Nat) (a0:Option Addr) (b0:Nat) (c0:List Int) (r:Bool) (w:World) (d0:Kd.C (Kd.int .i64) w a0 c0.length c0) (e0:c0.length≤b0) (h:impl_RowOk.f k c0=some r):
  Calls Tryz.prog 78 #[.slice a0 c0.length b0] w fun e w'=>e= .returned (.bool r)∧Drawn0 w w':=by
 have g0:=qa d0;have j0:=qa e0;clear d0 e0;have H:=h;unfold impl_RowOk.f at H;clear h;replace H:=qb H;obtain⟨l0,n0,H⟩:=H;obtain rfl:=sj H
 go_enter Tryz.func78,Tryz.ntmps78
 go_wp2_with(first|(refine gd 4 Tryz.func120 (impl_within.calls k _ _ c0 1000000000 l0 _ (cx g0.out) j0.out n0.out) fun nd=>?_))
 go_ret;exact⟨sd,dr⟩

def impl_DeskOk.l0:Nat→List (List Int)→Int→Int→List Int→List (List Int)→Option (Bool)
 |0,_,_,_,_,_=>none
 |k+1,a0,b0,c0,d0,e0=>if c0<b0 then(if 0≤c0 then(if c0<(a0.length:Int)then((impl_RowOk.f k (rd_L1 a0 c0)).bind fun g0=>(if g0=true then(impl_DeskOk.l0 k a0 b0 (wrap64 (c0+1)) d0 e0)else(some false)))else(none))else(none))else((impl_RowOk.f k d0).bind fun j0=>(if j0=true then(some (decide ((e0.length:Int)≤8)))else(some false)))
def impl_DeskOk.f (k:Nat) (a0:List Int) (b0:List (List Int)):Option (Bool):=impl_DeskOk.l0 k b0 (b0.length:Int) 0 a0 b0
theorem impl_DeskOk.calls (k:Nat) (a0:Option Addr) (b0:Nat) (c0:List Int) (d0:Option Addr) (e0:Nat) (g0:List (List Int)) (r:Bool) (w:World) (j0:Kd.C (Kd.int .i64) w a0 c0.length c0) (n0:c0.length≤b0) (p0:Kd.C (Kd.slice 3 (Kd.int .i64)) w d0 g0.length g0) (q0:g0.length≤e0) (h:impl_DeskOk.f k c0 g0=some r):
  Calls Tryz.prog 37 #[.agg #[.slice a0 c0.length b0,.slice d0 g0.length e0]] w fun e w'=>e= .returned (.bool r)∧Below w.heap.size w w':=by
 have r0:=Tryz.underlying27;have s0:=qa j0;have t0:=qa n0;clear j0 n0;have v0:=qa p0;have w0:=qa q0;clear p0 q0;have HB:=qa (Below.refl w.heap.size w);have H:=h;unfold impl_DeskOk.f at H;clear h;have H':=qa H;clear H
 go_enter Tryz.func37,Tryz.ntmps37
 go_wp2_with(first|((with_reducible refine gate_dst (N:=1) rfl ?_);(try(refine gate_guard (by rfl) ?_;dsimp only));refine bx 1 #[.slice a0 c0.length b0,.slice d0 g0.length e0] 27 ?_;intro x0 hg y0 hbox hb;have A0:=qa (hbox);have B0:=gw hg;have C0:=gw hg;replace HB:=bs hb;clear hb hbox hg;obtain⟨D0,E0,G0,J0⟩:=qk2 A0))
 go_loopg [8] k (fun kq K0 w'=>∃(L0:Int),K0= .int .i64 L0∧Aside0 (impl_DeskOk.l0 kq g0 (g0.length:Int) L0 c0 g0=some r)∧Aside0 (kq≤k)∧Aside0 (w'.heap[x0]? =some (.cells #[(.slice a0 c0.length b0),(.slice d0 g0.length e0)] 27 (0,0)))∧Aside0 (Below w.heap.size w w'))
 case atStart=>exact⟨(0),(sd),H',⟨Nat.le_refl _⟩,⟨bk⟩,⟨bl⟩⟩
 case round=>
  clear H';obtain⟨L0,rfl,HA,HK1,A0,HB⟩:=hrel;obtain⟨k1,rfl,H⟩:=kz gk HA;clear HA;simp only[impl_DeskOk.l0]at H;replace H:=qe H;obtain⟨M0,H⟩|⟨M0,H⟩:=H
  ·replace H:=qd H;obtain⟨N0,H⟩:=H;replace H:=qd H;obtain⟨P0,H⟩:=H;replace H:=qb H;obtain⟨Q0,R0,H⟩:=H;replace H:=qc H;obtain⟨rfl,H⟩|⟨rfl,H⟩:=H
   ·have H':=qa H;clear H;obtain⟨U0,V0,W0,⟨⟩,X0,Y0,a1,b1,c1⟩:=cg_L1 v0.out L0;(try replace X0:=(HB.out.cell (World.block_lt_of_cell? w _ X0)).trans X0)
    go_wp2_with(first|(refine gd 13 Tryz.func78 (impl_RowOk.calls k1 _ _ (rd_L1 g0 L0) true _ (cx (Kd.C_below Y0.out HB.out)) a1.out R0.out) fun nd=>?_))
    go_roundg k1
    case measure=>have:=HK1.out;omega
    case rel=>exact⟨(wrap64 (L0+1)),(sd),H',⟨by have:=HK1.out;omega⟩,⟨bk⟩,⟨bl⟩⟩
   ·obtain rfl:=sj H;obtain⟨U0,V0,W0,⟨⟩,X0,Y0,a1,b1,c1⟩:=cg_L1 v0.out L0;(try replace X0:=(HB.out.cell (World.block_lt_of_cell? w _ X0)).trans X0)
    go_wp2_with(first|(refine gd 13 Tryz.func78 (impl_RowOk.calls k1 _ _ (rd_L1 g0 L0) false _ (cx (Kd.C_below Y0.out HB.out)) a1.out R0.out) fun nd=>?_))
    go_ret;exact⟨z1_,bl⟩
  ·replace H:=qb H;obtain⟨d1,e1,H⟩:=H;replace H:=qc H;obtain⟨rfl,H⟩|⟨rfl,H⟩:=H
   ·obtain rfl:=sj H;obtain⟨g1,j1,l1,n1⟩:=qk2 A0
    go_wp2_with(first|(refine gd 18 Tryz.func78 (impl_RowOk.calls k1 _ _ c0 true _ (cx (Kd.C_below s0.out HB.out)) t0.out e1.out) fun nd=>?_))
    go_ret;exact⟨z1_,bl⟩
   ·obtain rfl:=sj H;obtain⟨p1,q1,r1,s1⟩:=qk2 A0
    go_wp2_with(first|(refine gd 18 Tryz.func78 (impl_RowOk.calls k1 _ _ c0 false _ (cx (Kd.C_below s0.out HB.out)) t0.out e1.out) fun nd=>?_))
    go_ret;exact⟨z1_,bl⟩

-- IMPORT Derived.Lib.SmallJoins
-- IMPORT Derived.Lib.ItoaNum
structure GL (w:World):Prop where
 tab:Lib.TabIs Tryz.prog w "internal/strconv.uint64pow10" .u64 Lib.pow10Tab
 maxlen:∃m,w.cell? ⟨0,0,none⟩=some (.int .i64 m)
 esyn:∃ev,w.cell? ⟨1,0,none⟩=some ev∧(ev= .nilIface ∨∃te pe,ev= .iface te pe)
 eran:∃ev,w.cell? ⟨2,0,none⟩=some ev∧(ev= .nilIface ∨∃te pe,ev= .iface te pe)
theorem gl_pow:Tryz.prog.globalNamed "internal/strconv.uint64pow10" =some 3:=by kernel_rfl
theorem gl_cell {w w':World} {a:Addr} {v:Value} (h:w.cell? a=some v) (hb:Below w.heap.size w w'):w'.cell? a=some v:=(hb.cell (World.block_lt_of_cell? w _ h)).trans h
theorem GL_below {w w':World} (h:GL w) (hb:Below w.heap.size w w'):GL w':=by
 obtain⟨m,hm⟩:=h.maxlen;obtain⟨a0,h1,b0⟩:=h.esyn;obtain⟨c0,h2,d0⟩:=h.eran;exact⟨Joins.tab_stays gl_pow h.tab hb (Nat.le_refl _),⟨m,gl_cell hm hb⟩,⟨a0,gl_cell h1 hb,b0⟩,⟨c0,gl_cell h2 hb,d0⟩⟩

-- GLOBAL
-- IMPORT Derived.Test.YtdmlkjjlgkdnlaaGreatDoorShelf
def strconv_Itoa.f (a0:Int):Option (ByteArray):=if-9223372036854775808≤a0 then(if a0≤9223372036854775807 then some ⟨(Lib.itoa a0).toArray⟩else none)else none
theorem below_grow_ (w:World) (k:Nat) (os:Array Obj):Below w.heap.size w (Go.Sort.grow (w.drewN k) os):=
 ⟨rfl,rfl,rfl,by show w.heap.size≤(w.heap++os).size;rw[Array.size_append];omega,fun j hj=>by show(w.heap++os)[j]? =w.heap[j]?;rw[Array.getElem?_append_left hj]⟩
theorem strconv_Itoa.calls (a0:Int) (r:ByteArray) (w:World) (h:strconv_Itoa.f a0=some r) (hG_:GL w):
  Calls Tryz.prog 77 #[.int .i64 a0] w fun e w'=>e= .returned (.string r)∧Below w.heap.size w w':=by
 unfold strconv_Itoa.f at h
 by_cases h0: -9223372036854775808≤a0
 ·rw[if_pos h0]at h
  by_cases h1:a0≤9223372036854775807
  ·rw[if_pos h1]at h;obtain rfl:=Option.some.inj h;refine(Tryz.strconv_Itoa a0 h0 h1 w hG_.tab).mono ?_;rintro e w' ⟨rfl,k,os,rfl⟩;exact⟨rfl,below_grow_ w k os⟩
  ·rw[if_neg h1]at h;cases h
 ·rw[if_neg h0]at h;cases h
mutual
def impl_DeedText.j0:Nat→Bool→Int→Int→Int→Option (ByteArray)
 |0,_,_,_,_=>none
 |k+1,a0,b0,c0,d0=>if a0=true then((strconv_Itoa.f c0).bind fun e0=>(if 4+e0.size≤9223372036854775807 then(if((⟨#[115,101,116,32]⟩:ByteArray)++e0).size +1≤9223372036854775807 then((strconv_Itoa.f d0).bind fun g0=>(if(((⟨#[115,101,116,32]⟩:ByteArray)++e0)++(⟨#[32]⟩:ByteArray)).size +g0.size≤9223372036854775807 then(some ((((⟨#[115,101,116,32]⟩:ByteArray)++e0)++(⟨#[32]⟩:ByteArray))++g0))else(none)))else(none))else(none)))else(if d0=0 then(if c0<0 then(impl_DeedText.j1 k true b0 c0 d0)else(impl_DeedText.j1 k (decide (c0>9)) b0 c0 d0))else(impl_DeedText.j1 k true b0 c0 d0))
def impl_DeedText.j1:Nat→Bool→Int→Int→Int→Option (ByteArray)
 |0,_,_,_,_=>none
 |k+1,l0,b0,c0,d0=>if l0=true then(some (⟨#[]⟩:ByteArray))else(if b0=0 then((strconv_Itoa.f c0).bind fun n0=>(if 6+n0.size≤9223372036854775807 then(some ((⟨#[116,105,109,101,115,32]⟩:ByteArray)++n0))else(none)))else(if b0=1 then((strconv_Itoa.f c0).bind fun p0=>(if 8+p0.size≤9223372036854775807 then(some ((⟨#[117,110,105,116,97,114,121,32]⟩:ByteArray)++p0))else(none)))else(if c0=0 then(if b0=2 then(some (⟨#[105,110,118,101,114,115,101]⟩:ByteArray))else(if b0=4 then(some (⟨#[98,97,99,107]⟩:ByteArray))else(some (⟨#[]⟩:ByteArray))))else(some (⟨#[]⟩:ByteArray)))))
end

def impl_DeedText.f (k:Nat) (a0:Int) (b0:Int) (c0:Int):Option (ByteArray):=if a0=3 then(if b0≥0 then(if b0≤99 then(if c0≥0 then(impl_DeedText.j0 k (decide (c0≤9999)) a0 b0 c0)else(impl_DeedText.j0 k false a0 b0 c0))else(impl_DeedText.j0 k false a0 b0 c0))else(impl_DeedText.j0 k false a0 b0 c0))else(impl_DeedText.j0 k false a0 b0 c0)
def impl_DeedText.T2:Bool×List (List Nat×List Nat):=(true,[([],[]),([0],[0]),([1],[1]),([2],[2]),([3],[3]),([],[]),([5],[5]),([6,2],[6]),([4,7],[4,7]),([8,7,0,1,2,3,4,5,6,7,8],[8])])
def impl_DeedText.B2:List Nat:=[0,1,3,7,15,0,32,103,255,511]
theorem impl_DeedText.tab2:rtab .any (opsOf Tryz.f33 2)=impl_DeedText.T2:=by kernel_rfl
theorem impl_DeedText.bits2:waitsOk impl_DeedText.T2.2 impl_DeedText.B2=true:=by kernel_rfl
theorem impl_DeedText.calls (k:Nat) (a0:Int) (b0:Int) (c0:Int) (r:ByteArray) (w:World) (h:impl_DeedText.f k a0 b0 c0=some r) (hG_:GL w):
  Calls Tryz.prog 33 #[.agg #[.int .i64 a0,.int .i64 b0,.int .i64 c0]] w fun e w'=>e= .returned (.string r)∧Below w.heap.size w w':=by
 have d0:=Tryz.underlying55;have HB:=qa (Below.refl w.heap.size w);have H:=h;unfold impl_DeedText.f at H;clear h;have e0:=qa H;clear H
 go_enter Tryz.func33,Tryz.ntmps33
 go_upto_region 1 with(first|(refine bx 1 #[.int .i64 a0,.int .i64 b0,.int .i64 c0] 55 ?_;intro g0 hg l0 hbox hb;have n0:=qa (hbox);have p0:=gw hg;have q0:=gw hg;replace HB:=bs hb;clear hb hbox hg))
 (try simp only[Act.put,List.setIfInBounds_toArray,List.set_cons_zero,List.set_cons_succ])
 go_cut [3] (fun r0 wc=>∃(kq:Nat) (s0:Bool),r0= .bool s0∧Aside0 (impl_DeedText.j0 kq s0 a0 b0 c0=some r)∧Aside0 (kq≤k)∧Aside0 (wc.heap[g0]? =some (.cells #[.int .i64 a0,.int .i64 b0,.int .i64 c0] 55 (0,0)))∧Aside0 (Below w.heap.size w wc))
 case first=>
  have H:=e0.out;clear e0;replace H:=qq H;obtain⟨t0,v0,H⟩|⟨w0,t0,v0,H⟩:=H
  ·(first|rw[t0]|(simp only[i64_w,i32_w];rw[t0])|skip);replace H:=qu H;obtain⟨x0,H⟩|⟨x0,H⟩:=H
   ·replace H:=qe H;obtain⟨y0,H⟩|⟨y0,H⟩:=H
    ·replace H:=qu H;obtain⟨A0,H⟩|⟨A0,H⟩:=H
     ·have H':=qa H;clear H;obtain⟨B0,C0,D0,E0,G0,J0⟩:=qk3 n0;go_wp2;go_meet
      case rel=>exact⟨_,(decide (c0≤9999)),(sd),H',⟨by first|omega|exact Nat.le_refl _⟩,⟨bk⟩,⟨bl⟩⟩
     ·have H':=qa H;clear H;obtain⟨K0,L0,M0,N0,P0,Q0⟩:=qk3 n0;go_wp2;go_meet
      case rel=>exact⟨_,(false),(sd),H',⟨by first|omega|exact Nat.le_refl _⟩,⟨bk⟩,⟨bl⟩⟩
    ·have H':=qa H;clear H;obtain⟨R0,U0,V0,W0,X0,Y0⟩:=qk3 n0;go_wp2;go_meet
     case rel=>exact⟨_,(false),(sd),H',⟨by first|omega|exact Nat.le_refl _⟩,⟨bk⟩,⟨bl⟩⟩
   ·have H':=qa H;clear H;obtain⟨a1,b1,c1,d1,e1,g1⟩:=qk3 n0;go_wp2;go_meet
    case rel=>exact⟨_,(false),(sd),H',⟨by first|omega|exact Nat.le_refl _⟩,⟨bk⟩,⟨bl⟩⟩
  ·(first|rw[t0]|(simp only[i64_w,i32_w];rw[t0])|skip);have H':=qa H;clear H;obtain⟨l1,n1,p1,q1,r1,s1⟩:=qk3 n0;go_wp2;go_meet
   case rel=>exact⟨_,(false),(sd),H',⟨by first|omega|exact Nat.le_refl _⟩,⟨bk⟩,⟨bl⟩⟩
 case rest=>
  clear e0;obtain⟨kq,s0,rfl,HA,t1,n0,HB⟩:=hcut;obtain⟨v1,rfl,H⟩:=kz kq HA;clear HA;simp only[impl_DeedText.j0]at H;replace H:=qc H;obtain⟨rfl,H⟩|⟨rfl,H⟩:=H
  ·replace H:=qb H;obtain⟨w1,x1,H⟩:=H;replace H:=qN H;obtain⟨y1,A1,B1,C1,H⟩:=H;replace H:=qN H;obtain⟨D1,E1,G1,J1,H⟩:=H
   try(have c16bq:=J1;simp only[ByteArray.size_append,show(⟨#[115,101,116,32]⟩:ByteArray).size =4 from rfl]at c16bq)
   replace H:=qb H;obtain⟨K1,L1,H⟩:=H;replace H:=qN H;obtain⟨M1,N1,P1,Q1,H⟩:=H
   try(have c18bq:=Q1;simp only[ByteArray.size_append,show(⟨#[115,101,116,32]⟩:ByteArray).size =4 from rfl,show(⟨#[32]⟩:ByteArray).size =1 from rfl]at c18bq)
   obtain rfl:=sj H
   try go_wp2
   replace n0:=qa (blk_drew n0.out);replace HB:=qa (below_drew1 HB.out);refine start_ (n:=10) (S:=fun w'=>w'.cell? ⟨g0,0,none⟩=some (.int .i64 a0)∧w'.cell? ⟨g0,1,none⟩=some (.int .i64 b0)∧w'.cell? ⟨g0,2,none⟩=some (.int .i64 c0)) (ds:=[]) _ kr_ rfl rfl ⟨(blk_cell n0.out 0).trans rfl,(blk_cell n0.out 1).trans rfl,(blk_cell n0.out 2).trans rfl⟩ (fun hHeld=>?_);refine with_tabW impl_DeedText.tab2 impl_DeedText.bits2 (fun HT_ HW_=>?_);generalize wc.drew=R1 at n0 HB hHeld ⊢;refine pur 0 27 (bz 10 1) HT_ ?_;refine pur 5 32 (bz 10 33) HT_ ?_;refine tk 1 28 (bz 10 35) hHeld (take_ofW HT_.out HW_.out kr_) ?_;refine tk 6 33 (bz 10 99) hHeld (take_ofW HT_.out HW_.out kr_) ?_;(refine o1 2 (some 29) (bz 10 103) (one_of HT_.out kr_) fun K hK=>?_);(refine gsb Tryz.func77 (strconv_Itoa.calls b0 w1 _ x1.out (GL_below hG_ (bl))) fun U1 hb=>?_);replace n0:=qbb n0 hb;replace HB:=bs hb;(try clear hb);(try clear V1);(try clear hk);(try clear hi);refine hK.out _ _ ⟨(blk_cell n0.out 0).trans rfl,(blk_cell n0.out 1).trans rfl,(blk_cell n0.out 2).trans rfl⟩ (fun hHeld=>?_);clear hK K;refine nm 29 ?_;refine pur 3 30 (bz 10 111) HT_ ?_;refine pur 4 31 (bz 10 127) HT_ ?_;(refine o1 7 (some 34) (bz 10 255) (one_of HT_.out kr_) fun K hK=>?_);(refine gsb Tryz.func77 (strconv_Itoa.calls c0 K1 _ L1.out (GL_below hG_ (bl))) fun W1 hb=>?_);replace n0:=qbb n0 hb;replace HB:=bs hb;(try clear hb);(try clear V1);(try clear hk);(try clear hi);refine hK.out _ _ ⟨(blk_cell n0.out 0).trans rfl,(blk_cell n0.out 1).trans rfl,(blk_cell n0.out 2).trans rfl⟩ (fun hHeld=>?_);clear hK K;refine nm 34 ?_;refine pur 8 35 (bz 10 511) HT_ ?_;refine pur 9 2 (bz 10 1023) HT_ ?_;refine done_ (done_of HT_.out kr_) ?_
   try go_wp2
   go_ret;exact⟨z1_,bl⟩
  ·have X1:=qa H;clear H
   go_upto_region 3 with(fail)
   go_cut [36] (fun Y1 wc=>∃(kq:Nat) (a2:Bool),Y1= .bool a2∧Aside0 (impl_DeedText.j1 kq a2 a0 b0 c0=some r)∧Aside0 (kq≤v1)∧Aside0 (wc.heap[g0]? =some (.cells #[.int .i64 a0,.int .i64 b0,.int .i64 c0] 55 (0,0)))∧Aside0 (Below w.heap.size w wc))
   case first=>
    have H:=X1.out;clear X1;replace H:=qq H;obtain⟨b2,c2,H⟩|⟨d2,b2,c2,H⟩:=H
    ·(first|rw[b2]|(simp only[i64_w,i32_w];rw[b2])|skip);replace H:=qe H;obtain⟨e2,H⟩|⟨e2,H⟩:=H
     ·have H':=qa H;clear H;obtain⟨g2,j2,l2,n2,p2,q2⟩:=qk3 n0;go_wp2;go_meet
      case rel=>exact⟨_,(true),(sd),H',⟨by have:=t1.out;first|omega|exact Nat.le_refl _⟩,⟨bk⟩,⟨bl⟩⟩
     ·have H':=qa H;clear H;obtain⟨r2,s2,t2,v2,w2,x2⟩:=qk3 n0;go_wp2;go_meet
      case rel=>exact⟨_,(decide (b0>9)),(sd),H',⟨by have:=t1.out;first|omega|exact Nat.le_refl _⟩,⟨bk⟩,⟨bl⟩⟩
    ·(first|rw[b2]|(simp only[i64_w,i32_w];rw[b2])|skip);have H':=qa H;clear H;obtain⟨y2,A2,B2,C2,D2,E2⟩:=qk3 n0;go_wp2;go_meet
     case rel=>exact⟨_,(true),(sd),H',⟨by have:=t1.out;first|omega|exact Nat.le_refl _⟩,⟨bk⟩,⟨bl⟩⟩
   case rest=>
    clear X1;obtain⟨kq,a2,rfl,HA,G2,n0,HB⟩:=hcut;obtain⟨J2,rfl,H⟩:=kz kq HA;clear HA;simp only[impl_DeedText.j1]at H;replace H:=qc H;obtain⟨rfl,H⟩|⟨rfl,H⟩:=H
    ·obtain rfl:=sj H;go_wp2;go_ret;exact⟨z1_,bl⟩
    ·replace H:=qq H;obtain⟨K2,L2,H⟩|⟨M2,K2,L2,H⟩:=H
     ·replace H:=qb H;obtain⟨N2,P2,H⟩:=H;replace H:=qN H;obtain⟨Q2,R2,U2,V2,H⟩:=H;obtain rfl:=sj H;obtain⟨W2,X2,Y2,a3,b3,c3⟩:=qk3 n0
      go_wp2_with(first|(refine gb 56 Tryz.func77 (strconv_Itoa.calls b0 N2 _ P2.out (GL_below hG_ (bl))) fun d3 hb=>?_;replace n0:=qbb n0 hb;replace HB:=bs hb))
      go_ret;exact⟨z1_,bl⟩
     ·replace H:=qq H;obtain⟨e3,g3,H⟩|⟨j3,e3,g3,H⟩:=H
      ·replace H:=qb H;obtain⟨l3,n3,H⟩:=H;replace H:=qN H;obtain⟨p3,q3,r3,s3,H⟩:=H;obtain rfl:=sj H;obtain⟨t3,v3,w3,x3,y3,A3⟩:=qk3 n0
       go_wp2_with(first|(refine gb 64 Tryz.func77 (strconv_Itoa.calls b0 l3 _ n3.out (GL_below hG_ (bl))) fun B3 hb=>?_;replace n0:=qbb n0 hb;replace HB:=bs hb))
       go_ret;exact⟨z1_,bl⟩
      ·replace H:=qq H;obtain⟨C3,D3,H⟩|⟨E3,C3,D3,H⟩:=H
       ·replace H:=qq H;obtain⟨G3,J3,H⟩|⟨K3,G3,J3,H⟩:=H
        ·obtain rfl:=sj H;obtain⟨L3,M3,N3,P3,Q3,R3⟩:=qk3 n0;go_wp2;go_ret;exact⟨z1_,bl⟩
        ·replace H:=qq H;obtain⟨U3,V3,H⟩|⟨W3,U3,V3,H⟩:=H
         ·obtain rfl:=sj H;obtain⟨X3,Y3,a4,b4,c4,d4⟩:=qk3 n0;go_wp2;go_ret;exact⟨z1_,bl⟩
         ·obtain rfl:=sj H;obtain⟨e4,g4,j4,l4,n4,p4⟩:=qk3 n0;go_wp2;go_ret;exact⟨z1_,bl⟩
       ·obtain rfl:=sj H;obtain⟨q4,r4,s4,t4,v4,w4⟩:=qk3 n0;go_wp2;go_ret;exact⟨z1_,bl⟩

-- GLOBAL
-- IMPORT Derived.Test.YtdmlkjjlgkdnlaaGreatDoorShelf
def strings_Split.f (a0 b0:ByteArray):Option (List ByteArray):=if a0.size<4294967281 then(if 1≤b0.size then some (Lib.splitB b0 0 (Lib.countB a0 b0) a0)else none)else none
theorem strings_Split.calls (a0:ByteArray) (b0:ByteArray) (r:List ByteArray) (w:World) (h:strings_Split.f a0 b0=some r) (hG_:GL w):
  Calls Tryz.prog 92 #[.string a0,.string b0] w fun e w'=>∃v0_:Value,e= .returned (v0_)∧Kd.R Kd.string 9 w' w.heap.size (fun _=>True) v0_ r∧Below w.heap.size w w':=by
 unfold strings_Split.f at h
 by_cases h0:a0.size<4294967281
 ·rw[if_pos h0]at h
  by_cases h1:1≤b0.size
  ·rw[if_pos h1]at h;obtain rfl:=Option.some.inj h;obtain⟨m,hm⟩:=hG_.maxlen;refine(Tryz.strings_Split a0 b0 m w h0 hm h1).mono ?_;rintro e w' ⟨rfl,rfl⟩;have hl:=Lib.splitB_all b0 h1 0 _ a0 rfl;have hc:=Lib.countB_le b0 h1 a0.size a0 (Nat.le_refl _);refine⟨_,rfl,?_,below_alloc (Below.refl _ _) _⟩;refine Kd.R_of_own (enc:=Value.string) (h1:=fun _=>rfl) ⟨by rw[encs_length,Nat.mul_one],.inr ⟨w.heap.size,Lib.countB a0 b0+1,((Lib.splitB b0 0 (Lib.countB a0 b0) a0).map Value.string).toArray,by rw[hl],Nat.le_refl _,?_,by rw[hl];exact Nat.le_refl _,?_,?_,?_⟩⟩ (fun _ _=>trivial)
   ·show(w.heap.push _)[w.heap.size]? =_
    simp
   ·have:maxLen=9223372036854775807:=rfl
    omega
   ·simp[hl]
   ·rw[Nat.mul_one];unfold encs;exact List.take_of_length_le (by simp)
  ·rw[if_neg h1]at h;cases h
 ·rw[if_neg h0]at h;cases h

def slices_Index_string_string.l0:Nat→List ByteArray→ByteArray→Int→Int→Option (Int)
 |0,_,_,_,_=>none
 |k+1,a0,b0,c0,d0=>if d0<c0 then(if 0≤d0 then(if d0<(a0.length:Int)then(if b0.toList=(rdOf ByteArray.empty a0 d0).toList then(some d0)else(slices_Index_string_string.l0 k a0 b0 c0 (wrap64 (d0+1))))else(none))else(none))else(some (-1))
def slices_Index_string_string.f (k:Nat) (a0:List ByteArray) (b0:ByteArray):Option (Int):=slices_Index_string_string.l0 k a0 b0 (a0.length:Int) 0
theorem slices_Index_string_string.calls (k:Nat) (a0:Option Addr) (b0:Nat) (c0:List ByteArray) (d0:ByteArray) (r:Int) (w:World) (e0:Kd.C Kd.string w a0 c0.length c0) (g0:c0.length≤b0) (h:slices_Index_string_string.f k c0 d0=some r):
  Calls Tryz.prog 93 #[.slice a0 c0.length b0,.string d0] w fun e w'=>e= .returned (.int .i64 r)∧Drawn0 w w':=by
 have j0:=qa e0;have n0:=qa g0;clear e0 g0;have H:=h;unfold slices_Index_string_string.f at H;clear h;have H':=qa H;clear H
 go_enter Tryz.func93,Tryz.ntmps93
 go_wp2
 go_loopg [8] k (fun kq p0 w'=>∃(q0:Int),p0= .int .i64 q0∧Aside0 (slices_Index_string_string.l0 kq c0 d0 (c0.length:Int) q0=some r)∧Aside0 (kq≤k)∧Drawn0 w w')
 case atStart=>exact⟨(0),(sd),H',⟨Nat.le_refl _⟩,dr⟩
 case round=>
  clear H';obtain⟨q0,rfl,HA,HK1,⟨m1,rfl⟩⟩:=hrel;obtain⟨k1,rfl,H⟩:=kz gk HA;clear HA;simp only[slices_Index_string_string.l0]at H;replace H:=qe H;obtain⟨r0,H⟩|⟨r0,H⟩:=H
  ·replace H:=qd H;obtain⟨s0,H⟩:=H;replace H:=qd H;obtain⟨t0,H⟩:=H;replace H:=qq H;obtain⟨v0,w0,H⟩|⟨x0,v0,w0,H⟩:=H
   ·obtain rfl:=sj H;obtain⟨y0,⟨⟩,A0,B0,C0⟩:=as_ j0.out q0;go_wp2;go_ret;exact⟨sd,dr⟩
   ·have H':=qa H;clear H;obtain⟨y0,⟨⟩,A0,B0,C0⟩:=as_ j0.out q0;go_wp2
    go_roundg k1
    case measure=>have:=HK1.out;omega
    case rel=>exact⟨(wrap64 (q0+1)),(sd),H',⟨by have:=HK1.out;omega⟩,dr⟩
  ·obtain rfl:=sj H;go_wp2;go_ret;exact⟨sd,dr⟩

-- GLOBAL
-- IMPORT Derived.Test.YtdmlkjjlgkdnlaaGreatDoorShelf
def strconv_Atoi.val (s:ByteArray):Int:=match Lib.atoiAll s.data.toList with
 | .ok v => v
 | .range => Lib.atoiSat s.data.toList
 | _ => 0
def strconv_Atoi.err (s:ByteArray):Option Int:=match Lib.atoiAll s.data.toList with
 | .ok _=>none
 |_=>some 0
def strconv_Atoi.f (a0:ByteArray):Option (Int×Option Int):=if a0.size≤281474976710656 then some (strconv_Atoi.val a0,strconv_Atoi.err a0)else none
theorem strconv_Atoi.calls (a0:ByteArray) (b0:Int) (c0:Option Int) (w:World) (h:strconv_Atoi.f a0=some (b0,c0)) (hG_:GL w):
  Calls Tryz.prog 94 #[.string a0] w fun e w'=>∃ev:Value,((c0=none∧ev= .nilIface)∨(c0≠none∧∃te pe,ev= .iface te pe))∧e= .returned (.tuple #[.int .i64 b0,ev])∧Below w.heap.size w w':=by
 unfold strconv_Atoi.f at h
 by_cases h0:a0.size≤281474976710656
 ·rw[if_pos h0]at h;have d0:strconv_Atoi.val a0=b0:=congrArg (·.1) (Option.some.inj h);have e0:strconv_Atoi.err a0=c0:=congrArg (·.2) (Option.some.inj h);unfold strconv_Atoi.val at d0;unfold strconv_Atoi.err at e0
  rcases ha:Lib.atoiAll a0.data.toList with v|_|_
  ·rw[ha]at d0 e0;refine(Tryz.strconv_Atoi_ok a0 ko_ v ha w).mono ?_;rintro e w' ⟨rfl,hw⟩;refine⟨_,.inl ⟨e0.symm,rfl⟩,by rw[←d0],?_⟩
   rcases hw with rfl|⟨t,rfl⟩
   ·exact Below.refl _ _
   ·exact Lib.bytesWorld_below _ _ _
  ·rw[ha]at d0 e0;obtain⟨ev,h1,h2⟩:=hG_.esyn;refine(Tryz.strconv_Atoi_syntax a0 h0 ha ev w h1 h2).mono ?_;rintro e w' ⟨N,rfl,_,_,hb⟩;exact⟨_,.inr ⟨by rw[←e0];simp,_,_,rfl⟩,by rw[←d0],hb⟩
  ·rw[ha]at d0 e0;obtain⟨ev,h1,h2⟩:=hG_.eran;refine(Tryz.strconv_Atoi_range a0 h0 ha ev w h1 h2).mono ?_;rintro e w' ⟨N,rfl,_,_,hb⟩;exact⟨_,.inr ⟨by rw[←e0];simp,_,_,rfl⟩,by rw[←d0],hb⟩
 ·rw[if_neg h0]at h;cases h
theorem ev0_ {ev:Value} (h:((none:Option Int)=none∧ev= .nilIface)∨((none:Option Int)≠none∧∃te pe,ev= .iface te pe)):ev= .nilIface :=h.elim (·.2) fun z=>absurd rfl z.1
theorem ev1_ {c:Int} {ev:Value} (h:(some c=none∧ev= .nilIface)∨(some c≠none∧∃te pe,ev= .iface te pe)):∃te pe,ev= .iface te pe:=h.elim (fun z=>by cases z.1) (·.2)
mutual
def impl_ReadDeed.j0:Nat→ByteArray→List ByteArray→Int→Bool→Option (Int×Int×Int×Bool)
 |0,_,_,_,_=>none
 |k+1,a0,b0,c0,d0=>if d0=true then(some (0,0,0,false))else((some (([0,1,2,3,4]:List Int):List Int)).bind fun e0=>(if 0≤c0 then(if c0<(e0.length:Int)then(if(b0.length:Int)>1 then(if 1<(b0.length:Int)then((strconv_Atoi.f (rdOf ByteArray.empty b0 1)).bind fun g0=>(impl_ReadDeed.j1 k a0 b0 (rd e0 c0) g0.1 0))else(none))else(impl_ReadDeed.j1 k a0 b0 (rd e0 c0) 0 0))else(none))else(none)))
def impl_ReadDeed.j1:Nat→ByteArray→List ByteArray→Int→Int→Int→Option (Int×Int×Int×Bool)
 |0,_,_,_,_,_=>none
 |k+1,a0,b0,l0,n0,p0=>if(b0.length:Int)>2 then(if 2<(b0.length:Int)then((strconv_Atoi.f (rdOf ByteArray.empty b0 2)).bind fun q0=>((impl_DeedText.f k l0 n0 q0.1).bind fun r0=>(if r0.toList=a0.toList then(some (l0,n0,q0.1,true))else(some (0,0,0,false)))))else(none))else((impl_DeedText.f k l0 n0 p0).bind fun s0=>(if s0.toList=a0.toList then(some (l0,n0,p0,true))else(some (0,0,0,false))))
end

def impl_ReadDeed.f (k:Nat) (a0:ByteArray):Option (Int×Int×Int×Bool):=(strings_Split.f a0 (⟨#[32]⟩:ByteArray)).bind fun b0=>(if 0<(b0.length:Int)then((slices_Index_string_string.f k (([(⟨#[116,105,109,101,115]⟩:ByteArray),(⟨#[117,110,105,116,97,114,121]⟩:ByteArray),(⟨#[105,110,118,101,114,115,101]⟩:ByteArray),(⟨#[115,101,116]⟩:ByteArray),(⟨#[98,97,99,107]⟩:ByteArray)]:List ByteArray)) (rdOf ByteArray.empty b0 0)).bind fun c0=>(if c0<0 then(impl_ReadDeed.j0 k a0 b0 c0 true)else(impl_ReadDeed.j0 k a0 b0 c0 (decide ((b0.length:Int)>3)))))else(none))
theorem impl_ReadDeed.calls (k:Nat) (a0:ByteArray) (b0:Int) (c0:Int) (d0:Int) (e0:Bool) (w:World) (h:impl_ReadDeed.f k a0=some (b0,c0,d0,e0)) (hG_:GL w):
  Calls Tryz.prog 52 #[.string a0] w fun e w'=>e= .returned (.tuple #[.agg #[.int .i64 b0,.int .i64 c0,.int .i64 d0],.bool e0])∧Below w.heap.size w w':=by
 have g0:=Tryz.underlying55;have HB:=qa (Below.refl w.heap.size w);have H:=h;unfold impl_ReadDeed.f at H;clear h;replace H:=qb H;obtain⟨l0,n0,H⟩:=H;obtain⟨p0,hy_⟩:∃y_:List ByteArray,y_=(([(⟨#[116,105,109,101,115]⟩:ByteArray),(⟨#[117,110,105,116,97,114,121]⟩:ByteArray),(⟨#[105,110,118,101,114,115,101]⟩:ByteArray),(⟨#[115,101,116]⟩:ByteArray),(⟨#[98,97,99,107]⟩:ByteArray)]:List ByteArray)):=⟨_,rfl⟩;replace H:(if 0<(l0.length:Int)then((slices_Index_string_string.f k p0 (rdOf ByteArray.empty l0 0)).bind fun q0=>(if q0<0 then(impl_ReadDeed.j0 k a0 l0 q0 true)else(impl_ReadDeed.j0 k a0 l0 q0 (decide ((l0.length:Int)>3)))))else(none))=some (b0,c0,d0,e0):=yh;have r0:=qa hy_;clear hy_
 by_cases s0:0<(l0.length:Int)
 ·rw[if_pos s0]at H;have t0:decide (0<(l0.length:Int))=true:=decide_eq_true s0;have v0:decide (0<l0.length)=true:=decide_eq_true ko_;clear s0;replace H:=qb H;obtain⟨q0,w0,H⟩:=H;have x0:=qa H;clear H
  go_enter Tryz.func52,Tryz.ntmps52
  go_upto_region 3 with(first|((with_reducible refine gate_dst (N:=2) rfl ?_);(try(refine gate_guard (by rfl) ?_;dsimp only));refine bx 2 #[.int .i64 0,.int .i64 0,.int .i64 0] 55 ?_;intro y0 hg A0 hbox hb;have B0:=qa (hbox);have C0:=gw hg;have D0:=gw hg;replace HB:=bs hb;clear hb hbox hg)|(refine ge_ 8 Tryz.func92 (strings_Split.calls a0 (⟨#[32]⟩:ByteArray) l0 _ n0.out (GL_below hG_ (bl))) fun E0 G0 J0 hb=>?_;have K0:=qa (Kd.R_lower J0 (below_size (bl)));replace B0:=qbb B0 hb;replace HB:=bs hb)|(refine rls 9 9 r0.out fun L0 M0 N0 hb=>?_;have P0:=qa (Kd.R_lower (Kd.R_new' N0 (Kd.R_lt (kR K0))) (below_size (bl)));replace K0:=qa (Kd.R_elder' (kR K0) (Kd.R_base N0) hb);replace B0:=qbb B0 hb;replace HB:=bs hb;clear hb N0;obtain⟨Q0,R0,rfl⟩:=Kd.R_slice K0.out;obtain⟨U0,⟨⟩,V0,qi120,W0,X0⟩:=asn 0 (Kd.R_reads' K0.out).2.2 0;(try rw[Addr.add_zero']at V0);obtain⟨Y0,a1,rfl⟩:=Kd.R_slice P0.out)|(refine gd 13 Tryz.func93 (slices_Index_string_string.calls k _ _ p0 (rdOf ByteArray.empty l0 0) q0 _ (cx (Kd.R_reads' P0.out).2.2) ((Kd.R_reads' P0.out).2.1) w0.out) fun nd=>?_))
  (try simp only[Act.put,List.setIfInBounds_toArray,List.set_cons_zero,List.set_cons_succ])
  go_cut [20] (fun b1 wc=>∃(kq:Nat) (c1:Bool),b1= .bool c1∧Aside0 (impl_ReadDeed.j0 kq a0 l0 q0 c1=some (b0,c0,d0,e0))∧Aside0 (kq≤k)∧Aside0 (Kd.R Kd.string 9 wc w.heap.size (fun _=>True) (.slice (some U0) l0.length R0) l0)∧Aside0 (wc.heap[y0]? =some (.cells #[.int .i64 0,.int .i64 0,.int .i64 0] 55 (0,0)))∧Aside0 (Below w.heap.size w wc))
  case first=>
   have H:=x0.out;clear x0;replace H:=qe H;obtain⟨d1,H⟩|⟨d1,H⟩:=H
   ·(first|rw[d1]|(simp only[i64_w,i32_w];rw[d1])|skip);have H':=qa H;clear H;go_wp2;go_meet
    case rel=>exact⟨_,(true),(sd),H',⟨by first|omega|exact Nat.le_refl _⟩,⟨by(with_reducible repeat(first|apply Kd.R_alloc|apply Kd.R_drewN|apply Kd.R_drew));exact Kd.R_mono K0.out (fun _ hk=>trivial)⟩,⟨bk⟩,⟨bl⟩⟩
   ·(first|rw[d1]|(simp only[i64_w,i32_w];rw[d1])|skip);have H':=qa H;clear H;go_wp2;go_meet
    case rel=>exact⟨_,(decide ((l0.length:Int)>3)),(sd),H',⟨by first|omega|exact Nat.le_refl _⟩,⟨by(with_reducible repeat(first|apply Kd.R_alloc|apply Kd.R_drewN|apply Kd.R_drew));exact Kd.R_mono K0.out (fun _ hk=>trivial)⟩,⟨bk⟩,⟨bl⟩⟩
  case rest=>
   clear x0;obtain⟨kq,c1,rfl,HA,e1,g1,B0,HB⟩:=hcut;obtain⟨l1,rfl,H⟩:=kz kq HA;clear HA;simp only[impl_ReadDeed.j0]at H;replace H:=qc H;obtain⟨rfl,H⟩|⟨rfl,H⟩:=H
   ·simp only[Option.some.injEq,Prod.mk.injEq]at H;obtain⟨rfl,rfl,rfl,rfl⟩:=H;obtain⟨n1,p1,q1,r1,s1,t1⟩:=qk3 B0;go_wp2;refine bodyPost_ret (results_ct rfl _ _ y0 55 #[.int .i64 0,.int .i64 0,.int .i64 0] (0,0) _ rfl (kP B0) Tryz.underlying55 rfl kr_) rfl ?_;exact⟨z1_,bl⟩
   ·replace H:=qs H;obtain⟨v1,w1,H⟩:=H;replace H:=qd H;obtain⟨x1,H⟩:=H;replace H:=qd H;obtain⟨y1,H⟩:=H;have A1:=qa H;clear H
    go_upto_if 29 with(first|(refine rli .i64 3 22 w1.out fun B1 C1 D1 hb=>?_;replace g1:=qa (Kd.R_below (kR g1) hb);have E1:=qa (Kd.R_lower D1 (below_size (bl)));replace B0:=qbb B0 hb;replace HB:=bs hb;clear hb D1;obtain⟨G1,J1,rfl⟩:=Kd.R_slice E1.out;obtain⟨K1,⟨⟩,L1,M1,N1⟩:=ai (Kd.R_reads' E1.out).2.2 q0)|((with_reducible refine gate_dst (N:=6) rfl ?_);(try(refine gate_guard (by rfl) ?_;dsimp only));refine bx 6 #[.int .i64 0,.int .i64 0,.int .i64 0] 55 ?_;intro P1 hg Q1 hbox hb;replace g1:=qa (Kd.R_below (kR g1) hb);replace E1:=qa (Kd.R_below (kR E1) hb);have R1:=qa (hbox);have U1:=gw hg;have V1:=gw hg;replace HB:=bs hb;have W1:=qnl hg B0;have X1:=qng hg B0;replace B0:=qbb B0 hb;clear hb hbox hg;have Y1:=X1.out;have a2:=W1.out;obtain⟨b2,c2,d2,e2,g2,j2⟩:=qk3 R1))
    (try simp only[Act.put,List.setIfInBounds_toArray,List.set_cons_zero,List.set_cons_succ])
    go_cut [] (fun wc=>∃(kq:Nat) (l2:Int),Aside0 (impl_ReadDeed.j1 kq a0 l0 (rd v1 q0) l2 0=some (b0,c0,d0,e0))∧Aside0 (kq≤l1)∧Aside0 (Kd.R Kd.string 9 wc w.heap.size (fun _=>True) (.slice (some U0) l0.length R0) l0)∧Aside0 (wc.heap[y0]? =some (.cells #[.int .i64 0,.int .i64 0,.int .i64 0] 55 (0,0)))∧Aside0 (wc.heap[P1]? =some (.cells #[.int .i64 (rd v1 q0),.int .i64 l2,.int .i64 0] 55 (0,0)))∧Aside0 (Below w.heap.size w wc))
    case first=>
     have H:=A1.out;clear A1
     by_cases n2:(l0.length:Int)>1
     ·rw[if_pos n2]at H;have p2:decide (1<(l0.length:Int))=true:=decide_eq_true n2;have q2:decide (1<l0.length)=true:=decide_eq_true ko_;clear n2;(first|rw[p2]|(simp only[i64_w,i32_w];rw[p2])|skip);replace H:=qL 1 H;obtain⟨r2,s2,H⟩:=H;replace H:=qb H;obtain⟨⟨t2,v2⟩,w2,H⟩:=H;(try dsimp only at H);have H':=qa H;clear H;have x2:0≤(1:Int):=ko_;have y2:1<(l0.length:Int):=qo;obtain⟨A2,B2,C2⟩:=Kd.at_string (Kd.R_reads' g1.out).2.2 1 x2 y2;obtain rfl:U0=A2:=(by injection B2);(try simp only[show(1:Int).toNat =1 from rfl,Nat.reduceMul,Nat.reduceEqDiff,Go.Addr.add,↓reduceIte]at C2);have qi127:(1<l0.length)=True:=eq_true ko_;(try rw[show((1:Int)).toNat =1 from rfl]at C2);have D2:U0.block≠P1:=Kd.own_blk (Kd.R_ne g1.out R1.out kd_);have E2:U0.block≠P1:=Kd.own_blk (Kd.R_ne g1.out R1.out kd_);have G2:U0.block≠P1:=Kd.own_blk (Kd.R_ne g1.out R1.out kd_);replace C2:=(cell_far (p:=⟨P1,0,none⟩) (by first|(rw[add_block];exact D2)|(show(Addr.add _ _).block ≠_;rw[add_block];exact D2)|exact D2) (.int .i64 (rd v1 q0))).trans C2;replace C2:=(cell_far (p:=⟨P1,1,none⟩) (by first|(rw[add_block];exact E2)|(show(Addr.add _ _).block ≠_;rw[add_block];exact E2)|exact E2) (.int .i64 0)).trans C2;replace C2:=(cell_far (p:=⟨P1,2,none⟩) (by first|(rw[add_block];exact G2)|(show(Addr.add _ _).block ≠_;rw[add_block];exact G2)|exact G2) (.int .i64 0)).trans C2;clear D2;clear E2;clear G2;replace x2:=eq_true x2;replace y2:=eq_true y2
      go_wp2_with(first|(refine gol (some 34) Tryz.func94 #[.string (rdOf ByteArray.empty l0 1)] ?_;(with_reducible refine(strconv_Atoi.calls (rdOf ByteArray.empty l0 1) t2 v2 _ w2.out ?J2).mono ?_);(case J2=>exact GL_below hG_ (bl));rintro e K2 ⟨ev_,hev_,rfl,hb⟩;refine⟨_,rfl,?_⟩;replace g1:=qa (Kd.R_below (kFR g1 R1 (fun _ h_=>h_.1)) hb);replace E1:=qa (Kd.R_below (kFR E1 R1 (fun _ h_=>h_.1)) hb);replace B0:=qbb B0 hb;replace R1:=qa (blk_below (g:=P1) (o:= .cells #[.int .i64 (rd v1 q0),.int .i64 0,.int .i64 0] 55 (0,0)) (kP R1) hb);replace HB:=bs hb;(try simp only[errW_none,errW_some]);have L2:=X1.out;have M2:=W1.out;obtain⟨N2,P2,Q2,R2,U2,V2⟩:=qk3 R1))
      go_meet
      case rel=>exact⟨_,(t2),H',⟨by have:=e1.out;first|omega|exact Nat.le_refl _⟩,⟨kFR g1 R1 (fun _ hk=>trivial)⟩,⟨kb B0⟩,⟨kP R1⟩,⟨bl⟩⟩
     ·rw[if_neg n2]at H;have p2:decide (1<(l0.length:Int))=false:=decide_eq_false n2;have q2:decide (1<l0.length)=false:=decide_eq_false ko_;clear n2;(first|rw[p2]|(simp only[i64_w,i32_w];rw[p2])|skip);have H':=qa H;clear H;go_wp2;go_meet
      case rel=>exact⟨_,(0),H',⟨by have:=e1.out;first|omega|exact Nat.le_refl _⟩,⟨kFR g1 R1 (fun _ hk=>trivial)⟩,⟨kb B0⟩,⟨kP R1⟩,⟨bl⟩⟩
    case rest=>
     clear A1;obtain⟨kq,l2,HA,W2,g1,B0,R1,HB⟩:=hcut;obtain⟨X2,rfl,H⟩:=kz kq HA;clear HA;simp only[impl_ReadDeed.j1]at H
     by_cases Y2:(l0.length:Int)>2
     ·rw[if_pos Y2]at H;have a3:decide (2<(l0.length:Int))=true:=decide_eq_true Y2;have b3:decide (2<l0.length)=true:=decide_eq_true ko_;clear Y2;replace H:=qL 2 H;obtain⟨c3,d3,H⟩:=H;replace H:=qb H;obtain⟨⟨e3,g3⟩,j3,H⟩:=H;(try dsimp only at H);replace H:=qb H;obtain⟨l3,n3,H⟩:=H;replace H:=qq H;obtain⟨p3,q3,H⟩|⟨r3,p3,q3,H⟩:=H
      ·simp only[Option.some.injEq,Prod.mk.injEq]at H;obtain⟨rfl,rfl,rfl,rfl⟩:=H;have s3:0≤(2:Int):=ko_;have t3:2<(l0.length:Int):=qo;obtain⟨v3,w3,x3⟩:=Kd.at_string (Kd.R_reads' g1.out).2.2 2 s3 t3;obtain rfl:U0=v3:=(by injection w3);(try simp only[show(2:Int).toNat =2 from rfl,Nat.reduceMul,Nat.reduceEqDiff,Go.Addr.add,↓reduceIte]at x3);have qi130:(2<l0.length)=True:=eq_true ko_;(try rw[show((2:Int)).toNat =2 from rfl]at x3);replace s3:=eq_true s3;replace t3:=eq_true t3
       go_wp2_with(first|(refine gol (some 45) Tryz.func94 #[.string (rdOf ByteArray.empty l0 2)] ?_;(with_reducible refine(strconv_Atoi.calls (rdOf ByteArray.empty l0 2) e3 g3 _ j3.out ?J2).mono ?_);(case J2=>exact GL_below hG_ (bl));rintro e y3 ⟨ev_,hev_,rfl,hb⟩;refine⟨_,rfl,?_⟩;replace g1:=qa (Kd.R_below (kR g1) hb);replace B0:=qbb B0 hb;replace R1:=qbb R1 hb;replace HB:=bs hb;(try simp only[errW_none,errW_some]);have A3:=X1.out;have B3:=W1.out;obtain⟨C3,D3,E3,G3,J3,K3⟩:=qk3 R1)|(refine gb 50 Tryz.func33 (impl_DeedText.calls X2 (rd v1 q0) l2 e3 l3 _ n3.out (GL_below hG_ (bl))) fun L3 hb=>?_;replace g1:=qa (Kd.R_below (kFR g1 R1 (fun _ h_=>h_.1)) hb);replace B0:=qbb B0 hb;replace R1:=qa (blk_below (g:=P1) (o:= .cells #[.int .i64 (rd v1 q0),.int .i64 l2,.int .i64 e3] 55 (0,0)) (kP R1) hb);replace HB:=bs hb;obtain⟨M3,N3,P3,Q3,R3,U3⟩:=qk3 R1;obtain⟨V3,W3,X3,Y3,a4,b4⟩:=qk3 B0))
       refine bodyPost_ret (results_ct rfl _ _ y0 55 #[.int .i64 (rd v1 q0),.int .i64 l2,.int .i64 e3] (0,0) _ rfl (kP B0) Tryz.underlying55 rfl kr_) rfl ?_;exact⟨z1_,bl⟩
      ·simp only[Option.some.injEq,Prod.mk.injEq]at H;obtain⟨rfl,rfl,rfl,rfl⟩:=H;have s3:0≤(2:Int):=ko_;have t3:2<(l0.length:Int):=qo;obtain⟨v3,w3,x3⟩:=Kd.at_string (Kd.R_reads' g1.out).2.2 2 s3 t3;obtain rfl:U0=v3:=(by injection w3);(try simp only[show(2:Int).toNat =2 from rfl,Nat.reduceMul,Nat.reduceEqDiff,Go.Addr.add,↓reduceIte]at x3);have qi130:(2<l0.length)=True:=eq_true ko_;(try rw[show((2:Int)).toNat =2 from rfl]at x3);replace s3:=eq_true s3;replace t3:=eq_true t3
       go_wp2_with(first|(refine gol (some 45) Tryz.func94 #[.string (rdOf ByteArray.empty l0 2)] ?_;(with_reducible refine(strconv_Atoi.calls (rdOf ByteArray.empty l0 2) e3 g3 _ j3.out ?J2).mono ?_);(case J2=>exact GL_below hG_ (bl));rintro e c4 ⟨ev_,hev_,rfl,hb⟩;refine⟨_,rfl,?_⟩;replace g1:=qa (Kd.R_below (kR g1) hb);replace B0:=qbb B0 hb;replace R1:=qbb R1 hb;replace HB:=bs hb;(try simp only[errW_none,errW_some]);have d4:=X1.out;have e4:=W1.out;obtain⟨g4,j4,l4,n4,p4,q4⟩:=qk3 R1)|(refine gb 50 Tryz.func33 (impl_DeedText.calls X2 (rd v1 q0) l2 e3 l3 _ n3.out (GL_below hG_ (bl))) fun r4 hb=>?_;replace g1:=qa (Kd.R_below (kFR g1 R1 (fun _ h_=>h_.1)) hb);replace B0:=qbb B0 hb;replace R1:=qa (blk_below (g:=P1) (o:= .cells #[.int .i64 (rd v1 q0),.int .i64 l2,.int .i64 e3] 55 (0,0)) (kP R1) hb);replace HB:=bs hb;obtain⟨s4,t4,v4,w4,x4,y4⟩:=qk3 B0))
       refine bodyPost_ret (results_ct rfl _ _ y0 55 #[.int .i64 0,.int .i64 0,.int .i64 0] (0,0) _ rfl (kP B0) Tryz.underlying55 rfl kr_) rfl ?_;exact⟨z1_,bl⟩
     ·rw[if_neg Y2]at H;have a3:decide (2<(l0.length:Int))=false:=decide_eq_false Y2;have b3:decide (2<l0.length)=false:=decide_eq_false ko_;clear Y2;replace H:=qb H;obtain⟨A4,B4,H⟩:=H;replace H:=qq H;obtain⟨C4,D4,H⟩|⟨E4,C4,D4,H⟩:=H
      ·simp only[Option.some.injEq,Prod.mk.injEq]at H;obtain⟨rfl,rfl,rfl,rfl⟩:=H;have G4:=X1.out;have J4:=W1.out;obtain⟨K4,L4,M4,N4,P4,Q4⟩:=qk3 R1
       go_wp2_with(first|(refine gb 50 Tryz.func33 (impl_DeedText.calls X2 (rd v1 q0) l2 0 A4 _ B4.out (GL_below hG_ (bl))) fun R4 hb=>?_;replace g1:=qa (Kd.R_below (kR g1) hb);replace B0:=qbb B0 hb;replace R1:=qbb R1 hb;replace HB:=bs hb;obtain⟨U4,V4,W4,X4,Y4,a5⟩:=qk3 R1;obtain⟨b5,c5,d5,e5,g5,j5⟩:=qk3 B0))
       refine bodyPost_ret (results_ct rfl _ _ y0 55 #[.int .i64 (rd v1 q0),.int .i64 l2,.int .i64 0] (0,0) _ rfl (kP B0) Tryz.underlying55 rfl kr_) rfl ?_;exact⟨z1_,bl⟩
      ·simp only[Option.some.injEq,Prod.mk.injEq]at H;obtain⟨rfl,rfl,rfl,rfl⟩:=H;have l5:=X1.out;have n5:=W1.out;obtain⟨p5,q5,r5,s5,t5,v5⟩:=qk3 R1
       go_wp2_with(first|(refine gb 50 Tryz.func33 (impl_DeedText.calls X2 (rd v1 q0) l2 0 A4 _ B4.out (GL_below hG_ (bl))) fun w5 hb=>?_;replace g1:=qa (Kd.R_below (kR g1) hb);replace B0:=qbb B0 hb;replace R1:=qbb R1 hb;replace HB:=bs hb;obtain⟨x5,y5,A5,B5,C5,D5⟩:=qk3 B0))
       refine bodyPost_ret (results_ct rfl _ _ y0 55 #[.int .i64 0,.int .i64 0,.int .i64 0] (0,0) _ rfl (kP B0) Tryz.underlying55 rfl kr_) rfl ?_;exact⟨z1_,bl⟩
 ·rw[if_neg s0]at H;exact absurd H (by simp)

def slices_Clone_int_int.f (k:Nat) (a0:List Int):Option (List Int):=if 0<a0.length then(if a0.length<17592186044416 then some a0 else none)else none
theorem slices_Clone_int_int.nil_in (w:World) (d:Nat) (a:Option Addr) (l c:Nat):(Op.equalIn (d+1) 22 (.slice a l c) (.slice none 0 0)).run Tryz.prog w= .ok a.isNone w:=by
 cases a <;> simp[Op.equalIn,run_underlying Tryz.underlying22]
theorem slices_Clone_int_int.nil_eq (w:World) (a:Option Addr) (l c:Nat):(binOp .eql 22 (.slice a l c) (.slice none 0 0)).run Tryz.prog w= .ok (.bool a.isNone) w:=by
 have h:(Op.equal 22 (.slice a l c) (.slice none 0 0)).run Tryz.prog w= .ok a.isNone w:=slices_Clone_int_int.nil_in w 9999 a l c
 simp[binOp,h]
theorem slices_Clone_int_int.calls (k:Nat) (a0:Option Addr) (b0:Nat) (c0:List Int) (r:List Int) (w:World) (d0:Kd.C (Kd.int .i64) w a0 c0.length c0) (e0:c0.length≤b0) (h:slices_Clone_int_int.f k c0=some r):
  Calls Tryz.prog 99 #[.slice a0 c0.length b0] w fun e w'=>∃v0_:Value,e= .returned (v0_)∧Kd.R (Kd.int .i64) 3 w' w.heap.size (fun _=>True) v0_ r∧Below w.heap.size w w':=by
 unfold slices_Clone_int_int.f at h
 by_cases g0:0<c0.length
 ·rw[if_pos g0]at h
  by_cases j0:c0.length<17592186044416
  ·rw[if_pos j0]at h;obtain rfl:=Option.some.inj h;clear h;obtain⟨l0,hA,_⟩:=d0.2.2 g0;subst hA;have n0:=qa d0;have p0:=qa j0;clear d0 e0 g0 j0;have HB:=qa (Below.refl w.heap.size w);have hnilq:=slices_Clone_int_int.nil_eq
   go_enter Tryz.func99,Tryz.ntmps99
   go_wp2_with(first|((with_reducible refine gate_dst (N:=5) rfl ?_);refine Kd.R_lit (Kd.int .i64) _ 3 ?hg (N:=5) ?hd (xs:=([]:List Int)) (inner:=[]) (ok:=fun _=>True) (okp:=fun _=>True) ?hr ?hp (fun _ hk=>hk) trivial (Below.refl _ _) (Nat.le_refl _) (by simp) ?_;(case hd=>rfl);(case hg=>rfl);(case hr=>exact gr);(case hp=>exact(Reps.none _ _));intro q0 r0 s0 hb hg_ hnew_;clear hg_ hnew_;have n0_:=qa (Kd.R_lower s0 (below_size (bl)));have n3_:=qa (below_step (bl) hb);clear HB;have t0:=n0_;have HB:=n3_;clear n0_ n3_;clear hb s0)|((with_reducible refine gate_builtin (b:= .append) (xs:=#[.tmp 5,.tmp 6]) rfl ?_);at_builtin;refine Kd.R_append_rows (Kd.int .i64) (w0:=w) w.heap.size rfl (.tmp 5) (.tmp 6) 22 3 (.int .i64 0) 8 rfl Tryz.underlying22 info3 rfl kd_ ko_ q0 ([]:List Int) c0 _ _ _ (fun _=>True) (fun _=>False) rfl rfl ?aO ?aR (fun _ _ h=>h) (fun _ h=>h.elim) ?aF ?aB ?aS ?aL ?_;(case aR=>exact cx (Kd.C_below n0.out HB.out));(case aB=>exact(bl));(case aF=>exact(fun _ _=>trivial));(case aO=>exact(kR t0));(case aS=>exact(below_size (bl)));(case aL=>have:=p0.out;simp;omega);intro v0 w0 ho hb hg hat;rw[List.nil_append]at ho;have n2_:=qa (hb);have n3_:=qa (ho);clear HB;clear t0;have HB:=n2_;have x0:=n3_;clear n2_ n3_;clear ho hb hg hat))
   go_ret;exact⟨_,sd,kR x0,bl⟩
  ·rw[if_neg j0]at h;cases h
 ·rw[if_neg g0]at h;cases h

def impl_copyDesk.l0:Nat→List (List Int)→Int→Int→List Int→List (List Int)→Option (List Int×(List (List Int)))
 |0,_,_,_,_,_=>none
 |k+1,a0,b0,c0,d0,e0=>if c0<b0 then(if 0≤c0 then(if c0<(a0.length:Int)then((slices_Clone_int_int.f k (rd_L1 a0 c0)).bind fun g0=>(if e0.length<5864062014805 then(impl_copyDesk.l0 k a0 b0 (wrap64 (c0+1)) d0 (e0++[g0]))else(none)))else(none))else(none))else(some (d0,e0))
def impl_copyDesk.f (k:Nat) (a0:List Int) (b0:List (List Int)):Option (List Int×(List (List Int))):=(slices_Clone_int_int.f k a0).bind fun c0=>(impl_copyDesk.l0 k b0 (b0.length:Int) 0 c0 ([]:List (List Int)))
def impl_copyDesk.T5:Bool×List (List Nat×List Nat):=(true,[([],[]),([0],[0]),([],[]),([2],[2]),([3],[3]),([1,4,3],[1,4]),([0,1,2,3,4,5],[]),([6,5,5,0,1,2,3,4,5],[5,6])])
def impl_copyDesk.B5:List Nat:=[0,1,0,4,12,31,63,127]
theorem impl_copyDesk.tab5:rtab .any (opsOf Tryz.f54 5)=impl_copyDesk.T5:=by kernel_rfl
theorem impl_copyDesk.bits5:waitsOk impl_copyDesk.T5.2 impl_copyDesk.B5=true:=by kernel_rfl
theorem impl_copyDesk.calls (k:Nat) (a0:Option Addr) (b0:Nat) (c0:List Int) (d0:Option Addr) (e0:Nat) (g0:List (List Int)) (j0:List Int) (n0:List (List Int)) (w:World) (p0:Kd.C (Kd.int .i64) w a0 c0.length c0) (q0:c0.length≤b0) (r0:Kd.C (Kd.slice 3 (Kd.int .i64)) w d0 g0.length g0) (s0:g0.length≤e0) (h:impl_copyDesk.f k c0 g0=some (j0,n0)):
  Calls Tryz.prog 54 #[.agg #[.slice a0 c0.length b0,.slice d0 g0.length e0]] w fun e w'=>∃v0_ v1_:Value,e= .returned (.agg #[v0_,v1_])∧Kd.R (Kd.int .i64) 3 w' w.heap.size (fun _=>True) v0_ j0∧Kd.S (Kd.slice 3 (Kd.int .i64)) 22 w' w.heap.size (fun k_=>some k_≠(v0_:Value).ownBlock) v1_ n0∧Below w.heap.size w w':=by
 have t0:=Tryz.underlying27;have v0:=qa p0;have w0:=qa q0;clear p0 q0;have x0:=qa r0;have y0:=qa s0;clear r0 s0;have HB:=qa (Below.refl w.heap.size w);have H:=h;unfold impl_copyDesk.f at H;clear h;replace H:=qb H;obtain⟨A0,B0,H⟩:=H;have H':=qa H;clear H
 go_enter Tryz.func54,Tryz.ntmps54
 go_wp2_with(first|(refine bx 1 #[.slice a0 c0.length b0,.slice d0 g0.length e0] 27 ?_;intro C0 hg D0 hbox hb;have E0:=qa (hbox);have G0:=gw hg;have J0:=gw hg;replace HB:=bs hb;clear hb hbox hg)|(refine bx 2 #[.slice none 0 0,.slice none 0 0] 27 ?_;intro K0 hg L0 hbox hb;have M0:=qa (hbox);have N0:=gw hg;have P0:=gw hg;replace HB:=bs hb;have Q0:=qnl hg E0;have R0:=qng hg E0;replace E0:=qbb E0 hb;clear hb hbox hg;have U0:=Q0.out;have V0:=R0.out;obtain⟨W0,X0,Y0,a1⟩:=qk2 E0)|(refine ge_ 8 Tryz.func99 (slices_Clone_int_int.calls k _ _ c0 A0 _ (cx (Kd.C_below v0.out HB.out)) w0.out B0.out) fun b1 c1 d1 hb=>?_;have e1:=qa (Kd.R_lower d1 (below_size (bl)));replace E0:=qbb E0 hb;replace M0:=qbb M0 hb;replace HB:=bs hb;obtain⟨g1,j1,rfl⟩:=Kd.R_slice e1.out)|(refine bx 3 #[.slice none 0 0,.slice none 0 0] 27 ?_;intro l1 hg n1 hbox hb;replace e1:=qa (Kd.R_below (kR e1) hb);have p1:=qa (hbox);have q1:=gw hg;have r1:=gw hg;replace HB:=bs hb;have s1:=qnl hg E0;have t1:=qng hg E0;replace E0:=qbb E0 hb;have v1:=qnl hg M0;have w1:=qng hg M0;replace M0:=qbb M0 hb;clear hb hbox hg;have x1:=t1.out;have y1:=s1.out;have A1:=w1.out;have B1:=v1.out;obtain⟨C1,D1,E1,G1⟩:=qk2 p1;obtain⟨J1,K1,L1,M1⟩:=qk2 E0))
 go_loopg [13] k (fun kq N1 w'=>∃(P1:Int) (Q1:List (List Int)) (R1:Value),N1= .int .i64 P1∧Aside0 (impl_copyDesk.l0 kq g0 (g0.length:Int) P1 A0 Q1=some (j0,n0))∧Aside0 (kq≤k)∧Aside0 (Kd.R (Kd.int .i64) 3 w' w.heap.size (fun _=>True) (.slice g1 A0.length j1) A0)∧Aside0 (Kd.S (Kd.slice 3 (Kd.int .i64)) 22 w' w.heap.size (fun k_=>some k_≠((.slice g1 A0.length j1):Value).ownBlock) R1 Q1)∧Aside0 (w'.heap[C0]? =some (.cells #[(.slice a0 c0.length b0),(.slice d0 g0.length e0)] 27 (0,0)))∧Aside0 (w'.heap[K0]? =some (.cells #[(.slice none 0 0),(.slice none 0 0)] 27 (0,0)))∧Aside0 (w'.heap[l1]? =some (.cells #[(.slice g1 A0.length j1),R1] 27 (0,0)))∧Aside0 (Below w.heap.size w w'))
 case atStart=>exact⟨(0),(([]:List (List Int))),(.slice none 0 0),(sd),H',⟨Nat.le_refl _⟩,⟨kFR e1 p1 (fun _ hk=>trivial)⟩,⟨z7_⟩,⟨kb E0⟩,⟨kb M0⟩,⟨kP p1⟩,⟨bl⟩⟩
 case round=>
  clear H';obtain⟨P1,Q1,R1,rfl,HA,HK1,U1,V1,E0,M0,p1,HB⟩:=hrel;obtain⟨k1,rfl,H⟩:=kz gk HA;clear HA;simp only[impl_copyDesk.l0]at H;replace H:=qe H;obtain⟨W1,H⟩|⟨W1,H⟩:=H
  ·replace H:=qd H;obtain⟨X1,H⟩:=H;replace H:=qd H;obtain⟨Y1,H⟩:=H;replace H:=qb H;obtain⟨a2,b2,H⟩:=H;replace H:=qn H;obtain⟨c2,H⟩:=H;have d2:=qa c2;clear c2;obtain⟨e2,hy_⟩:∃y_:List (List Int),y_=(Q1++[a2]):=⟨_,rfl⟩;replace H:(impl_copyDesk.l0 k1 g0 (g0.length:Int) (wrap64 (P1+1)) A0 e2)=some (j0,n0):=yh;have g2:=qa hy_;clear hy_;have H':=qa H;clear H;obtain⟨j2,l2,n2,⟨⟩,p2,q2,r2,s2,t2⟩:=cg_L1 x0.out P1;(try replace p2:=(HB.out.cell (World.block_lt_of_cell? w _ p2)).trans p2)
   try go_wp2
   replace U1:=qa (Kd.R_drew U1.out);replace V1:=qa (Kd.S_drew V1.out);replace E0:=qa (blk_drew E0.out);replace M0:=qa (blk_drew M0.out);replace p1:=qa (blk_drew p1.out);replace HB:=qa (below_drew1 HB.out);refine start_ (n:=8) (S:=fun w'=>w'.cell? ⟨l1,0,none⟩=some (.slice g1 A0.length j1)∧w'.cell? ⟨l1,1,none⟩=some (R1)) (ds:=[7]) _ kr_ rfl rfl ⟨(blk_cell p1.out 0).trans rfl,(blk_cell p1.out 1).trans rfl⟩ (fun hHeld=>?_);refine with_tabW impl_copyDesk.tab5 impl_copyDesk.bits5 (fun HT_ HW_=>?_);generalize wr.drew=v2 at U1 V1 E0 M0 p1 HB hHeld ⊢;refine pur 0 17 (bz 8 1) HT_ ?_;refine pur 2 19 (bz 8 5) HT_ ?_;refine tk 1 18 (bz 8 7) hHeld (take_ofW HT_.out HW_.out kr_) ?_;(refine o1 3 (some 20) (bz 8 15) (one_of HT_.out kr_) fun K hK=>?_);(refine gse Tryz.func99 (slices_Clone_int_int.calls k1 _ _ (rd_L1 g0 P1) a2 _ (cx (Kd.C_below q2.out HB.out)) r2.out b2.out) fun w2 x2 d1 hb=>?_);replace V1:=qa (Kd.S_elder' (kS V1) (Kd.R_base d1) hb);have y2:=qa (Kd.R_lower (Kd.R_new' d1 (Kd.R_lt (kR U1))) (below_size (bl)));replace U1:=qa (Kd.R_elder' (kR U1) (Kd.R_base d1) hb);replace E0:=qbb E0 hb;replace M0:=qbb M0 hb;replace p1:=qbb p1 hb;replace HB:=bs hb;(try clear hb);(try clear A2);(try clear hk);(try clear hi);(try clear d1);obtain⟨B2,C2,D2⟩:=Kd.R_slice y2.out;(first|subst D2|(injection D2 with f1_ f2_ f3_;have f4_:=f1_.symm;have f5_:=f3_.symm;clear f1_ f2_ f3_;subst f4_;subst f5_));refine hK.out _ _ ⟨(blk_cell p1.out 0).trans rfl,(blk_cell p1.out 1).trans rfl⟩ (fun hHeld=>?_);clear hK K;refine nm 20 ?_;(refine o1 4 (some 21) (bz 8 31) (one_of HT_.out kr_) fun K hK=>?_);refine value_ (w1:=?_) (v:=?_) (by rfl) rfl ?_ ?_;rotate_left 2
   ·go_simp
    constructor
    ·rfl
    ·rfl
   refine hK.out _ _ ⟨(blk_cell (blk_alloc p1.out _) 0).trans rfl,(blk_cell (blk_alloc p1.out _) 1).trans rfl⟩ (fun hHeld=>?_);clear hK K;refine nm 21 ?_;(refine o1 5 (some 22) (bz 8 63) (one_of HT_.out kr_) fun K hK=>?_);refine Kd.S_append_step (Kd.slice 3 (Kd.int .i64)) (w0:=w) w.heap.size (by rfl) (.tmp 18) (.tmp 21) 23 22 (.slice none 0 0) 24 rfl Tryz.underlying23 info22 rfl kd_ ko_ R1 Q1 a2 [.slice B2 a2.length C2] (fun k_=>some k_≠(.slice g1 A0.length j1:Value).ownBlock) (fun k_=>some k_=(.slice B2 a2.length C2:Value).ownBlock) rfl rfl ?aP (fun k_ hk_=>((Kd.R_mono (ok':=fun k_=>((fun k_=>some k_≠(.slice g1 A0.length j1:Value).ownBlock)) k_∧some k_≠(R1:Value).ownBlock) (Kd.R_apart' (y2.out) (Kd.S_typed V1.out) kd_) (fun k_ hk=>⟨hk.1.2,hk.2⟩))).1 k_ hk_.symm) ?aF ?aO ?aB ?aS ?aL ?_;(case aP=>exact Kd.M_row (Kd.R_mono (Kd.R_tight rfl (Kd.R_mono (ok':=fun k_=>((fun k_=>some k_≠(.slice g1 A0.length j1:Value).ownBlock)) k_∧some k_≠(R1:Value).ownBlock) (Kd.R_apart' (y2.out) (Kd.S_typed V1.out) kd_) (fun k_ hk=>⟨hk.1.2,hk.2⟩))) (fun _ h_=>h_)));(case aB=>exact(bl));(case aF=>exact(fun k_ hk=>Kd.fresh' (Kd.R_lt (kR U1)) k_ hk));(case aO=>exact(by(with_reducible repeat(first|apply Kd.S_alloc|apply Kd.S_drewN|apply Kd.S_drew));exact Kd.S_mono V1.out (fun k_ hk=>⟨hk.1,fun e_=>hk.2 e_⟩)));(case aS=>exact(below_size (bl)));(case aL=>have:=d2.out;omega);intro E2 G2 ho hb hg hat;rw[←g2.out]at ho;replace U1:=qa (Kd.R_over' (kR U1) (Kd.S_typed (kS V1)) kd_ hg);replace E0:=qa (blk_grown (g:=C0) (o:= .cells #[.slice a0 c0.length b0,.slice (some j2) g0.length e0] 27 (0,0)) (bk) hg (Kd.S_ne V1.out E0.out kd_));replace M0:=qa (blk_grown (g:=K0) (o:= .cells #[.slice none 0 0,.slice none 0 0] 27 (0,0)) (bk) hg (Kd.S_ne V1.out M0.out kd_));replace p1:=qa (blk_grown (g:=l1) (o:= .cells #[.slice g1 A0.length j1,R1] 27 (0,0)) (bk) hg (Kd.S_ne V1.out p1.out kd_));replace HB:=qa (hb);have J2:=qa (ho);clear V1 y2;clear ho hb hg hat;obtain⟨K2,L2,M2⟩:=Kd.S_slice J2.out;(first|subst M2|(injection M2 with f1_ f2_ f3_;have f4_:=f1_.symm;have f5_:=f3_.symm;clear f1_ f2_ f3_;subst f4_;subst f5_));refine hK.out _ _ ⟨(blk_cell p1.out 0).trans rfl,(blk_cell p1.out 1).trans rfl⟩ (fun hHeld=>?_);clear hK K;refine nm 22 ?_;refine pur 6 23 (bz 8 127) HT_ ?_;refine last_ (i:=7) (N:=none) (bz 8 255) rfl rfl (one_of HT_.out kr_) kd_ (fun K hK=>?_);have N2:G2.cell? ⟨l1,1,none⟩=some (R1):=(blk_cell p1.out 1).trans rfl;have P2:=blk_frozen p1.out 1;have Q2:=s1.out;have R2:=v1.out;have U2:=t1.out;have V2:=w1.out;refine skip_ (w1:=?_) (by rfl) rfl ?_ ?_;rotate_left
   ·go_simp
    rfl
   refine hK.out _ _ ?_;clear hK K;refine done_ (done_of HT_.out kr_) ?_
   try go_wp2
   go_roundg k1
   case measure=>have:=HK1.out;omega
   case rel=>exact⟨(wrap64 (P1+1)),(e2),(.slice K2 e2.length L2),(sd),H',⟨by have:=HK1.out;omega⟩,⟨kFR U1 p1 (fun _ hk=>trivial)⟩,⟨kFS J2 p1 (fun _ hk=>hk.1)⟩,⟨kb E0⟩,⟨kb M0⟩,⟨kP p1⟩,⟨bl⟩⟩
  ·simp only[Option.some.injEq,Prod.mk.injEq]at H;obtain⟨rfl,rfl⟩:=H;have W2:=t1.out;have X2:=s1.out;have Y2:=w1.out;have a3:=v1.out;obtain⟨b3,c3,d3,e3⟩:=qk2 p1;have g3:=R0.out;have j3:=Q0.out;obtain⟨l3,n3,p3,q3⟩:=qk2 M0;obtain⟨r3,s3,rfl⟩:=Kd.S_slice V1.out;go_wp2;refine bodyPost_ret (results_cell_row rfl _ _ K0 27 #[.slice g1 A0.length j1,.slice r3 Q1.length s3] (0,0) _ rfl (kP M0) Tryz.underlying27 rfl kr_) rfl ?_;exact⟨_,_,z1_,kFR U1 M0 (fun _ hk=>trivial),kFS V1 M0 (fun _ hk=>hk.1),bl⟩
def slices_Reverse_int_int.l0:Nat→List Int→Int→Int→Option (List Int)
 |0,_,_,_=>none
 |k+1,a0,b0,c0=>if b0<c0 then(if 0≤c0 then(if c0<(a0.length:Int)then(if 0≤b0 then(if b0<(a0.length:Int)then(slices_Reverse_int_int.l0 k ((a0.set (b0:Int).toNat (rd a0 c0)).set (c0:Int).toNat (rd a0 b0)) (wrap64 (b0+1)) (wrap64 (c0-1)))else(none))else(none))else(none))else(none))else(some a0)
def slices_Reverse_int_int.f (k:Nat) (a0:List Int):Option (List Int):=slices_Reverse_int_int.l0 k a0 0 (wrap64 ((a0.length:Int)-1))
theorem slices_Reverse_int_int.mono_l:∀k,(∀a0 b0 c0,LeO (slices_Reverse_int_int.l0 k a0 b0 c0) (slices_Reverse_int_int.l0 (k+1) a0 b0 c0))
 |0=>fun _ _ _ r h=>by simp[slices_Reverse_int_int.l0]at h
 |k+1=>by
  have ih0:=slices_Reverse_int_int.mono_l k
  ·intro a0 b0 c0;unfold slices_Reverse_int_int.l0;exact mz
theorem slices_Reverse_int_int.mono:∀a0 k,LeO (slices_Reverse_int_int.f k a0) (slices_Reverse_int_int.f (k+1) a0):=by
 intro a0 k;have ih0:=slices_Reverse_int_int.mono_l k;unfold slices_Reverse_int_int.f;exact mz
def slices_Reverse_int_int.T3:Bool×List (List Nat×List Nat):=(true,[([],[]),([],[]),([],[]),([],[]),([],[]),([],[]),([4,5],[4,5]),([6],[6]),([],[]),([],[]),([8,9],[8,9]),([10],[10]),([0,1,0,1,4,5,6,7,11],[0,1]),([12,7,0,1,4,5,6,7,11],[7,12]),([2,3,0,1,2,3,4,5,6,7,8,9,10,11,12,13],[2,3]),([14,11,13,0,1,2,3,4,5,6,7,8,9,10,11,12,13],[11,14])])
def slices_Reverse_int_int.B3:List Nat:=[0,0,0,0,0,0,48,112,0,0,768,1792,4083,8179,16383,32767]
theorem slices_Reverse_int_int.tab3:rtab .any (opsOf Tryz.f144 3)=slices_Reverse_int_int.T3:=by kernel_rfl
theorem slices_Reverse_int_int.bits3:waitsOk slices_Reverse_int_int.T3.2 slices_Reverse_int_int.B3=true:=by kernel_rfl
theorem slices_Reverse_int_int.calls (k:Nat) (P0_:Nat→Prop) (a0:Value) (b0:List Int) (r:List Int) (c0 w:World) (hB:Below c0.heap.size c0 w) (d0:Kd.R (Kd.int .i64) 3 w c0.heap.size P0_ a0 b0) (h:slices_Reverse_int_int.f k b0=some r):
  Calls Tryz.prog 144 #[a0] w fun e w'=>e= .returned (.tuple #[])∧Kd.R (Kd.int .i64) 3 w' c0.heap.size (fun k_=>(P0_ k_∨w.heap.size≤k_)) a0 r∧Below c0.heap.size c0 w'∧Kept w w' (fun k_=>P0_ k_):=by
 have e0:=qa (show Kd.R (Kd.int .i64) 3 w c0.heap.size (fun k_=>(P0_ k_∨w.heap.size≤k_)) a0 b0 from Kd.R_mono d0 (fun k_ hk=>(.inl hk)));have HK:=qa (Kept.refl w (fun k_=>P0_ k_));have HW0:=qa hB.size;have HB:=qa hB;clear hB;have H:=h;unfold slices_Reverse_int_int.f at H;clear h;have H':=qa H;clear H;obtain⟨g0,j0,rfl⟩:=Kd.R_slice e0.out
 go_enter Tryz.func144,Tryz.ntmps144
 go_wp2
 go_loopg [2,3] k (fun kq n0 p0 w'=>∃(q0:List Int) (r0:Int) (s0:Int),n0= .int .i64 r0∧p0= .int .i64 s0∧Aside0 (slices_Reverse_int_int.l0 kq q0 r0 s0=some r)∧Aside0 (kq≤k)∧Aside0 (Kd.R (Kd.int .i64) 3 w' c0.heap.size (fun k_=>(P0_ k_∨w.heap.size≤k_)) (.slice g0 b0.length j0) q0)∧Aside0 (Kept w w' (fun k_=>P0_ k_))∧Aside0 (Below c0.heap.size c0 w'))
 case atStart=>exact⟨(b0),(0),(wrap64 ((b0.length:Int)-1)),(sd),(sd),H',⟨Nat.le_refl _⟩,⟨kR e0⟩,⟨by repeat(first|(with_reducible first|exact HK.out|apply Kept.alloc|apply Kept.drewN|apply Kept.drew)|exact HK.out)⟩,⟨bl⟩⟩
 case round=>
  clear H';obtain⟨q0,r0,s0,rfl,rfl,HA,HK1,t0,HK,HB⟩:=hrel;have v0:=(Kd.R_reads' t0.out).1;rw[v0]at t0;(try simp only[v0]);obtain⟨k1,rfl,H⟩:=kz gk HA;clear HA;simp only[slices_Reverse_int_int.l0]at H;replace H:=qe H;obtain⟨w0,H⟩|⟨w0,H⟩:=H
  ·replace H:=qd H;obtain⟨x0,H⟩:=H;replace H:=qd H;obtain⟨y0,H⟩:=H;replace H:=qd H;obtain⟨A0,H⟩:=H;replace H:=qd H;obtain⟨B0,H⟩:=H;obtain⟨C0,hy_⟩:∃y_:List Int,y_=(q0.set (r0:Int).toNat (rd q0 s0)):=⟨_,rfl⟩;replace H:(slices_Reverse_int_int.l0 k1 (C0.set (s0:Int).toNat (rd q0 r0)) (wrap64 (r0+1)) (wrap64 (s0-1)))=some r:=yh;have D0:=qa hy_;clear hy_;obtain⟨E0,hy_⟩:∃y_:List Int,y_=(C0.set (s0:Int).toNat (rd q0 r0)):=⟨_,rfl⟩;replace H:(slices_Reverse_int_int.l0 k1 E0 (wrap64 (r0+1)) (wrap64 (s0-1)))=some r:=yh;have G0:=qa hy_;clear hy_;have H':=qa H;clear H
   try go_wp2
   replace t0:=qa (Kd.R_drew t0.out);replace HK:=qa (Kept.drew HK.out);replace HB:=qa (below_drew1 HB.out);obtain⟨J0,⟨⟩,K0,L0,M0⟩:=ai (Kd.R_reads' t0.out).2.2 s0;obtain⟨N0,P0,Q0⟩:=aj (Kd.R_reads' t0.out).2.2 r0;have R0:0≤(r0:Int):=qo;have U0:(r0:Int)<((q0.length:Int):Int):=qo;obtain⟨V0,W0,X0,Y0,gl8,cl8,HG8⟩:=Kd.R_form t0.out ko_;(first|cases X0|(injection X0 with ea_ en_ ec_;(first|subst ea_|(injection ea_ with ea_;subst ea_));subst ec_;clear en_));have GB8:=qa Y0;have GG8:=qa HG8;clear Y0 gl8 HG8;have HMgo8:=qa (show(P0_ V0∨w.heap.size≤V0)from(t0.out.1 _ rfl));(first|simp only[add_plain]at K0|skip);(first|simp only[add_plain]at N0|skip);obtain⟨a1,b1⟩:=Kd.R_celln 0 t0.out (r0:Int) R0 U0;replace R0:=eq_true R0;replace U0:=eq_true U0;have HP11:=Kd.R_putn t0.out (r0:Int) (rd q0 s0);rw[←D0.out]at HP11;have HQ11:=qa HP11;clear HP11;have c1:0≤(s0:Int):=qo;have d1:(s0:Int)<((q0.length:Int):Int):=qo;obtain⟨e1,g1⟩:=Kd.R_celln 0 HQ11.out (s0:Int) c1 d1;replace c1:=eq_true c1;replace d1:=eq_true d1;have HP12:=Kd.R_putn HQ11.out (s0:Int) (rd q0 r0);rw[←G0.out]at HP12;have HQ12:=qa HP12;clear HP12;refine start_ (n:=16) (S:=fun w'=>w'.cell? ⟨V0,(s0).toNat,none⟩=some (.int .i64 (rd q0 s0))∧w'.cell? ⟨V0,(r0).toNat,none⟩=some (.int .i64 (rd q0 r0))) (ds:=[13,15]) _ kr_ rfl rfl ⟨K0,N0⟩ (fun hHeld=>?_);refine with_tabW slices_Reverse_int_int.tab3 slices_Reverse_int_int.bits3 (fun HT_ HW_=>?_);generalize wr.drew=j1 at t0 HK HB GG8 HQ11 HQ12 b1 g1 K0 N0 a1 e1 hHeld ⊢;refine pur 0 14 (bz 16 1) HT_ ?_;refine pur 1 15 (bz 16 3) HT_ ?_;refine pur 2 16 (bz 16 7) HT_ ?_;refine pur 3 17 (bz 16 15) HT_ ?_;refine pur 4 18 (bz 16 31) HT_ ?_;refine pur 5 19 (bz 16 63) HT_ ?_;refine pur 6 20 (bz 16 127) HT_ ?_;refine pur 8 22 (bz 16 383) HT_ ?_;refine pur 9 23 (bz 16 895) HT_ ?_;refine pur 10 24 (bz 16 1919) HT_ ?_;refine tk 7 21 (bz 16 2047) hHeld (take_ofW HT_.out HW_.out kr_) ?_;refine tk 11 25 (bz 16 4095) hHeld (take_ofW HT_.out HW_.out kr_) ?_;refine pur 12 26 (bz 16 8191) HT_ ?_;refine last_ (i:=13) (N:=none) (bz 16 16383) rfl rfl (one_of HT_.out kr_) kd_ (fun K hK=>?_);refine skip_ (w1:=?_) (by rfl) rfl ?_ ?_;rotate_left
   ·go_simp
    rfl
   refine hK.out _ _ ?_;clear hK K;refine pur 14 27 (bz 16 32767) HT_ ?_;refine last_ (i:=15) (N:=none) (bz 16 65535) rfl rfl (one_of HT_.out kr_) kd_ (fun K hK=>?_);refine skip_ (w1:=?_) (by rfl) rfl ?_ ?_;rotate_left
   ·go_simp
    rfl
   refine hK.out _ _ ?_;clear hK K;refine done_ (done_of HT_.out kr_) ?_
   try go_wp2
   (try simp only[←v0])
   go_roundg k1
   case measure=>have:=HK1.out;omega
   case rel=>exact⟨(E0),(wrap64 (r0+1)),(wrap64 (s0-1)),(sd),(sd),H',⟨by have:=HK1.out;omega⟩,⟨by(try simp only[v0]);(with_reducible repeat(first|apply Kd.R_alloc|apply Kd.R_drewN|apply Kd.R_drew));exact HQ12.out⟩,⟨by repeat(first|(with_reducible first|exact HK.out|apply Kept.alloc|apply Kept.drewN|apply Kept.drew|refine Kept.setCell ?_ HMgo8.out _|refine Kept.setCell ?_ HMgo8.out _)|exact HK.out)⟩,⟨by repeat(first|(with_reducible first|exact HB.out|apply below_alloc|apply pw_below_drewN|apply below_drew1|refine below_set ?_ GB8.out|refine below_set ?_ GB8.out)|exact HB.out)⟩⟩
  ·obtain rfl:=sj H;go_wp2
   first|go_end0|((try simp only[Exit.inBlock,Exit.then]);refine bodyPost_ret (results_none rfl _ _ _) rfl ?_)
   exact⟨z1_,(by first|exact(kR t0)|(simp only[v0];exact(kR t0))),bl,by repeat(first|(with_reducible first|exact HK.out|apply Kept.alloc|apply Kept.drewN|apply Kept.drew)|exact HK.out)⟩

def impl_divisors.l0:Nat→Int→List Int→List Int→Int→Option (List Int)
 |0,_,_,_,_=>none
 |k+1,a0,b0,c0,d0=>if(wrap64 (d0*d0))≤a0 then(if d0=0 then(none)else(if(Int.tmod a0 d0)=0 then(if b0.length<17592186044416 then((some (b0++[d0]:List Int)).bind fun e0=>(if(wrap64 (d0*d0))<a0 then(if c0.length<17592186044416 then(impl_divisors.l0 k a0 e0 (c0++[wrap64 (Int.tdiv a0 d0)]) (wrap64 (d0+1)))else(none))else(impl_divisors.l0 k a0 e0 c0 (wrap64 (d0+1)))))else(none))else(impl_divisors.l0 k a0 b0 c0 (wrap64 (d0+1)))))else((slices_Reverse_int_int.f k c0).bind fun g0=>(if b0.length+g0.length<17592186044416 then(some (b0++g0))else(none)))
def impl_divisors.f (k:Nat) (a0:Int):Option (List Int):=impl_divisors.l0 k a0 (([]:List Int)) (([]:List Int)) 1
theorem impl_divisors.mono_l:∀k,(∀a0 b0 c0 d0,LeO (impl_divisors.l0 k a0 b0 c0 d0) (impl_divisors.l0 (k+1) a0 b0 c0 d0))
 |0=>fun _ _ _ _ r h=>by simp[impl_divisors.l0]at h
 |k+1=>by
  have ih0:=impl_divisors.mono_l k
  ·intro a0 b0 c0 d0;unfold impl_divisors.l0;have m0:= @slices_Reverse_int_int.mono;exact mz
theorem impl_divisors.mono:∀a0 k,LeO (impl_divisors.f k a0) (impl_divisors.f (k+1) a0):=by
 intro a0 k;have ih0:=impl_divisors.mono_l k;unfold impl_divisors.f;have m0:= @slices_Reverse_int_int.mono;exact mz
theorem impl_divisors.calls (k:Nat) (a0:Int) (r:List Int) (w:World) (h:impl_divisors.f k a0=some r):
  Calls Tryz.prog 109 #[.int .i64 a0] w fun e w'=>∃v0_:Value,e= .returned (v0_)∧Kd.R (Kd.int .i64) 3 w' w.heap.size (fun _=>True) v0_ r∧Below w.heap.size w w':=by
 have HB:=qa (Below.refl w.heap.size w);have H:=h;unfold impl_divisors.f at H;clear h;obtain⟨b0,hy_⟩:∃y_:List Int,y_=(([]:List Int)):=⟨_,rfl⟩;replace H:(impl_divisors.l0 k a0 b0 (([]:List Int)) 1)=some r:=yh;have c0:=qa hy_;clear hy_;obtain⟨d0,hy_⟩:∃y_:List Int,y_=(([]:List Int)):=⟨_,rfl⟩;replace H:(impl_divisors.l0 k a0 b0 d0 1)=some r:=yh;have e0:=qa hy_;clear hy_;have H':=qa H;clear H
 go_enter Tryz.func109,Tryz.ntmps109
 go_wp2_with(first|(refine rli .i64 3 6 c0.out fun g0 j0 n0 hb=>?_;have p0:=qa (Kd.R_lower n0 (below_size (bl)));replace HB:=bs hb;clear hb n0)|(refine rli .i64 3 7 e0.out fun q0 r0 s0 hb=>?_;have t0:=qa (Kd.R_lower (Kd.R_new' s0 (Kd.R_lt (kR p0))) (below_size (bl)));replace p0:=qa (Kd.R_elder' (kR p0) (Kd.R_base s0) hb);replace HB:=bs hb;clear hb s0))
 go_loopg [3,4,5] k (fun kq v0 w0 x0 w'=>∃(y0:List Int) (A0:List Int) (B0:Int),x0= .int .i64 B0∧Aside0 (impl_divisors.l0 kq a0 y0 A0 B0=some r)∧Aside0 (kq≤k)∧Aside0 (Kd.R (Kd.int .i64) 3 w' w.heap.size (fun k_=>some k_≠(w0:Value).ownBlock) v0 y0)∧Aside0 (Kd.R (Kd.int .i64) 3 w' w.heap.size (fun k_=>some k_≠(v0:Value).ownBlock) w0 A0)∧Aside0 (Below w.heap.size w w'))
 case atStart=>exact⟨(b0),(d0),(1),(sd),H',⟨Nat.le_refl _⟩,⟨by(with_reducible repeat(first|apply Kd.R_alloc|apply Kd.R_drewN|apply Kd.R_drew));exact Kd.R_mono p0.out (fun _ hk=>hk.2)⟩,⟨by(with_reducible repeat(first|apply Kd.R_alloc|apply Kd.R_drewN|apply Kd.R_drew));exact Kd.R_mono t0.out (fun _ hk=>hk.2)⟩,⟨bl⟩⟩
 case round=>
  clear H';obtain⟨y0,A0,B0,rfl,HA,HK1,C0,D0,HB⟩:=hrel;obtain⟨k1,rfl,H⟩:=kz gk HA;clear HA;simp only[impl_divisors.l0]at H;replace H:=qe H;obtain⟨E0,H⟩|⟨E0,H⟩:=H
  ·by_cases G0:B0=0
   ·rw[if_pos G0]at H;exact absurd H (by simp)
   ·rw[if_neg G0]at H;have J0:(B0==0)=false:=beq_eq_false_iff_ne.mpr G0;have K0:(B0 != 0)=true:=bne_iff_ne.mpr G0;replace H:=qq H;obtain⟨L0,M0,H⟩|⟨N0,L0,M0,H⟩:=H
    ·replace H:=qn H;obtain⟨P0,H⟩:=H;have Q0:=qa P0;clear P0;replace H:=qs H;obtain⟨R0,U0,H⟩:=H;replace H:=qe H;obtain⟨V0,H⟩|⟨V0,H⟩:=H
     ·replace H:=qn H;obtain⟨W0,H⟩:=H;have X0:=qa W0;clear W0;obtain⟨Y0,hy_⟩:∃y_:List Int,y_=(A0++[wrap64 (Int.tdiv a0 B0)]):=⟨_,rfl⟩;replace H:(impl_divisors.l0 k1 a0 R0 Y0 (wrap64 (B0+1)))=some r:=yh;have a1:=qa hy_;clear hy_;have H':=qa H;clear H
      go_wp2_with(first|((with_reducible refine gate_builtin (b:= .append) (xs:=#[.tmp 19,.tmp 21]) rfl ?_);at_builtin;refine Kd.R_append (Kd.int .i64) (w0:=w) w.heap.size rfl (.tmp 19) (.tmp 21) 22 3 (.int .i64 0) 8 rfl Tryz.underlying22 info3 rfl kd_ ko_ u3 y0 B0 [.int .i64 B0] (fun k_=>some k_≠(u4:Value).ownBlock) (fun _=>False) rfl rfl ?aP (fun _ hk=>hk.elim) ?aF ?aO ?aB ?aS ?aL ?_;(case aP=>exact rfl);(case aB=>exact(bl));(case aF=>exact(fun k_ hk=>Kd.fresh' (Kd.R_lt (kR D0)) k_ hk));(case aO=>exact(kR C0));(case aS=>exact(below_size (bl)));(case aL=>have:=Q0.out;omega);intro b1 c1 ho hb hg hat;rw[←U0.out]at ho;replace D0:=qa (Kd.R_after (ok:=(fun _=>True)) z25_ hg hat);replace HB:=qa (hb);have d1:=qa (ho);clear C0;clear ho hb hg hat)|((with_reducible refine gate_builtin (b:= .append) (xs:=#[.tmp 28,.tmp 32]) rfl ?_);at_builtin;refine Kd.R_append (Kd.int .i64) (w0:=w) w.heap.size rfl (.tmp 28) (.tmp 32) 22 3 (.int .i64 0) 8 rfl Tryz.underlying22 info3 rfl kd_ ko_ u4 A0 (wrap64 (Int.tdiv a0 B0)) [.int .i64 (wrap64 (Int.tdiv a0 B0))] (fun k_=>some k_≠(b1:Value).ownBlock) (fun _=>False) rfl rfl ?aP (fun _ hk=>hk.elim) ?aF ?aO ?aB ?aS ?aL ?_;(case aP=>exact rfl);(case aB=>exact(bl));(case aF=>exact(fun k_ hk=>Kd.fresh' (Kd.R_lt (kR d1)) k_ hk));(case aO=>exact z29_);(case aS=>exact(below_size (bl)));(case aL=>have:=X0.out;omega);intro e1 g1 ho hb hg hat;rw[←a1.out]at ho;replace d1:=qa (Kd.R_after (ok:=(fun _=>True)) (by(with_reducible repeat(first|apply Kd.R_alloc|apply Kd.R_drewN|apply Kd.R_drew));exact Kd.R_mono d1.out (fun _ hk=>⟨trivial,hk⟩)) hg hat);replace HB:=qa (hb);have j1:=qa (ho);clear D0;clear ho hb hg hat))
      go_roundg k1
      case measure=>have:=HK1.out;omega
      case rel=>exact⟨(R0),(Y0),(wrap64 (B0+1)),(sd),H',⟨by have:=HK1.out;omega⟩,⟨by(with_reducible repeat(first|apply Kd.R_alloc|apply Kd.R_drewN|apply Kd.R_drew));exact Kd.R_mono d1.out (fun _ hk=>hk.2)⟩,⟨kR j1⟩,⟨bl⟩⟩
     ·have H':=qa H;clear H
      go_wp2_with(first|((with_reducible refine gate_builtin (b:= .append) (xs:=#[.tmp 19,.tmp 21]) rfl ?_);at_builtin;refine Kd.R_append (Kd.int .i64) (w0:=w) w.heap.size rfl (.tmp 19) (.tmp 21) 22 3 (.int .i64 0) 8 rfl Tryz.underlying22 info3 rfl kd_ ko_ u3 y0 B0 [.int .i64 B0] (fun k_=>some k_≠(u4:Value).ownBlock) (fun _=>False) rfl rfl ?aP (fun _ hk=>hk.elim) ?aF ?aO ?aB ?aS ?aL ?_;(case aP=>exact rfl);(case aB=>exact(bl));(case aF=>exact(fun k_ hk=>Kd.fresh' (Kd.R_lt (kR D0)) k_ hk));(case aO=>exact(kR C0));(case aS=>exact(below_size (bl)));(case aL=>have:=Q0.out;omega);intro b1 l1 ho hb hg hat;rw[←U0.out]at ho;replace D0:=qa (Kd.R_after (ok:=(fun _=>True)) z25_ hg hat);replace HB:=qa (hb);have d1:=qa (ho);clear C0;clear ho hb hg hat))
      go_roundg k1
      case measure=>have:=HK1.out;omega
      case rel=>exact⟨(R0),(A0),(wrap64 (B0+1)),(sd),H',⟨by have:=HK1.out;omega⟩,⟨kR d1⟩,⟨z29_⟩,⟨bl⟩⟩
    ·have H':=qa H;clear H;go_wp2
     go_roundg k1
     case measure=>have:=HK1.out;omega
     case rel=>exact⟨(y0),(A0),(wrap64 (B0+1)),(sd),H',⟨by have:=HK1.out;omega⟩,⟨kR C0⟩,⟨kR D0⟩,⟨bl⟩⟩
  ·replace H:=qb H;obtain⟨n1,p1,H⟩:=H
   by_cases q1:y0.length+n1.length<17592186044416
   ·rw[if_pos q1]at H;have r1:=qa q1;clear q1;obtain⟨s1,hy_⟩:∃y_:List Int,y_=(y0++n1):=⟨_,rfl⟩;replace H:(some s1)=some r:=yh;have t1:=qa hy_;clear hy_;obtain rfl:=sj H;obtain⟨v1,w1,rfl⟩:=Kd.R_slice D0.out
    go_wp2_with(first|(refine gol (some 35) Tryz.func144 #[.slice v1 A0.length w1] ?_;(with_reducible refine(slices_Reverse_int_int.calls k1 (fun k_=>some k_=(.slice v1 A0.length w1:Value).ownBlock) (.slice v1 A0.length w1) A0 n1 w _ ?x1 ?y1 p1.out).mono ?_);(case x1=>exact bl);(case y1=>exact Kd.R_tight rfl D0.out);rintro e A1 ⟨rfl,B1,hb,hkp⟩;refine⟨_,rfl,?_⟩;replace C0:=qa (Kd.R_mono (ok':=fun k_=>some k_≠(.slice v1 A0.length w1:Value).ownBlock) (Kd.R_keptB (C0.out) hkp (fun k_ hk_ hs_=>(hk_) hs_)) (fun k_ hk_=>hk_.1));replace D0:=qa (Kd.R_reok rfl B1 (fun k_ e_=>D0.out.1 k_ e_));replace HB:=qa (hb))|((with_reducible refine gate_builtin (b:= .append) (xs:=#[.tmp 36,.tmp 37]) rfl ?_);at_builtin;refine Kd.R_append_rows (Kd.int .i64) (w0:=w) w.heap.size rfl (.tmp 36) (.tmp 37) 22 3 (.int .i64 0) 8 rfl Tryz.underlying22 info3 rfl kd_ ko_ u3 y0 n1 _ _ _ (fun k_=>some k_≠(.slice v1 A0.length w1:Value).ownBlock) (fun _=>False) rfl rfl ?aO ?aR (fun _ _ h=>h) (fun _ h=>h.elim) ?aF ?aB ?aS ?aL ?_;(case aR=>rw[show A0.length=n1.length from(Kd.R_reads' D0.out).1];exact cx (Kd.R_reads' D0.out).2.2);(case aB=>exact(bl));(case aF=>exact(fun k_ hk=>Kd.fresh' (Kd.R_lt (kR D0)) k_ hk));(case aO=>exact(kR C0));(case aS=>exact(below_size (bl)));(case aL=>have:=r1.out;have hlx_:=(Kd.R_reads' D0.out).1;omega);intro C1 D1 ho hb hg hat;rw[←t1.out]at ho;replace D0:=qa (Kd.R_after (ok:=(fun _=>True)) z25_ hg hat);replace HB:=qa (hb);have E1:=qa (ho);clear C0;clear ho hb hg hat))
    go_ret;exact⟨_,z1_,by(with_reducible repeat(first|apply Kd.R_alloc|apply Kd.R_drewN|apply Kd.R_drew));exact Kd.R_mono E1.out (fun _ hk=>trivial),bl⟩
   ·rw[if_neg q1]at H;exact absurd H (by simp)

def impl_small.f (k:Nat) (a0:List Int):Option (Bool):=(impl_within.f k a0 10000).bind fun b0=>(some b0)
theorem impl_small.calls (k:Nat) (a0:Option Addr) (b0:Nat) (c0:List Int) (r:Bool) (w:World) (d0:Kd.C (Kd.int .i64) w a0 c0.length c0) (e0:c0.length≤b0) (h:impl_small.f k c0=some r):
  Calls Tryz.prog 132 #[.slice a0 c0.length b0] w fun e w'=>e= .returned (.bool r)∧Drawn0 w w':=by
 have g0:=qa d0;have j0:=qa e0;clear d0 e0;have H:=h;unfold impl_small.f at H;clear h;replace H:=qb H;obtain⟨l0,n0,H⟩:=H;obtain rfl:=sj H
 go_enter Tryz.func132,Tryz.ntmps132
 go_wp2_with(first|(refine gd 4 Tryz.func120 (impl_within.calls k _ _ c0 10000 l0 _ (cx g0.out) j0.out n0.out) fun nd=>?_))
 go_ret;exact⟨sd,dr⟩

-- NOT PRINTED: function 133 (impl_rowBy)

-- CALLS: impl.divisors impl.small
def impl_TimesOf_1.l0:Nat→Int→List Int→List Int→List Int→Int→Int→Option Int
 |0,_,_,_,_,_,_=>none
 |k+1,n,f,g,ds,a0,b0=>if b0<(ds.length:Int)then(if 0≤b0 then(if(rd ds b0)=0 then(none)else(if 0≤(wrap64 ((rd ds b0)-1))then(if(wrap64 ((rd ds b0)-1))<(f.length:Int)then(if 0≤(wrap64 ((wrap64 (Int.tdiv n (rd ds b0)))-1))then(if(wrap64 ((wrap64 (Int.tdiv n (rd ds b0)))-1))<(g.length:Int)then(impl_TimesOf_1.l0 k n f g ds (wrap64 (a0+(wrap64 ((rd f (wrap64 ((rd ds b0)-1)))*(rd g (wrap64 ((wrap64 (Int.tdiv n (rd ds b0)))-1))))))) (wrap64 (b0+1)))else(none))else(none))else(none))else(none)))else(none))else(some a0)
def impl_TimesOf_1.f (k:Nat) (n:Int) (f g:List Int):Option Int:=(impl_divisors.f k n).bind fun ds=>impl_TimesOf_1.l0 k n f g ds 0 0
theorem impl_TimesOf_1.mono_l:∀k,∀a0 b0 c0 d0 e0 g0,LeO (impl_TimesOf_1.l0 k a0 b0 c0 d0 e0 g0) (impl_TimesOf_1.l0 (k+1) a0 b0 c0 d0 e0 g0)
 |0=>fun _ _ _ _ _ _ r h=>by simp[impl_TimesOf_1.l0]at h
 |k+1=>by
  have ih:=impl_TimesOf_1.mono_l k;intro a0 b0 c0 d0 e0 g0;unfold impl_TimesOf_1.l0;exact LeO.ite (LeO.ite (LeO.ite (LeO.refl _) (LeO.ite (LeO.ite (LeO.ite (LeO.ite (ih _ _ _ _ _ _) (LeO.refl _)) (LeO.refl _)) (LeO.refl _)) (LeO.refl _))) (LeO.refl _)) (LeO.refl _)
theorem impl_TimesOf_1.mono:∀n f g k,LeO (impl_TimesOf_1.f k n f g) (impl_TimesOf_1.f (k+1) n f g):=by
 intro n f g k;unfold impl_TimesOf_1.f;exact LeO.bind (impl_divisors.mono _ _) (fun _=>impl_TimesOf_1.mono_l k _ _ _ _ _ _)
theorem impl_TimesOf_1.calls (k:Nat) (n:Int) (a0 b0:List Int) (r:Int) (B1 B2:Nat) (c0 d0:Option Addr) (e0 g0:Nat) (w:World) (j0:w.cell? ⟨B1,0,none⟩=some (.slice c0 a0.length e0)) (n0:w.cell? ⟨B2,0,none⟩=some (.slice d0 b0.length g0)) (p0:Kd.C (Kd.int .i64) w c0 a0.length a0) (q0:Kd.C (Kd.int .i64) w d0 b0.length b0) (h:impl_TimesOf_1.f k n a0 b0=some r):
  Calls Tryz.prog 134 #[.int .i64 n,.pointer (some ⟨B1,0,none⟩),.pointer (some ⟨B2,0,none⟩)] w fun e w'=>e= .returned (.int .i64 r)∧Below w.heap.size w w':=by
 have HB:=qa (Below.refl w.heap.size w);have H:=h;clear h;unfold impl_TimesOf_1.f at H;replace H:=qb H;obtain⟨r0,s0,H⟩:=H;have H':=qa H;clear H;have CAP1:=qa j0;have CAP2:=qa n0;have t0:=qa p0;have v0:=qa q0;clear j0 n0 p0 q0
 go_enter Tryz.func134,Tryz.ntmps134
 go_wp2_with(first|(refine ge_ 9 Tryz.func109 (impl_divisors.calls k n r0 _ s0.out) fun w0 x0 y0 hb=>?_;have A0:=qa (Kd.R_lower y0 (below_size (bl)));replace HB:=bs hb;obtain⟨B0,C0,rfl⟩:=Kd.R_slice A0.out))
 go_loopg [5,11] k (fun kq D0 E0 w'=>∃(G0:Int) (J0:Int),D0= .int .i64 G0∧E0= .int .i64 J0∧Aside0 (impl_TimesOf_1.l0 kq n a0 b0 r0 G0 J0=some r)∧Aside0 (kq≤k)∧Aside0 (Kd.R (Kd.int .i64) 3 w' w.heap.size (fun _=>True) (.slice B0 r0.length C0) r0)∧Aside0 (Below w.heap.size w w'))
 case atStart=>exact⟨(0),(0),(sd),(sd),H',⟨Nat.le_refl _⟩,⟨kR A0⟩,⟨bl⟩⟩
 case round=>
  clear H';obtain⟨G0,J0,rfl,rfl,HA,HK1,K0,HB⟩:=hrel;obtain⟨k1,rfl,H⟩:=kz gk HA;clear HA;simp only[impl_TimesOf_1.l0]at H
  by_cases L0:J0<(r0.length:Int)
  ·rw[if_pos L0]at H;have M0:decide (J0<(r0.length:Int))=true:=decide_eq_true L0;replace H:=qn H;obtain⟨N0,H⟩:=H
   by_cases P0:(rd r0 J0)=0
   ·rw[if_pos P0]at H;exact absurd H (by simp)
   ·rw[if_neg P0]at H;have Q0:((rd r0 J0)==0)=false:=beq_eq_false_iff_ne.mpr P0;have R0:((rd r0 J0) != 0)=true:=bne_iff_ne.mpr P0
    split at H
    ·rename_i d1
     split at H
     ·rename_i d2
      split at H
      ·rename_i d3
       split at H
       ·rename_i d4
        have H':=qa H;clear H;obtain⟨U0,V0,W0⟩:=Kd.at_int (Kd.R_reads' K0.out).2.2 J0 N0 L0;cases V0;obtain⟨X0,Y0,a1⟩:=Kd.at_int (Kd.C_below t0.out HB.out) _ d1 d2;obtain⟨b1,c1,e1⟩:=Kd.at_int (Kd.C_below v0.out HB.out) _ d3 d4;(have g1:wr.cell? ⟨B1,0,none⟩=some (.slice (some X0) a0.length e0):=by rw[←Y0];exact(HB.out.cell (World.block_lt_of_cell? w _ CAP1.out)).trans CAP1.out);(have j1:wr.cell? ⟨B2,0,none⟩=some (.slice (some b1) b0.length g0):=by rw[←c1];exact(HB.out.cell (World.block_lt_of_cell? w _ CAP2.out)).trans CAP2.out);clear Y0 c1;simp only[←i64_w]at a1 e1 d1 d2 d3 d4;replace L0:=eq_true L0;replace N0:=eq_true N0;replace d1:=eq_true d1;replace d2:=eq_true d2;replace d3:=eq_true d3;replace d4:=eq_true d4
        go_wp2_with fail
        go_quiet(fail)
        go_wp2
        go_roundg k1
        case measure=>have:=HK1.out;omega
        case rel=>exact⟨(wrap64 (G0+(wrap64 ((rd a0 (wrap64 ((rd r0 J0)-1)))*(rd b0 (wrap64 ((wrap64 (Int.tdiv n (rd r0 J0)))-1))))))),(wrap64 (J0+1)),z37_,z37_,H',⟨by have:=HK1.out;omega⟩,⟨kR K0⟩,⟨bl⟩⟩
       ·exact absurd H (by simp)
      ·exact absurd H (by simp)
     ·exact absurd H (by simp)
    ·exact absurd H (by simp)
  ·rw[if_neg L0]at H;have M0:decide (J0<(r0.length:Int))=false:=decide_eq_false L0;clear L0;obtain rfl:=sj H;go_wp2;go_ret;exact⟨sd,bl⟩
def impl_rowBy_TimesOf.l0:Nat→List Int→List Int→List Int→Int→Option (List Int)
 |0,_,_,_,_=>none
 |k+1,a0,b0,c0,d0=>if d0<24 then(if 0≤d0 then((impl_TimesOf_1.f k (wrap64 (d0+1)) a0 b0).bind fun t=>(if d0<(c0.length:Int)then(impl_rowBy_TimesOf.l0 k a0 b0 (c0.set (d0:Int).toNat t) (wrap64 (d0+1)))else(none)))else(none))else(some c0)
theorem impl_rowBy_TimesOf.mono_l:∀k,∀z0 z1 a0 b0,LeO (impl_rowBy_TimesOf.l0 k z0 z1 a0 b0) (impl_rowBy_TimesOf.l0 (k+1) z0 z1 a0 b0)
 |0=>fun _ _ _ _ r h=>by simp[impl_rowBy_TimesOf.l0]at h
 |k+1=>by
  have ih:=impl_rowBy_TimesOf.mono_l k;intro z0 z1 a0 b0;unfold impl_rowBy_TimesOf.l0;refine LeO.ite (LeO.ite (LeO.bind (impl_TimesOf_1.mono _ _ _ _) (fun _=>LeO.ite (ih _ _ _ _) (LeO.refl _))) (LeO.refl _)) (LeO.refl _)
theorem impl_rowBy_TimesOf.len:∀k z0 z1 (x:List Int) i r,impl_rowBy_TimesOf.l0 k z0 z1 x i=some r→r.length=x.length
 |0,_,_,_,_,_,h=>by simp[impl_rowBy_TimesOf.l0]at h
 |k+1,z0,z1,x,i,r,h=>by
  simp only[impl_rowBy_TimesOf.l0]at h
  split at h
  ·split at h
   ·obtain⟨t,_,h⟩:=Option.bind_eq_some_iff.mp h;replace h:(if i<(x.length:Int)then(impl_rowBy_TimesOf.l0 k z0 z1 (x.set (i:Int).toNat t) (wrap64 (i+1)))else(none))=some r:=h
    split at h
    ·rw[impl_rowBy_TimesOf.len k _ _ _ _ _ h,List.length_set]
    ·simp at h
   ·simp at h
  ·obtain rfl:=Option.some.inj h
   rfl
theorem impl_rowBy_TimesOf.calls (k:Nat) (a0:List Int) (b0:List Int) (r:List Int) (B1 B2:Nat) (c0 d0:Option Addr) (e0 g0:Nat) (w:World) (h0:w.cell? ⟨B1,0,none⟩=some (.slice c0 a0.length e0)) (h1:w.cell? ⟨B2,0,none⟩=some (.slice d0 b0.length g0)) (h2:Kd.C (Kd.int .i64) w c0 a0.length a0) (h3:Kd.C (Kd.int .i64) w d0 b0.length b0) (H:impl_rowBy_TimesOf.l0 k a0 b0 (List.replicate (24:Int).toNat 0) 0=some r):
  Calls Tryz.prog 133 #[.func (.func 134) #[] #[.pointer (some ⟨B1,0,none⟩),.pointer (some ⟨B2,0,none⟩)]] w fun e w'=>∃v0_:Value,e= .returned (v0_)∧Kd.R (Kd.int .i64) 3 w' w.heap.size (fun _=>True) v0_ r∧Below w.heap.size w w':=by
 have HH0:=qa h0;have HH1:=qa h1;have HH2:=qa h2;have HH3:=qa h3;clear h0 h1 h2 h3;have HB:=qa (Below.refl w.heap.size w);have H':=qa H;clear H
 go_enter Tryz.func133,Tryz.ntmps133
 go_wp2_with(first|((with_reducible refine gate_dst (N:=5) rfl ?_);refine Kd.R_make (Kd.int .i64) _ 3 rfl (N:=5) rfl 22 _ _ rfl (24:Int) rfl rfl Tryz.underlying22 (.int .i64 0) 8 info3 rfl kd_ ko_ 0 (ok:=fun _=>True) (okp:=fun _=>True) rfl (fun _ hk=>hk) trivial kd_ kd_ (Below.refl _ _) (Nat.le_refl _) ?_;intro j0 n0 p0 hb hg_ hnew_;clear hg_ hnew_;have q0:=qa (Kd.R_lower p0 (below_size (bl)));replace HB:=bs hb;clear hb p0;obtain⟨r0,s0,t0,v0,gl4,cl4,HG4⟩:=Kd.R_form q0.out (by simp);rw[List.length_replicate,show(24:Int).toNat =24 from rfl]at t0;subst t0;clear v0 gl4 HG4))
 go_loopg [8] k (fun kq w0 w'=>∃(x0:List Int) (y0:Int),w0= .int .i64 y0∧Aside0 (x0.length=24)∧Aside0 (impl_rowBy_TimesOf.l0 kq a0 b0 x0 y0=some r)∧Aside0 (kq≤k)∧Aside0 (Kd.R (Kd.int .i64) 3 w' w.heap.size (fun _=>True) (.slice (some ⟨r0,0,none⟩) 24 s0) x0)∧Aside0 (Below w.heap.size w w'))
 case atStart=>exact⟨_,(0),(sd),⟨List.length_replicate ..⟩,H',⟨Nat.le_refl _⟩,⟨kR q0⟩,⟨bl⟩⟩
 case round=>
  clear H' q0;obtain⟨x0,y0,rfl,HL,HA,HK1,A0,HB⟩:=hrel;obtain⟨k1,rfl,H⟩:=kz gk HA;clear HA;simp only[impl_rowBy_TimesOf.l0]at H
  by_cases B0:y0<24
  ·rw[if_pos B0]at H;have C0:decide (y0<24)=true:=decide_eq_true B0;replace H:=qn H;obtain⟨D0,H⟩:=H;replace H:=qb H;obtain⟨E0,G0,H⟩:=H;(have q9':y0<(x0.length:Int):=by have:=HL.out;omega);rw[if_pos q9']at H;have H':=qa H;clear H;have c7b:decide (0≤y0)=true:=decide_eq_true D0;have C7:=qa D0;have C6:=qa B0;have Q9:=qa q9';clear q9';replace D0:=eq_true D0;replace B0:=eq_true B0
   go_wp2_with(first|(go_at_call 134;(with_reducible refine(impl_TimesOf_1.calls k1 (wrap64 (y0+1)) a0 b0 E0 B1 B2 c0 d0 e0 g0 _ ((HB.out.cell (World.block_lt_of_cell? w _ HH0.out)).trans HH0.out) ((HB.out.cell (World.block_lt_of_cell? w _ HH1.out)).trans HH1.out) (Kd.C_below HH2.out HB.out) (Kd.C_below HH3.out HB.out) G0.out).mono ?_);rintro e J0 ⟨rfl,hb⟩;replace A0:=qa (Kd.R_below A0.out hb);replace HB:=bs hb;clear hb;obtain⟨K0,L0⟩:=Kd.R_celln 0 A0.out (y0:Int) C7.out (by have:=C6.out;omega);have GB9:=qa (Kd.R_base A0.out r0 rfl);have HP10:=Kd.R_putg A0.out (y0:Int) E0)|((with_reducible refine gate_store (t:=3) (p:=17) rfl ?_);refine store_event (t:=3) (p:=17) (v:=?vo_w11) (w1:=(J0.setCell ⟨r0,(y0:Int).toNat,none⟩ (.int .i64 E0))) ?hg ?ho ?hn ?hr ?_;(case ho=>rfl);(case hg=>rfl);(case hn=>rfl);(case hr=>exact gr);intro M0 hw;have hp_:Kd.R (Kd.int .i64) 3 M0 w.heap.size (fun _=>True) (.slice (some ⟨r0,0,none⟩) 24 s0) (x0.set (y0:Int).toNat E0):=(by rw[hw];exact HP10.1);clear HP10;replace A0:=qa (hp_);replace HB:=qa ((by rw[hw];exact below_set (HB.out) GB9.out:Below w.heap.size w M0));clear hw hp_))
   go_roundg k1
   case measure=>have:=HK1.out;omega
   case rel=>exact⟨_,(wrap64 (y0+1)),(sd),⟨by rw[List.length_set];exact HL.out⟩,H',⟨by have:=HK1.out;omega⟩,⟨kR A0⟩,⟨bl⟩⟩
  ·rw[if_neg B0]at H;have C0:decide (y0<24)=false:=decide_eq_false B0;clear B0;obtain rfl:=sj H;go_wp2;go_ret;exact⟨_,sd,kR A0,bl⟩
def impl_TimesOf.f (k:Nat) (a0 b0:List Int):Option (List Int×Bool):=(impl_small.f k a0).bind fun s=>(if s=true then((impl_small.f k b0).bind fun s2=>(if s2=true then((impl_rowBy_TimesOf.l0 k a0 b0 (List.replicate (24:Int).toNat 0) 0).bind fun t=>some (t,true))else some (([]:List Int),false)))else some (([]:List Int),false))
theorem impl_TimesOf.calls (k:Nat) (a0:Option Addr) (b0:Nat) (c0:List Int) (d0:Option Addr) (e0:Nat) (g0:List Int) (j0:List Int) (n0:Bool) (w:World) (p0:Kd.C (Kd.int .i64) w a0 c0.length c0) (q0:c0.length≤b0) (r0:Kd.C (Kd.int .i64) w d0 g0.length g0) (t0:g0.length≤e0) (h:impl_TimesOf.f k c0 g0=some (j0,n0)):
  Calls Tryz.prog 95 #[.slice a0 c0.length b0,.slice d0 g0.length e0] w fun e w'=>∃v0_:Value,e= .returned (.tuple #[v0_,.bool n0])∧Kd.R (Kd.int .i64) 3 w' w.heap.size (fun _=>True) v0_ j0∧Below w.heap.size w w':=by
 (have hmf:∀(fn:Fn) (first cap:Array Value) (w:World),(Instr.makeFunc fn first cap).run Tryz.prog w= .ok (.func fn first cap) w:=fun _ _ _ _=>rfl);have v0:=qa p0;have w0:=qa q0;have x0:=qa r0;have y0:=qa t0;clear p0 q0 r0 t0;have H:=h;clear h;unfold impl_TimesOf.f at H;replace H:=Option.bind_eq_some_iff.mp H;obtain⟨s,S00,H⟩:=H;have S0:=qa S00;clear S00
 cases s with
 |false=>
  have H2:(([]:List Int),false)=(j0,n0):=sj H;obtain⟨rfl,rfl⟩:=Prod.mk.inj H2;clear H H2
  go_enter Tryz.func95,Tryz.ntmps95
  go_wp2_with(first|(go_at_call 132;(with_reducible refine(impl_small.calls k a0 b0 c0 false _ ?s0 w0.out S0.out).mono ?_);(case s0=>exact cx v0.out);rintro e w' ⟨rfl,⟨nd0,rfl⟩⟩))
  go_ret2;exact⟨_,sd,Kd.R_nil _ _ _ _ _,z22_⟩
 |true=>
  replace H:((impl_small.f k g0).bind fun s2=>(if s2=true then((impl_rowBy_TimesOf.l0 k c0 g0 (List.replicate (24:Int).toNat 0) 0).bind fun t=>some (t,true))else some (([]:List Int),false)))=some (j0,n0):=H;replace H:=Option.bind_eq_some_iff.mp H;obtain⟨s2,S10,H⟩:=H;have S1:=qa S10;clear S10
  cases s2 with
  |false=>
   have H2:(([]:List Int),false)=(j0,n0):=sj H;obtain⟨rfl,rfl⟩:=Prod.mk.inj H2;clear H H2
   go_enter Tryz.func95,Tryz.ntmps95
   go_wp2_with(first|(go_at_call 132;(with_reducible refine(impl_small.calls k a0 b0 c0 true _ ?s0 w0.out S0.out).mono ?_);(case s0=>exact cx v0.out);rintro e w' ⟨rfl,⟨nd0,rfl⟩⟩)|(go_at_call 132;(with_reducible refine(impl_small.calls k d0 e0 g0 false _ ?s1 y0.out S1.out).mono ?_);(case s1=>exact cx x0.out);rintro e w' ⟨rfl,⟨nd1,rfl⟩⟩))
   go_ret2;exact⟨_,sd,Kd.R_nil _ _ _ _ _,z22_⟩
  |true=>
   replace H:((impl_rowBy_TimesOf.l0 k c0 g0 (List.replicate (24:Int).toNat 0) 0).bind fun t=>some (t,true))=some (j0,n0):=H;replace H:=Option.bind_eq_some_iff.mp H;obtain⟨t,T0,H⟩:=H;obtain⟨rfl,rfl⟩:=Prod.mk.inj (Option.some.inj H);clear H;have H':=qa T0;clear T0
   go_enter Tryz.func95,Tryz.ntmps95
   go_wp2_with(first|(go_at_call 132;(with_reducible refine(impl_small.calls k a0 b0 c0 true _ ?s0 w0.out S0.out).mono ?_);(case s0=>exact cx v0.out);rintro e w' ⟨rfl,⟨nd0,rfl⟩⟩)|(go_at_call 132;(with_reducible refine(impl_small.calls k d0 e0 g0 true _ ?s1 y0.out S1.out).mono ?_);(case s1=>exact cx x0.out);rintro e w' ⟨rfl,⟨nd1,rfl⟩⟩)|(go_at_call 133;(with_reducible refine(impl_rowBy_TimesOf.calls k c0 g0 t _ _ a0 d0 b0 e0 _ ?e0 ?A0 ?B0 ?C0 H'.out).mono ?_)))
   case e0=>first|(simp[World.cell?_alloc_at];done)|(simp[World.cell?_alloc_at,World.cell?_alloc_lt];done)|(simp;done)
   case A0=>first|(simp[World.cell?_alloc_at];done)|(simp;done)
   case B0=>exact cx v0.out
   case C0=>exact cx x0.out
   rintro e D0 ⟨E0,rfl,ho,hb⟩;have HO:=qa (Kd.R_lower ho (below_size z21_));have HB:=qa (below_step z21_ hb);clear ho hb H';go_wp2;go_ret2;exact⟨_,sd,z32_,bl⟩
mutual
def impl_factors.l0:Nat→Int→List (List Int)→Int→Option ((List (List Int)))
 |0,_,_,_=>none
 |k+1,a0,b0,c0=>if a0>1 then(if(wrap64 (c0*c0))>a0 then(impl_factors.j1 k a0 b0 a0)else(impl_factors.j1 k a0 b0 c0))else(some b0)
def impl_factors.j1:Nat→Int→List (List Int)→Int→Option ((List (List Int)))
 |0,_,_,_=>none
 |k+1,a0,b0,c0=>impl_factors.l1 k a0 b0 c0 0
def impl_factors.l1:Nat→Int→List (List Int)→Int→Int→Option ((List (List Int)))
 |0,_,_,_,_=>none
 |k+1,a0,b0,c0,d0=>if c0=0 then(none)else(if(Int.tmod a0 c0)=0 then(impl_factors.l1 k (wrap64 (Int.tdiv a0 c0)) b0 c0 (wrap64 (d0+1)))else(if d0>0 then(if b0.length<5864062014805 then(impl_factors.l0 k a0 (b0++[(([c0,d0]:List Int))]) (wrap64 (c0+1)))else(none))else(impl_factors.l0 k a0 b0 (wrap64 (c0+1)))))
end

def impl_factors.f (k:Nat) (a0:Int):Option ((List (List Int))):=impl_factors.l0 k a0 (([]:List (List Int))) 2
theorem impl_factors.mono_l:∀k,(∀a0 b0 c0,LeO (impl_factors.l0 k a0 b0 c0) (impl_factors.l0 (k+1) a0 b0 c0))∧(∀a0 b0 c0,LeO (impl_factors.j1 k a0 b0 c0) (impl_factors.j1 (k+1) a0 b0 c0))∧(∀a0 b0 c0 d0,LeO (impl_factors.l1 k a0 b0 c0 d0) (impl_factors.l1 (k+1) a0 b0 c0 d0))
 |0=>⟨fun _ _ _ r h=>by simp[impl_factors.l0]at h,fun _ _ _ r h=>by simp[impl_factors.j1]at h,fun _ _ _ _ r h=>by simp[impl_factors.l1]at h⟩
 |k+1=>by
  obtain⟨ih0,ih1,ih2⟩:=impl_factors.mono_l k;refine⟨?_,?_,?_⟩
  ·intro a0 b0 c0;unfold impl_factors.l0;exact mz
  ·intro a0 b0 c0;unfold impl_factors.j1;exact mz
  ·intro a0 b0 c0 d0;unfold impl_factors.l1;exact mz
theorem impl_factors.mono:∀a0 k,LeO (impl_factors.f k a0) (impl_factors.f (k+1) a0):=by
 intro a0 k;obtain⟨ih0,ih1,ih2⟩:=impl_factors.mono_l k;unfold impl_factors.f;exact mz
theorem impl_factors.calls (k:Nat) (a0:Int) (r:List (List Int)) (w:World) (h:impl_factors.f k a0=some r):
  Calls Tryz.prog 138 #[.int .i64 a0] w fun e w'=>∃v0_:Value,e= .returned (v0_)∧Kd.S (Kd.slice 3 (Kd.int .i64)) 22 w' w.heap.size (fun _=>True) v0_ r∧Below w.heap.size w w':=by
 have HB:=qa (Below.refl w.heap.size w);have H:=h;unfold impl_factors.f at H;clear h;obtain⟨b0,hy_⟩:∃y_:List (List Int),y_=(([]:List (List Int))):=⟨_,rfl⟩;replace H:(impl_factors.l0 k a0 b0 2)=some r:=yh;have c0:=qa hy_;clear hy_;have H':=qa H;clear H
 go_enter Tryz.func138,Tryz.ntmps138
 go_wp2_with(first|((with_reducible refine gate_dst (N:=6) rfl ?_);refine Kd.S_lit (Kd.slice 3 (Kd.int .i64)) _ 22 ?hg (N:=6) ?hd (xs:=([]:List (List Int))) (inner:=[]) (ok:=fun _=>True) (okp:=fun _=>True) ?hr ?hp (fun _ hk=>hk) trivial (Below.refl _ _) (Nat.le_refl _) (by simp) ?_;(case hd=>rfl);(case hg=>rfl);(case hr=>exact gr);(case hp=>exact(Reps.none _ _));intro d0 e0 g0 hb hg_ hnew_;clear hg_ hnew_;(first|rw[←c0.out]at g0|(simp only[Int.reduceToNat]at g0;rw[←c0.out]at g0));have j0:=qa (Kd.S_lower g0 (below_size (bl)));replace HB:=bs hb;clear hb g0))
 go_loopg [0,3,4] k (fun kq n0 p0 q0 w'=>∃(r0:Int) (s0:List (List Int)) (t0:Int),n0= .int .i64 r0∧q0= .int .i64 t0∧Aside0 (impl_factors.l0 kq r0 s0 t0=some r)∧Aside0 (kq≤k)∧Aside0 (Kd.S (Kd.slice 3 (Kd.int .i64)) 22 w' w.heap.size (fun _=>True) p0 s0)∧Aside0 (Below w.heap.size w w'))
 case atStart=>exact⟨(a0),(b0),(2),(sd),(sd),H',⟨Nat.le_refl _⟩,⟨kS j0⟩,⟨bl⟩⟩
 case round=>
  clear H';obtain⟨r0,s0,t0,rfl,rfl,HA,HK1,v0,HB⟩:=hrel;obtain⟨k1,rfl,H⟩:=kz gk HA;clear HA;simp only[impl_factors.l0]at H;replace H:=qg H;obtain⟨w0,H⟩|⟨w0,H⟩:=H
  ·have x0:=qa H;clear H
   go_upto_if 15 with(fail)
   go_cut [4] (fun q0 wc=>∃(kq:Nat) (y0:Int),q0= .int .i64 y0∧Aside0 (impl_factors.j1 kq r0 s0 y0=some r)∧Aside0 (kq≤k1)∧Aside0 (Kd.S (Kd.slice 3 (Kd.int .i64)) 22 wc w.heap.size (fun _=>True) u3 s0)∧Aside0 (Below w.heap.size w wc))
   case first=>
    have H:=x0.out;clear x0;replace H:=qg H;obtain⟨A0,H⟩|⟨A0,H⟩:=H
    ·(first|rw[A0]|(simp only[i64_w,i32_w];rw[A0])|skip);have H':=qa H;clear H;go_wp2;go_meet
     case rel=>exact⟨_,(r0),(sd),H',⟨z23_⟩,⟨kS v0⟩,⟨bl⟩⟩
    ·(first|rw[A0]|(simp only[i64_w,i32_w];rw[A0])|skip);have H':=qa H;clear H;go_wp2;go_meet
     case rel=>exact⟨_,(t0),(sd),H',⟨z23_⟩,⟨kS v0⟩,⟨bl⟩⟩
   case rest=>
    clear x0;obtain⟨kq,y0,rfl,HA,B0,v0,HB⟩:=hcut;obtain⟨C0,rfl,H⟩:=kz kq HA;clear HA;simp only[impl_factors.j1]at H;have H':=qa H;clear H;go_wp2
    go_loopg [0,5] C0 (fun kq n0 D0 w'=>∃(E0:Int) (G0:Int),n0= .int .i64 E0∧D0= .int .i64 G0∧Aside0 (impl_factors.l1 kq E0 s0 y0 G0=some r)∧Aside0 (kq≤C0)∧Aside0 (Kd.S (Kd.slice 3 (Kd.int .i64)) 22 w' w.heap.size (fun _=>True) u3 s0)∧Aside0 (Below w.heap.size w w'))
    case atStart=>exact⟨(r0),(0),(sd),(sd),H',⟨Nat.le_refl _⟩,⟨kS v0⟩,⟨bl⟩⟩
    case round=>
     clear H';obtain⟨E0,G0,rfl,rfl,HA,HK3,v0,HB⟩:=hrel;obtain⟨k3,rfl,H⟩:=kz gk HA;clear HA;simp only[impl_factors.l1]at H
     by_cases J0:y0=0
     ·rw[if_pos J0]at H;exact absurd H (by simp)
     ·rw[if_neg J0]at H;have K0:(y0==0)=false:=beq_eq_false_iff_ne.mpr J0;have L0:(y0 != 0)=true:=bne_iff_ne.mpr J0;replace H:=qq H;obtain⟨M0,N0,H⟩|⟨P0,M0,N0,H⟩:=H
      ·have H':=qa H;clear H;go_wp2
       go_roundg k3
       case measure=>have:=HK1.out;have:=B0.out;have:=HK3.out;omega
       case rel=>exact⟨(wrap64 (Int.tdiv E0 y0)),(wrap64 (G0+1)),(sd),(sd),H',⟨by have:=HK1.out;have:=B0.out;have:=HK3.out;omega⟩,⟨kS v0⟩,⟨bl⟩⟩
      ·replace H:=qg H;obtain⟨Q0,H⟩|⟨Q0,H⟩:=H
       ·obtain⟨R0,hy_⟩:∃y_:List Int,y_=(([y0,G0]:List Int)):=⟨_,rfl⟩;replace H:(if s0.length<5864062014805 then(impl_factors.l0 k3 E0 (s0++[R0]) (wrap64 (y0+1)))else(none))=some r:=yh;have U0:=qa hy_;clear hy_;replace H:=qn H;obtain⟨V0,H⟩:=H;have W0:=qa V0;clear V0;obtain⟨X0,hy_⟩:∃y_:List (List Int),y_=(s0++[R0]):=⟨_,rfl⟩;replace H:(impl_factors.l0 k3 E0 X0 (wrap64 (y0+1)))=some r:=yh;have Y0:=qa hy_;clear hy_;have H':=qa H;clear H
        go_wp2_with(first|(refine rli .i64 3 31 U0.out fun a1 b1 c1 hb=>?_;replace v0:=qa (Kd.S_elder' (kS v0) (Kd.R_base c1) hb);have d1:=qa (Kd.R_lower c1 (below_size (bl)));replace HB:=bs hb;clear hb c1;obtain⟨e1,g1,rfl⟩:=Kd.R_slice d1.out)|((with_reducible refine gate_builtin (b:= .append) (xs:=#[.tmp 28,.tmp 32]) rfl ?_);at_builtin;refine Kd.S_append (Kd.slice 3 (Kd.int .i64)) (w0:=w) w.heap.size rfl (.tmp 28) (.tmp 32) 23 22 (.slice none 0 0) 24 rfl Tryz.underlying23 info22 rfl kd_ ko_ u3 s0 R0 [.slice e1 R0.length g1] (fun _=>True) (fun k_=>some k_=(.slice e1 R0.length g1:Value).ownBlock) rfl rfl ?aP (fun k_ hk_=>((Kd.R_mono (ok':=fun k_=>((fun _=>True)) k_∧some k_≠(u3:Value).ownBlock) (Kd.R_apart' (d1.out) (Kd.S_typed v0.out) kd_) (fun k_ hk=>⟨trivial,hk.2⟩))).1 k_ hk_.symm) ?aF ?aO ?aB ?aS ?aL ?_;(case aP=>exact Kd.M_row (Kd.R_mono (Kd.R_tight rfl (Kd.R_mono (ok':=fun k_=>((fun _=>True)) k_∧some k_≠(u3:Value).ownBlock) (Kd.R_apart' (d1.out) (Kd.S_typed v0.out) kd_) (fun k_ hk=>⟨trivial,hk.2⟩))) (fun _ h_=>h_)));(case aB=>exact(bl));(case aF=>exact(fun _ _=>trivial));(case aO=>exact z39_);(case aS=>exact(below_size (bl)));(case aL=>have:=W0.out;omega);intro n1 p1 ho hb hg hat;rw[←Y0.out]at ho;replace HB:=qa (hb);have q1:=qa (ho);clear v0 d1;clear ho hb hg hat))
        go_roundg k3
        case measure=>have:=HK1.out;have:=B0.out;have:=HK3.out;omega
        case rel=>exact⟨(E0),(X0),(wrap64 (y0+1)),(sd),(sd),H',⟨by have:=HK1.out;have:=B0.out;have:=HK3.out;omega⟩,⟨kS q1⟩,⟨bl⟩⟩
       ·have H':=qa H;clear H;go_wp2
        go_roundg k3
        case measure=>have:=HK1.out;have:=B0.out;have:=HK3.out;omega
        case rel=>exact⟨(E0),(s0),(wrap64 (y0+1)),(sd),(sd),H',⟨by have:=HK1.out;have:=B0.out;have:=HK3.out;omega⟩,⟨kS v0⟩,⟨bl⟩⟩
  ·obtain rfl:=sj H;go_wp2;go_ret;exact⟨_,z1_,kS v0,bl⟩

def impl_phi.l0:Nat→Int→List (List Int)→Int→Int→Option (Int)
 |0,_,_,_,_=>none
 |k+1,a0,b0,c0,d0=>if d0<c0 then(if 0≤d0 then(if d0<(b0.length:Int)then(if 0<((rd_L1 b0 d0).length :Int)then(if(rd (rd_L1 b0 d0) 0)=0 then(none)else(impl_phi.l0 k (wrap64 ((wrap64 (Int.tdiv a0 (rd (rd_L1 b0 d0) 0)))*(wrap64 ((rd (rd_L1 b0 d0) 0)-1)))) b0 c0 (wrap64 (d0+1))))else(none))else(none))else(none))else(some a0)
def impl_phi.f (k:Nat) (a0:Int):Option (Int):=(impl_factors.f k a0).bind fun b0=>(impl_phi.l0 k a0 b0 (b0.length:Int) 0)
theorem impl_phi.mono_l:∀k,(∀a0 b0 c0 d0,LeO (impl_phi.l0 k a0 b0 c0 d0) (impl_phi.l0 (k+1) a0 b0 c0 d0))
 |0=>fun _ _ _ _ r h=>by simp[impl_phi.l0]at h
 |k+1=>by
  have ih0:=impl_phi.mono_l k
  ·intro a0 b0 c0 d0;unfold impl_phi.l0;have m0:= @impl_factors.mono;exact mz
theorem impl_phi.mono:∀a0 k,LeO (impl_phi.f k a0) (impl_phi.f (k+1) a0):=by
 intro a0 k;have ih0:=impl_phi.mono_l k;unfold impl_phi.f;have m0:= @impl_factors.mono;exact mz
theorem impl_phi.calls (k:Nat) (a0:Int) (r:Int) (w:World) (h:impl_phi.f k a0=some r):
  Calls Tryz.prog 113 #[.int .i64 a0] w fun e w'=>e= .returned (.int .i64 r)∧Below w.heap.size w w':=by
 have HB:=qa (Below.refl w.heap.size w);have H:=h;unfold impl_phi.f at H;clear h;replace H:=qb H;obtain⟨b0,c0,H⟩:=H;have H':=qa H;clear H
 go_enter Tryz.func113,Tryz.ntmps113
 go_wp2_with(first|(go_at_call 138;(with_reducible refine(impl_factors.calls k a0 b0 _ c0.out).mono ?_);rintro e d0 ⟨e0,rfl,g0,hb⟩;have j0:=qa (Kd.S_lower g0 (below_size (bl)));replace HB:=bs hb;obtain⟨n0,p0,rfl⟩:=Kd.S_slice j0.out))
 repeat(go_quiet(fail);try go_wp2_with(first|(go_at_call 138;(with_reducible refine(impl_factors.calls k a0 b0 _ c0.out).mono ?_);rintro e d0 ⟨e0,rfl,g0,hb⟩;have j0:=qa (Kd.S_lower g0 (below_size (bl)));replace HB:=bs hb;obtain⟨n0,p0,rfl⟩:=Kd.S_slice j0.out)))
 go_loopg [3,10] k (fun kq q0 r0 w'=>∃(s0:Int) (t0:Int),q0= .int .i64 s0∧r0= .int .i64 t0∧Aside0 (impl_phi.l0 kq s0 b0 (b0.length:Int) t0=some r)∧Aside0 (kq≤k)∧Aside0 (Kd.S (Kd.slice 3 (Kd.int .i64)) 22 w' w.heap.size (fun _=>True) (.slice n0 b0.length p0) b0)∧Aside0 (Below w.heap.size w w'))
 case atStart=>exact⟨(a0),(0),(sd),(sd),H',⟨Nat.le_refl _⟩,⟨kS j0⟩,⟨bl⟩⟩
 case round=>
  clear H';obtain⟨s0,t0,rfl,rfl,HA,HK1,v0,HB⟩:=hrel;obtain⟨k1,rfl,H⟩:=kz gk HA;clear HA;simp only[impl_phi.l0]at H;replace H:=qe H;obtain⟨w0,H⟩|⟨w0,H⟩:=H
  ·replace H:=qd H;obtain⟨x0,H⟩:=H;replace H:=qd H;obtain⟨y0,H⟩:=H;replace H:=qL 0 H;obtain⟨A0,B0,H⟩:=H
   by_cases C0:(rd (rd_L1 b0 t0) 0)=0
   ·rw[if_pos C0]at H;exact absurd H (by simp)
   ·rw[if_neg C0]at H;have D0:((rd (rd_L1 b0 t0) 0)==0)=false:=beq_eq_false_iff_ne.mpr C0;have E0:((rd (rd_L1 b0 t0) 0) != 0)=true:=bne_iff_ne.mpr C0;have H':=qa H;clear H;obtain⟨G0,J0,K0,⟨⟩,L0,HL181_0,M0,N0,P0,Q0⟩:=sg_L1 v0.out t0;obtain⟨R0,⟨⟩,U0,qi182,V0,W0⟩:=ain 0 z35_ 0;(try rw[Addr.add_zero']at U0);obtain⟨X0,qi183,Y0,a1⟩:=ajn 0 z35_ 0;(try rw[Addr.add_zero']at X0);go_wp2
    repeat(go_quiet(fail);try go_wp2)
    go_roundg k1
    case measure=>have:=HK1.out;omega
    case rel=>exact⟨(wrap64 ((wrap64 (Int.tdiv s0 (rd (rd_L1 b0 t0) 0)))*(wrap64 ((rd (rd_L1 b0 t0) 0)-1)))),(wrap64 (t0+1)),(sd),(sd),H',⟨by have:=HK1.out;omega⟩,⟨kS v0⟩,⟨bl⟩⟩
  ·obtain rfl:=sj H;go_wp2
   repeat(go_quiet(fail);try go_wp2)
   go_ret;exact⟨z1_,bl⟩

def impl_sum.l0:Nat→Int→List Int→Int→Int→Option (Int)
 |0,_,_,_,_=>none
 |k+1,a0,b0,c0,d0=>if d0<c0 then(if 0≤d0 then(if d0<(b0.length:Int)then(impl_sum.l0 k (wrap64 (a0+(rd b0 d0))) b0 c0 (wrap64 (d0+1)))else(none))else(none))else(some a0)
def impl_sum.f (k:Nat) (a0:List Int):Option (Int):=impl_sum.l0 k 0 a0 (a0.length:Int) 0
theorem impl_sum.mono_l:∀k,(∀a0 b0 c0 d0,LeO (impl_sum.l0 k a0 b0 c0 d0) (impl_sum.l0 (k+1) a0 b0 c0 d0))
 |0=>fun _ _ _ _ r h=>by simp[impl_sum.l0]at h
 |k+1=>by
  have ih0:=impl_sum.mono_l k
  ·intro a0 b0 c0 d0;unfold impl_sum.l0;exact mz
theorem impl_sum.mono:∀a0 k,LeO (impl_sum.f k a0) (impl_sum.f (k+1) a0):=by
 intro a0 k;have ih0:=impl_sum.mono_l k;unfold impl_sum.f;exact mz
theorem impl_sum.calls (k:Nat) (a0:Option Addr) (b0:Nat) (c0:List Int) (r:Int) (w:World) (d0:Kd.C (Kd.int .i64) w a0 c0.length c0) (e0:c0.length≤b0) (h:impl_sum.f k c0=some r):
  Calls Tryz.prog 136 #[.slice a0 c0.length b0] w fun e w'=>e= .returned (.int .i64 r)∧Drawn0 w w':=by
 have g0:=qa d0;have j0:=qa e0;clear d0 e0;have H:=h;unfold impl_sum.f at H;clear h;have H':=qa H;clear H
 go_enter Tryz.func136,Tryz.ntmps136
 go_wp2
 go_loopg [3,8] k (fun kq n0 p0 w'=>∃(q0:Int) (r0:Int),n0= .int .i64 q0∧p0= .int .i64 r0∧Aside0 (impl_sum.l0 kq q0 c0 (c0.length:Int) r0=some r)∧Aside0 (kq≤k)∧Drawn0 w w')
 case atStart=>exact⟨(0),(0),(sd),(sd),H',⟨Nat.le_refl _⟩,dr⟩
 case round=>
  clear H';obtain⟨q0,r0,rfl,rfl,HA,HK1,⟨m1,rfl⟩⟩:=hrel;obtain⟨k1,rfl,H⟩:=kz gk HA;clear HA;simp only[impl_sum.l0]at H;replace H:=qe H;obtain⟨s0,H⟩|⟨s0,H⟩:=H
  ·replace H:=qd H;obtain⟨t0,H⟩:=H;replace H:=qd H;obtain⟨v0,H⟩:=H;have H':=qa H;clear H;obtain⟨w0,⟨⟩,x0,y0,A0⟩:=ai g0.out r0;go_wp2
   go_roundg k1
   case measure=>have:=HK1.out;omega
   case rel=>exact⟨(wrap64 (q0+(rd c0 r0))),(wrap64 (r0+1)),(sd),(sd),H',⟨by have:=HK1.out;omega⟩,dr⟩
  ·obtain rfl:=sj H;go_wp2;go_ret;exact⟨sd,dr⟩

def impl_sign.l0:Nat→Int→List (List Int)→Int→Int→Option (Int)
 |0,_,_,_,_=>none
 |k+1,a0,b0,c0,d0=>if d0<c0 then(if 0≤d0 then(if d0<(b0.length:Int)then(if 1<((rd_L1 b0 d0).length :Int)then(if(rd (rd_L1 b0 d0) 1)>1 then(some 0)else(impl_sign.l0 k (wrap64 (-a0)) b0 c0 (wrap64 (d0+1))))else(none))else(none))else(none))else(some a0)
def impl_sign.f (k:Nat) (a0:Int):Option (Int):=(impl_factors.f k a0).bind fun b0=>(impl_sign.l0 k 1 b0 (b0.length:Int) 0)
theorem impl_sign.mono_l:∀k,(∀a0 b0 c0 d0,LeO (impl_sign.l0 k a0 b0 c0 d0) (impl_sign.l0 (k+1) a0 b0 c0 d0))
 |0=>fun _ _ _ _ r h=>by simp[impl_sign.l0]at h
 |k+1=>by
  have ih0:=impl_sign.mono_l k
  ·intro a0 b0 c0 d0;unfold impl_sign.l0;have m0:= @impl_factors.mono;exact mz
theorem impl_sign.mono:∀a0 k,LeO (impl_sign.f k a0) (impl_sign.f (k+1) a0):=by
 intro a0 k;have ih0:=impl_sign.mono_l k;unfold impl_sign.f;have m0:= @impl_factors.mono;exact mz
theorem impl_sign.calls (k:Nat) (a0:Int) (r:Int) (w:World) (h:impl_sign.f k a0=some r):
  Calls Tryz.prog 137 #[.int .i64 a0] w fun e w'=>e= .returned (.int .i64 r)∧Below w.heap.size w w':=by
 have HB:=qa (Below.refl w.heap.size w);have H:=h;unfold impl_sign.f at H;clear h;replace H:=qb H;obtain⟨b0,c0,H⟩:=H;have H':=qa H;clear H
 go_enter Tryz.func137,Tryz.ntmps137
 go_wp2_with(first|(refine ge_ 7 Tryz.func138 (impl_factors.calls k a0 b0 _ c0.out) fun d0 e0 g0 hb=>?_;have j0:=qa (Kd.S_lower g0 (below_size (bl)));replace HB:=bs hb;obtain⟨n0,p0,rfl⟩:=Kd.S_slice j0.out))
 go_loopg [3,9] k (fun kq q0 r0 w'=>∃(s0:Int) (t0:Int),q0= .int .i64 s0∧r0= .int .i64 t0∧Aside0 (impl_sign.l0 kq s0 b0 (b0.length:Int) t0=some r)∧Aside0 (kq≤k)∧Aside0 (Kd.S (Kd.slice 3 (Kd.int .i64)) 22 w' w.heap.size (fun _=>True) (.slice n0 b0.length p0) b0)∧Aside0 (Below w.heap.size w w'))
 case atStart=>exact⟨(1),(0),(sd),(sd),H',⟨Nat.le_refl _⟩,⟨kS j0⟩,⟨bl⟩⟩
 case round=>
  clear H';obtain⟨s0,t0,rfl,rfl,HA,HK1,v0,HB⟩:=hrel;obtain⟨k1,rfl,H⟩:=kz gk HA;clear HA;simp only[impl_sign.l0]at H;replace H:=qe H;obtain⟨w0,H⟩|⟨w0,H⟩:=H
  ·replace H:=qd H;obtain⟨x0,H⟩:=H;replace H:=qd H;obtain⟨y0,H⟩:=H;replace H:=qL 1 H;obtain⟨A0,B0,H⟩:=H;replace H:=qg H;obtain⟨C0,H⟩|⟨C0,H⟩:=H
   ·obtain rfl:=sj H;obtain⟨D0,E0,G0,⟨⟩,J0,HL188_0,K0,L0,M0,N0⟩:=sg_L1 v0.out t0;have P0:0≤(1:Int):=ko_;have Q0:1<((rd_L1 b0 t0).length :Int):=qo;obtain⟨R0,U0,V0⟩:=Kd.at_int z36_ 1 P0 Q0;cases U0;(try simp only[show(1:Int).toNat =1 from rfl,Nat.reduceMul,Nat.reduceEqDiff,Go.Addr.add,↓reduceIte]at V0);have qi189:(1<(rd_L1 b0 t0).length)=True:=eq_true ko_;(try rw[show((1:Int)).toNat =1 from rfl]at V0);replace P0:=eq_true P0;replace Q0:=eq_true Q0;go_wp2;go_ret;exact⟨z1_,bl⟩
   ·have H':=qa H;clear H;obtain⟨D0,E0,G0,⟨⟩,J0,HL188_0,K0,L0,M0,N0⟩:=sg_L1 v0.out t0;have P0:0≤(1:Int):=ko_;have Q0:1<((rd_L1 b0 t0).length :Int):=qo;obtain⟨R0,U0,V0⟩:=Kd.at_int z36_ 1 P0 Q0;cases U0;(try simp only[show(1:Int).toNat =1 from rfl,Nat.reduceMul,Nat.reduceEqDiff,Go.Addr.add,↓reduceIte]at V0);have qi189:(1<(rd_L1 b0 t0).length)=True:=eq_true ko_;(try rw[show((1:Int)).toNat =1 from rfl]at V0);replace P0:=eq_true P0;replace Q0:=eq_true Q0;go_wp2
    go_roundg k1
    case measure=>have:=HK1.out;omega
    case rel=>exact⟨(wrap64 (-s0)),(wrap64 (t0+1)),(sd),(sd),H',⟨by have:=HK1.out;omega⟩,⟨kS v0⟩,⟨bl⟩⟩
  ·obtain rfl:=sj H;go_wp2;go_ret;exact⟨z1_,bl⟩
end Go.Proofs.YtdmlkjjlgkdnlaaGreatDoor.PFnReadJournal
