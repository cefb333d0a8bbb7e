import Derived.Test.YtdmlkjjlgkdnlaaGreatDoorPFnDeskLinex25
namespace Go.Proofs.YtdmlkjjlgkdnlaaGreatDoor.PFnDeskLine
open Go.RowKit Go.Proofs.YtdmlkjjlgkdnlaaGreatDoorW.PrintWords Go.Proofs.YtdmlkjjlgkdnlaaGreatDoorW.PrintLast Go.Proofs.YtdmlkjjlgkdnlaaGreatDoorW.PrintMore
attribute [local go_sem] max2_int min2_int max_two min_two max_three min_three max_four min_four
set_option linter.unusedVariables false
set_option linter.unusedSimpArgs false
set_option maxHeartbeats 8000000
set_option maxRecDepth 100000
-- GLOBAL
-- IMPORT Derived.Test.YtdmlkjjlgkdnlaaGreatDoorShelf
def strings_Cut.f (a0 b0:ByteArray):Option (ByteArray×ByteArray×Bool):=if a0.size<4294967281 then some (⟨(Lib.cut a0.data.toList b0.data.toList).1.toArray⟩,⟨(Lib.cut a0.data.toList b0.data.toList).2.1.toArray⟩,(Lib.cut a0.data.toList b0.data.toList).2.2)else none
theorem strings_Cut.calls (a0:ByteArray) (b0:ByteArray) (c0:ByteArray) (d0:ByteArray) (e0:Bool) (w:World) (h:strings_Cut.f a0 b0=some (c0,d0,e0)) (hG_:GL w):
  Calls Tryz.prog 75 #[.string a0,.string b0] w fun e w'=>e= .returned (.tuple #[.string c0,.string d0,.bool e0])∧Below w.heap.size w w':=by
 unfold strings_Cut.f at h
 by_cases h0:a0.size<4294967281
 ·rw[if_pos h0]at h;have h:=Option.some.inj h;obtain⟨m,hm⟩:=hG_.maxlen;refine(Tryz.strings_Cut a0 b0 m w h0 hm).mono ?_;rintro e w' ⟨rfl,n,rfl⟩;have g0:=congrArg (·.1) h;have j0:=congrArg (·.2.1) h;have l0:=congrArg (·.2.2) h;simp only at g0 j0 l0;rw[g0,j0,l0];exact⟨rfl,pw_below_drewN (Below.refl _ _) n⟩
 ·rw[if_neg h0]at h;cases h

-- IMPORT Derived.Test.YtdmlkjjlgkdnlaaGreatDoorShelf
def strings_Join.f (a0:List ByteArray) (b0:ByteArray):Option ByteArray:=if a0.length≤140737488355328∧(Lib.join (a0.map (·.data.toList)) b0.data.toList).length ≤140737488355328 then some ⟨(Lib.join (a0.map (·.data.toList)) b0.data.toList).toArray⟩else none
theorem strings_Join.calls (a0:Option Addr) (b0:Nat) (c0:List ByteArray) (d0:ByteArray) (r:ByteArray) (w:World) (e0:Kd.C Kd.string w a0 c0.length c0) (g0:c0.length≤b0) (h:strings_Join.f c0 d0=some r):
  Calls Tryz.prog 142 #[.slice a0 c0.length b0,.string d0] w fun e w'=>e= .returned (.string r)∧Below w.heap.size w w':=by
 unfold strings_Join.f at h
 by_cases h0:c0.length≤140737488355328∧(Lib.join (c0.map (·.data.toList)) d0.data.toList).length ≤140737488355328
 ·rw[if_pos h0]at h;obtain rfl:=Option.some.inj h
  cases c0 with
  |nil=>exact(Tryz.strings_Join_none a0 b0 d0 w).mono fun e w' ⟨he,hw⟩=>⟨he,hw▸Below.refl _ _⟩
  |cons x l=>
   obtain⟨_,_,hc⟩:=e0;obtain⟨⟨bk,o,s⟩,rfl,hcell⟩:=hc (by simp)
   have h1:w.cell? ⟨bk,o,s⟩=some (.string x):=by
    obtain⟨c,hs,hk,hi⟩:=hcell 0 x rfl;have hk:c=[.string x]:=hk;subst hk;have h2:=hi 0 _ rfl;simp only[Nat.zero_mul,Nat.add_zero]at h2;exact h2
   have hsn:s=none:=by
    cases s with
    |none=>rfl
    |some q=>
     unfold World.cell? at h1
     split at h1 <;> simp at h1
   subst hsn
   have hx:∀(j:Nat) p,(x::l)[j]? =some p→w.cell? ⟨bk,o+j,none⟩=some (.string p):=fun j p hj=>by
    obtain⟨c,hs,hk,hi⟩:=hcell j p hj;have hk:c=[.string p]:=hk;subst hk;have h2:=hi 0 _ rfl;rw[add_at,show j*Kd.string.sz+0=j from Nat.mul_one j]at h2;exact h2
   exact Tryz.strings_Join bk o b0 (x::l) d0 w hx (World.block_lt_of_cell? w _ h1) h0.1 g0 h0.2
 ·rw[if_neg h0]at h;cases h

def impl_rowText.l0:Nat→List ByteArray→List Int→Int→Int→Option (ByteArray)
 |0,_,_,_,_=>none
 |k+1,a0,b0,c0,d0=>if d0<c0 then(if 0≤d0 then(if d0<(b0.length:Int)then((strconv_Itoa.f (rd b0 d0)).bind fun e0=>(if a0.length<8796093022208 then(impl_rowText.l0 k (a0++[e0]) b0 c0 (wrap64 (d0+1)))else(none)))else(none))else(none))else((strings_Join.f a0 (⟨#[44]⟩:ByteArray)).bind fun g0=>(some g0))
def impl_rowText.f (k:Nat) (a0:List Int):Option (ByteArray):=impl_rowText.l0 k (([]:List ByteArray)) a0 (a0.length:Int) 0
theorem impl_rowText.calls (k:Nat) (a0:Option Addr) (b0:Nat) (c0:List Int) (r:ByteArray) (w:World) (d0:Kd.C (Kd.int .i64) w a0 c0.length c0) (e0:c0.length≤b0) (h:impl_rowText.f k c0=some r) (hG_:GL w):
  Calls Tryz.prog 102 #[.slice a0 c0.length b0] w fun e w'=>e= .returned (.string r)∧Below w.heap.size w w':=by
 have g0:=qa d0;have j0:=qa e0;clear d0 e0;have HB:=qa (Below.refl w.heap.size w);have H:=h;unfold impl_rowText.f at H;clear h;obtain⟨n0,hy_⟩:∃y_:List ByteArray,y_=(([]:List ByteArray)):=⟨_,rfl⟩;replace H:(impl_rowText.l0 k n0 c0 (c0.length:Int) 0)=some r:=yh;have p0:=qa hy_;clear hy_;have H':=qa H;clear H
 go_enter Tryz.func102,Tryz.ntmps102
 go_wp2_with(first|(refine rls 9 6 p0.out fun q0 r0 s0 hb=>?_;have t0:=qa (Kd.R_lower s0 (below_size (bl)));replace HB:=bs hb;clear hb s0))
 go_loopg [3,9] k (fun kq v0 w0 w'=>∃(x0:List ByteArray) (y0:Int),w0= .int .i64 y0∧Aside0 (impl_rowText.l0 kq x0 c0 (c0.length:Int) y0=some r)∧Aside0 (kq≤k)∧Aside0 (Kd.R Kd.string 9 w' w.heap.size (fun _=>True) v0 x0)∧Aside0 (Below w.heap.size w w'))
 case atStart=>exact⟨(n0),(0),(sd),H',⟨Nat.le_refl _⟩,⟨kR t0⟩,⟨bl⟩⟩
 case round=>
  clear H';obtain⟨x0,y0,rfl,HA,HK1,A0,HB⟩:=hrel;obtain⟨k1,rfl,H⟩:=kz gk HA;clear HA;simp only[impl_rowText.l0]at H;replace H:=qe H;obtain⟨B0,H⟩|⟨B0,H⟩:=H
  ·replace H:=qd H;obtain⟨C0,H⟩:=H;replace H:=qd H;obtain⟨D0,H⟩:=H;replace H:=qb H;obtain⟨E0,G0,H⟩:=H;replace H:=qn H;obtain⟨J0,H⟩:=H;have K0:=qa J0;clear J0;obtain⟨L0,hy_⟩:∃y_:List ByteArray,y_=(x0++[E0]):=⟨_,rfl⟩;replace H:(impl_rowText.l0 k1 L0 c0 (c0.length:Int) (wrap64 (y0+1)))=some r:=yh;have M0:=qa hy_;clear hy_;have H':=qa H;clear H;obtain⟨N0,⟨⟩,P0,Q0,R0⟩:=ai g0.out y0;(try replace P0:=(HB.out.cell (World.block_lt_of_cell? w _ P0)).trans P0)
   go_wp2_with(first|(refine gb 15 Tryz.func77 (strconv_Itoa.calls (rd c0 y0) E0 _ G0.out (GL_below hG_ (bl))) fun U0 hb=>?_;replace A0:=qa (Kd.R_below (kR A0) hb);replace HB:=bs hb)|((with_reducible refine gate_builtin (b:= .append) (xs:=#[.tmp 13,.tmp 16]) rfl ?_);at_builtin;refine Kd.R_append Kd.string (w0:=w) w.heap.size rfl (.tmp 13) (.tmp 16) 35 9 (.string ⟨#[]⟩) 16 rfl Tryz.underlying35 info9 rfl kd_ ko_ u3 x0 E0 [.string E0] (fun _=>True) (fun _=>False) rfl rfl ?aP (fun _ hk=>hk.elim) ?aF ?aO ?aB ?aS ?aL ?_;(case aP=>exact rfl);(case aB=>exact(bl));(case aF=>exact(fun _ _=>trivial));(case aO=>exact(kR A0));(case aS=>exact(below_size (bl)));(case aL=>have:=K0.out;omega);intro V0 W0 ho hb hg hat;rw[←M0.out]at ho;replace HB:=qa (hb);have X0:=qa (ho);clear A0;clear ho hb hg hat))
   go_roundg k1
   case measure=>have:=HK1.out;omega
   case rel=>exact⟨(L0),(wrap64 (y0+1)),(sd),H',⟨by have:=HK1.out;omega⟩,⟨kR X0⟩,⟨bl⟩⟩
  ·replace H:=qb H;obtain⟨Y0,a1,H⟩:=H;obtain rfl:=sj H;obtain⟨b1,c1,rfl⟩:=Kd.R_slice A0.out
   go_wp2_with(first|(refine gb 20 Tryz.func142 (strings_Join.calls _ _ x0 (⟨#[44]⟩:ByteArray) Y0 _ (cx (Kd.R_reads' A0.out).2.2) ((Kd.R_reads' A0.out).2.1) a1.out) fun d1 hb=>?_;replace A0:=qa (Kd.R_below (kR A0) hb);replace HB:=bs hb))
   go_ret;exact⟨er,bl⟩

def impl_yes.f (a0:Bool):Option (ByteArray):=if a0=true then(some (⟨#[121,101,115]⟩:ByteArray))else(some (⟨#[110,111]⟩:ByteArray))
theorem impl_yes.calls (a0:Bool) (r:ByteArray) (w:World) (h:impl_yes.f a0=some r):
  Calls Tryz.prog 103 #[.bool a0] w fun e w'=>e= .returned (.string r)∧Drawn0 w w':=by
 have H:=h;unfold impl_yes.f at H;clear h;replace H:=qc H;obtain⟨rfl,H⟩|⟨rfl,H⟩:=H
 ·obtain rfl:=sj H
  go_enter Tryz.func103,Tryz.ntmps103
  go_wp2;go_ret;exact⟨sd,dr⟩
 ·obtain rfl:=sj H
  go_enter Tryz.func103,Tryz.ntmps103
  go_wp2;go_ret;exact⟨sd,dr⟩

mutual
def impl_productsOk.l0:Nat→List Int→Bool→Int→Option (Bool)
 |0,_,_,_=>none
 |k+1,a0,b0,c0=>if c0≤24 then(impl_productsOk.l1 k a0 b0 c0 1)else(if 0<(a0.length:Int)then(some ((rd a0 0)==1))else(none))
def impl_productsOk.l1:Nat→List Int→Bool→Int→Int→Option (Bool)
 |0,_,_,_,_=>none
 |k+1,a0,b0,c0,d0=>if(wrap64 (c0*d0))≤24 then(if b0=true then(if 0≤(wrap64 ((wrap64 (c0*d0))-1))then(if(wrap64 ((wrap64 (c0*d0))-1))<(a0.length:Int)then(if 0≤(wrap64 (c0-1))then(if(wrap64 (c0-1))<(a0.length:Int)then(if 0≤(wrap64 (d0-1))then(if(wrap64 (d0-1))<(a0.length:Int)then(if(rd a0 (wrap64 ((wrap64 (c0*d0))-1)))=(wrap64 ((rd a0 (wrap64 (c0-1)))*(rd a0 (wrap64 (d0-1)))))then(impl_productsOk.l1 k a0 b0 c0 (wrap64 (d0+1)))else(some false))else(none))else(none))else(none))else(none))else(none))else(none))else((impl_gcd.f k c0 d0).bind fun e0=>(if e0=1 then(if 0≤(wrap64 ((wrap64 (c0*d0))-1))then(if(wrap64 ((wrap64 (c0*d0))-1))<(a0.length:Int)then(if 0≤(wrap64 (c0-1))then(if(wrap64 (c0-1))<(a0.length:Int)then(if 0≤(wrap64 (d0-1))then(if(wrap64 (d0-1))<(a0.length:Int)then(if(rd a0 (wrap64 ((wrap64 (c0*d0))-1)))=(wrap64 ((rd a0 (wrap64 (c0-1)))*(rd a0 (wrap64 (d0-1)))))then(impl_productsOk.l1 k a0 b0 c0 (wrap64 (d0+1)))else(some false))else(none))else(none))else(none))else(none))else(none))else(none))else(impl_productsOk.l1 k a0 b0 c0 (wrap64 (d0+1))))))else(impl_productsOk.l0 k a0 b0 (wrap64 (c0+1)))
end

def impl_productsOk.f (k:Nat) (a0:List Int) (b0:Bool):Option (Bool):=impl_productsOk.l0 k a0 b0 1
theorem impl_productsOk.calls (k:Nat) (a0:Option Addr) (b0:Nat) (c0:List Int) (d0:Bool) (r:Bool) (w:World) (e0:Kd.C (Kd.int .i64) w a0 c0.length c0) (g0:c0.length≤b0) (h:impl_productsOk.f k c0 d0=some r):
  Calls Tryz.prog 143 #[.slice a0 c0.length b0,.bool d0] w fun e w'=>e= .returned (.bool r)∧Drawn0 w w':=by
 have j0:=qa e0;have n0:=qa g0;clear e0 g0;have H:=h;unfold impl_productsOk.f at H;clear h;have H':=qa H;clear H
 go_enter Tryz.func143,Tryz.ntmps143
 go_wp2
 repeat(go_quiet(fail);try go_wp2)
 go_loopg [5] k (fun kq p0 w'=>∃(q0:Int),p0= .int .i64 q0∧Aside0 (impl_productsOk.l0 kq c0 d0 q0=some r)∧Aside0 (kq≤k)∧Drawn0 w w')
 case atStart=>exact⟨(1),(sd),H',⟨Nat.le_refl _⟩,dr⟩
 case round=>
  clear H';obtain⟨q0,rfl,HA,HK1,⟨m1,rfl⟩⟩:=hrel;obtain⟨k1,rfl,H⟩:=kz gk HA;clear HA;simp only[impl_productsOk.l0]at H;replace H:=qe H;obtain⟨r0,H⟩|⟨r0,H⟩:=H
  ·have H':=qa H;clear H;go_wp2
   repeat(go_quiet(fail);try go_wp2)
   go_loopg [6] k1 (fun kq s0 w'=>∃(t0:Int),s0= .int .i64 t0∧Aside0 (impl_productsOk.l1 kq c0 d0 q0 t0=some r)∧Aside0 (kq≤k1)∧Drawn0 w w')
   case atStart=>exact⟨(1),(sd),H',⟨Nat.le_refl _⟩,dr⟩
   case round=>
    clear H';obtain⟨t0,rfl,HA,HK2,⟨m2,rfl⟩⟩:=hrel;obtain⟨k2,rfl,H⟩:=kz gk HA;clear HA;simp only[impl_productsOk.l1]at H;replace H:=qe H;obtain⟨v0,H⟩|⟨v0,H⟩:=H
    ·replace H:=qc H;obtain⟨rfl,H⟩|⟨rfl,H⟩:=H
     ·obtain⟨w0,x0⟩:∃j_:Int,(wrap64 ((wrap64 (q0*t0))-1))=j_:=⟨_,rfl⟩;(first|rw[x0]at H|(try simp only[x0]at H));have y0:(IntKind.i64.wrap ((wrap64 (q0*t0))-1))=w0:=(i64_w _).trans x0;have A0:(IntKind.i64.wrap ((IntKind.i64.wrap (q0*t0))-1))=w0:=(congrArg (fun z_=>IntKind.i64.wrap (z_-1)) (i64_w _)).trans y0;replace H:=qd H;obtain⟨B0,H⟩:=H;replace H:=qd H;obtain⟨C0,H⟩:=H;obtain⟨D0,E0⟩:∃j_:Int,(wrap64 (q0-1))=j_:=⟨_,rfl⟩;(first|rw[E0]at H|(try simp only[E0]at H));have G0:(IntKind.i64.wrap (q0-1))=D0:=(i64_w _).trans E0;replace H:=qd H;obtain⟨J0,H⟩:=H;replace H:=qd H;obtain⟨K0,H⟩:=H;obtain⟨L0,M0⟩:∃j_:Int,(wrap64 (t0-1))=j_:=⟨_,rfl⟩;(first|rw[M0]at H|(try simp only[M0]at H));have N0:(IntKind.i64.wrap (t0-1))=L0:=(i64_w _).trans M0;replace H:=qd H;obtain⟨P0,H⟩:=H;replace H:=qd H;obtain⟨Q0,H⟩:=H;replace H:=qq H;obtain⟨R0,U0,H⟩|⟨V0,R0,U0,H⟩:=H
      ·(try(have c15b0v:=R0;have c15b1v:=U0;simp only[←i64_w]at c15b0v c15b1v));have H':=qa H;clear H;obtain⟨W0,⟨⟩,X0,Y0,a1⟩:=ai j0.out (w0);obtain⟨b1,c1,d1⟩:=aj j0.out (D0);obtain⟨e1,g1,j1⟩:=aj j0.out (L0);go_wp2
       repeat(go_quiet(fail);try go_wp2)
       go_roundg k2
       case measure=>have:=HK1.out;have:=HK2.out;omega
       case rel=>exact⟨(wrap64 (t0+1)),(sd),H',⟨by have:=HK1.out;have:=HK2.out;omega⟩,dr⟩
      ·(try(have c15b0v:=R0;have c15b1v:=U0;simp only[←i64_w]at c15b0v c15b1v));obtain rfl:=sj H;obtain⟨W0,⟨⟩,X0,Y0,a1⟩:=ai j0.out (w0);obtain⟨b1,c1,d1⟩:=aj j0.out (D0);obtain⟨e1,g1,j1⟩:=aj j0.out (L0);go_wp2
       repeat(go_quiet(fail);try go_wp2)
       go_ret;exact⟨by first|rfl|(simp;done)|(simp only[←x0,←E0,←M0] <;> (first|rfl|simp))|(simp[*];done),dr⟩
     ·replace H:=qb H;obtain⟨n1,p1,H⟩:=H;replace H:=qq H;obtain⟨q1,r1,H⟩|⟨s1,q1,r1,H⟩:=H
      ·(try(have c17b0v:=q1;have c17b1v:=r1;simp only[←i64_w]at c17b0v c17b1v));obtain⟨t1,v1⟩:∃j_:Int,(wrap64 ((wrap64 (q0*t0))-1))=j_:=⟨_,rfl⟩;(first|rw[v1]at H|(try simp only[v1]at H));(try rw[v1]at p1);have w1:(IntKind.i64.wrap ((wrap64 (q0*t0))-1))=t1:=(i64_w _).trans v1;have x1:(IntKind.i64.wrap ((IntKind.i64.wrap (q0*t0))-1))=t1:=(congrArg (fun z_=>IntKind.i64.wrap (z_-1)) (i64_w _)).trans w1;replace H:=qd H;obtain⟨y1,H⟩:=H;replace H:=qd H;obtain⟨A1,H⟩:=H;obtain⟨B1,C1⟩:∃j_:Int,(wrap64 (q0-1))=j_:=⟨_,rfl⟩;(first|rw[C1]at H|(try simp only[C1]at H));(try rw[C1]at p1);have D1:(IntKind.i64.wrap (q0-1))=B1:=(i64_w _).trans C1;replace H:=qd H;obtain⟨E1,H⟩:=H;replace H:=qd H;obtain⟨G1,H⟩:=H;obtain⟨J1,K1⟩:∃j_:Int,(wrap64 (t0-1))=j_:=⟨_,rfl⟩;(first|rw[K1]at H|(try simp only[K1]at H));(try rw[K1]at p1);have L1:(IntKind.i64.wrap (t0-1))=J1:=(i64_w _).trans K1;replace H:=qd H;obtain⟨M1,H⟩:=H;replace H:=qd H;obtain⟨N1,H⟩:=H;replace H:=qq H;obtain⟨P1,Q1,H⟩|⟨R1,P1,Q1,H⟩:=H
       ·(try(have c27b0v:=P1;have c27b1v:=Q1;simp only[←i64_w]at c27b0v c27b1v));have H':=qa H;clear H
        go_wp2_with(first|(go_at_call 163;(with_reducible refine gm (impl_gcd.calls k2 q0 t0 n1 _ p1.out) fun nd=>?_);(try exact dn);obtain⟨U1,⟨⟩,V1,W1,X1⟩:=ai j0.out (t1);obtain⟨Y1,a2,b2⟩:=aj j0.out (B1);obtain⟨c2,d2,e2⟩:=aj j0.out (J1)))
        repeat(go_quiet(first|(go_at_call 163;(with_reducible refine gm (impl_gcd.calls k2 q0 t0 n1 _ p1.out) fun nd=>?_);(try exact dn);obtain⟨U1,⟨⟩,V1,W1,X1⟩:=ai j0.out (t1);obtain⟨Y1,a2,b2⟩:=aj j0.out (B1);obtain⟨c2,d2,e2⟩:=aj j0.out (J1)));try go_wp2_with(first|(go_at_call 163;(with_reducible refine gm (impl_gcd.calls k2 q0 t0 n1 _ p1.out) fun nd=>?_);(try exact dn);obtain⟨U1,⟨⟩,V1,W1,X1⟩:=ai j0.out (t1);obtain⟨Y1,a2,b2⟩:=aj j0.out (B1);obtain⟨c2,d2,e2⟩:=aj j0.out (J1))))
        go_roundg k2
        case measure=>have:=HK1.out;have:=HK2.out;omega
        case rel=>exact⟨(wrap64 (t0+1)),(sd),H',⟨by have:=HK1.out;have:=HK2.out;omega⟩,dr⟩
       ·(try(have c27b0v:=P1;have c27b1v:=Q1;simp only[←i64_w]at c27b0v c27b1v));obtain rfl:=sj H
        go_wp2_with(first|(go_at_call 163;(with_reducible refine gm (impl_gcd.calls k2 q0 t0 n1 _ p1.out) fun nd=>?_);(try exact dn);obtain⟨U1,⟨⟩,V1,W1,X1⟩:=ai j0.out (t1);obtain⟨Y1,a2,b2⟩:=aj j0.out (B1);obtain⟨c2,d2,e2⟩:=aj j0.out (J1)))
        repeat(go_quiet(first|(go_at_call 163;(with_reducible refine gm (impl_gcd.calls k2 q0 t0 n1 _ p1.out) fun nd=>?_);(try exact dn);obtain⟨U1,⟨⟩,V1,W1,X1⟩:=ai j0.out (t1);obtain⟨Y1,a2,b2⟩:=aj j0.out (B1);obtain⟨c2,d2,e2⟩:=aj j0.out (J1)));try go_wp2_with(first|(go_at_call 163;(with_reducible refine gm (impl_gcd.calls k2 q0 t0 n1 _ p1.out) fun nd=>?_);(try exact dn);obtain⟨U1,⟨⟩,V1,W1,X1⟩:=ai j0.out (t1);obtain⟨Y1,a2,b2⟩:=aj j0.out (B1);obtain⟨c2,d2,e2⟩:=aj j0.out (J1))))
        go_ret;exact⟨by first|rfl|(simp;done)|(simp only[←v1,←C1,←K1] <;> (first|rfl|simp))|(simp[*];done),dr⟩
      ·(try(have c17b0v:=q1;have c17b1v:=r1;simp only[←i64_w]at c17b0v c17b1v));have H':=qa H;clear H
       go_wp2_with(first|(go_at_call 163;(with_reducible refine gm (impl_gcd.calls k2 q0 t0 n1 _ p1.out) fun nd=>?_);(try exact dn)))
       repeat(go_quiet(first|(go_at_call 163;(with_reducible refine gm (impl_gcd.calls k2 q0 t0 n1 _ p1.out) fun nd=>?_);(try exact dn)));try go_wp2_with(first|(go_at_call 163;(with_reducible refine gm (impl_gcd.calls k2 q0 t0 n1 _ p1.out) fun nd=>?_);(try exact dn))))
       go_roundg k2
       case measure=>have:=HK1.out;have:=HK2.out;omega
       case rel=>exact⟨(wrap64 (t0+1)),(sd),H',⟨by have:=HK1.out;have:=HK2.out;omega⟩,dr⟩
    ·have H':=qa H;clear H;go_wp2
     repeat(go_quiet(fail);try go_wp2)
     go_roundg k2
     case measure=>have:=HK1.out;have:=HK2.out;omega
     case rel=>exact⟨(wrap64 (q0+1)),(sd),H',⟨by have:=HK1.out;have:=HK2.out;omega⟩,dr⟩
  ·by_cases g2:0<(c0.length:Int)
   ·rw[if_pos g2]at H;have j2:decide (0<(c0.length:Int))=true:=decide_eq_true g2;have l2:decide (0<c0.length)=true:=decide_eq_true ko_;clear g2;obtain rfl:=sj H;obtain⟨n2,⟨⟩,p2,qi691,q2,r2⟩:=ain 0 j0.out 0;(try rw[Addr.add_zero']at p2);go_wp2
    repeat(go_quiet(fail);try go_wp2)
    go_ret;exact⟨sd,dr⟩
   ·rw[if_neg g2]at H;exact absurd H (by simp)

def impl_MultiplicativeOk.f (k:Nat) (a0:List Int):Option (Bool):=(impl_RowOk.f k a0).bind fun b0=>(if b0=true then((impl_productsOk.f k a0 false).bind fun c0=>(some c0))else(some false))
theorem impl_MultiplicativeOk.calls (k:Nat) (a0:Option Addr) (b0:Nat) (c0:List Int) (r:Bool) (w:World) (d0:Kd.C (Kd.int .i64) w a0 c0.length c0) (e0:c0.length≤b0) (h:impl_MultiplicativeOk.f k c0=some r):
  Calls Tryz.prog 104 #[.slice a0 c0.length b0] w fun e w'=>e= .returned (.bool r)∧Drawn0 w w':=by
 have g0:=qa d0;have j0:=qa e0;clear d0 e0;have H:=h;unfold impl_MultiplicativeOk.f at H;clear h;replace H:=qb H;obtain⟨l0,n0,H⟩:=H;replace H:=qc H;obtain⟨rfl,H⟩|⟨rfl,H⟩:=H
 ·replace H:=qb H;obtain⟨p0,q0,H⟩:=H;obtain rfl:=sj H
  go_enter Tryz.func104,Tryz.ntmps104
  go_wp2_with(first|(refine gd 4 Tryz.func78 (impl_RowOk.calls k _ _ c0 true _ (cx g0.out) j0.out n0.out) fun nd=>?_)|(go_at_call 143;(with_reducible refine(impl_productsOk.calls k _ _ c0 false p0 _ ?r0 ?s0 q0.out).mono ?_);(case r0=>exact cx g0.out);(case s0=>exact j0.out);rintro e w' ⟨rfl,⟨nd,rfl⟩⟩))
  go_ret;exact⟨sd,dr⟩
 ·obtain rfl:=sj H
  go_enter Tryz.func104,Tryz.ntmps104
  go_wp2_with(first|(refine gd 4 Tryz.func78 (impl_RowOk.calls k _ _ c0 false _ (cx g0.out) j0.out n0.out) fun nd=>?_))
  go_ret;exact⟨sd,dr⟩

def impl_FullyOk.f (k:Nat) (a0:List Int):Option (Bool):=(impl_RowOk.f k a0).bind fun b0=>(if b0=true then((impl_productsOk.f k a0 true).bind fun c0=>(some c0))else(some false))
theorem impl_FullyOk.calls (k:Nat) (a0:Option Addr) (b0:Nat) (c0:List Int) (r:Bool) (w:World) (d0:Kd.C (Kd.int .i64) w a0 c0.length c0) (e0:c0.length≤b0) (h:impl_FullyOk.f k c0=some r):
  Calls Tryz.prog 105 #[.slice a0 c0.length b0] w fun e w'=>e= .returned (.bool r)∧Drawn0 w w':=by
 have g0:=qa d0;have j0:=qa e0;clear d0 e0;have H:=h;unfold impl_FullyOk.f at H;clear h;replace H:=qb H;obtain⟨l0,n0,H⟩:=H;replace H:=qc H;obtain⟨rfl,H⟩|⟨rfl,H⟩:=H
 ·replace H:=qb H;obtain⟨p0,q0,H⟩:=H;obtain rfl:=sj H
  go_enter Tryz.func105,Tryz.ntmps105
  go_wp2_with(first|(refine gd 4 Tryz.func78 (impl_RowOk.calls k _ _ c0 true _ (cx g0.out) j0.out n0.out) fun nd=>?_)|(go_at_call 143;(with_reducible refine(impl_productsOk.calls k _ _ c0 true p0 _ ?r0 ?s0 q0.out).mono ?_);(case r0=>exact cx g0.out);(case s0=>exact j0.out);rintro e w' ⟨rfl,⟨nd,rfl⟩⟩))
  go_ret;exact⟨sd,dr⟩
 ·obtain rfl:=sj H
  go_enter Tryz.func105,Tryz.ntmps105
  go_wp2_with(first|(refine gd 4 Tryz.func78 (impl_RowOk.calls k _ _ c0 false _ (cx g0.out) j0.out n0.out) fun nd=>?_))
  go_ret;exact⟨sd,dr⟩

def slices_Contains_string_string.f (k:Nat) (a0:List ByteArray) (b0:ByteArray):Option (Bool):=(slices_Index_string_string.f k a0 b0).bind fun c0=>(some (decide (c0≥0)))
theorem slices_Contains_string_string.calls (k:Nat) (a0:Option Addr) (b0:Nat) (c0:List ByteArray) (d0:ByteArray) (r:Bool) (w:World) (e0:Kd.C Kd.string w a0 c0.length c0) (g0:c0.length≤b0) (h:slices_Contains_string_string.f k c0 d0=some r):
  Calls Tryz.prog 106 #[.slice a0 c0.length b0,.string d0] w fun e w'=>e= .returned (.bool r)∧Drawn0 w w':=by
 have j0:=qa e0;have l0:=qa g0;clear e0 g0;have H:=h;unfold slices_Contains_string_string.f at H;clear h;replace H:=qb H;obtain⟨n0,p0,H⟩:=H;obtain rfl:=sj H
 go_enter Tryz.func106,Tryz.ntmps106
 go_wp2_with(first|(refine gd 7 Tryz.func93 (slices_Index_string_string.calls k _ _ c0 d0 n0 _ (cx j0.out) l0.out p0.out) fun nd=>?_))
 go_ret;exact⟨sd,dr⟩

def impl_numberOk.f (a0:Int):Option (Bool):=if a0≥1 then(some (decide (a0≤10000)))else(some false)
theorem impl_numberOk.calls (a0:Int) (r:Bool) (w:World) (h:impl_numberOk.f a0=some r):
  Calls Tryz.prog 107 #[.int .i64 a0] w fun e w'=>e= .returned (.bool r)∧Drawn0 w w':=by
 have H:=h;unfold impl_numberOk.f at H;clear h;replace H:=qu H;obtain⟨b0,H⟩|⟨b0,H⟩:=H
 ·obtain rfl:=sj H
  go_enter Tryz.func107,Tryz.ntmps107
  go_wp2;go_ret;exact⟨sd,dr⟩
 ·obtain rfl:=sj H
  go_enter Tryz.func107,Tryz.ntmps107
  go_wp2;go_ret;exact⟨sd,dr⟩
def impl_FactorText.l0:Nat→List ByteArray→List (List Int)→Int→Int→Option (ByteArray)
 |0,_,_,_,_=>none
 |k+1,a0,b0,c0,d0=>if d0<c0 then(if 0≤d0 then(if d0<(b0.length:Int)then(if 0<((rd_L1 b0 d0).length :Int)then((strconv_Itoa.f (rd (rd_L1 b0 d0) 0)).bind fun e0=>(if 1<((rd_L1 b0 d0).length :Int)then(if(rd (rd_L1 b0 d0) 1)>1 then((strconv_Itoa.f (rd (rd_L1 b0 d0) 1)).bind fun g0=>(if 1+g0.size≤9223372036854775807 then(if e0.size+((⟨#[94]⟩:ByteArray)++g0).size ≤9223372036854775807 then(if a0.length<8796093022208 then(impl_FactorText.l0 k (a0++[e0++((⟨#[94]⟩:ByteArray)++g0)]) b0 c0 (wrap64 (d0+1)))else(none))else(none))else(none)))else(if a0.length<8796093022208 then(impl_FactorText.l0 k (a0++[e0]) b0 c0 (wrap64 (d0+1)))else(none)))else(none)))else(none))else(none))else(none))else((strings_Join.f a0 (⟨#[46]⟩:ByteArray)).bind fun j0=>(some j0))
def impl_FactorText.f (k:Nat) (a0:Int):Option (ByteArray):=(impl_numberOk.f a0).bind fun b0=>(if b0=true then(if a0=1 then(some (⟨#[49]⟩:ByteArray))else((impl_factors.f k a0).bind fun c0=>(impl_FactorText.l0 k (([]:List ByteArray)) c0 (c0.length:Int) 0)))else(some (⟨#[]⟩:ByteArray)))
theorem impl_FactorText.calls (k:Nat) (a0:Int) (r:ByteArray) (w:World) (h:impl_FactorText.f k a0=some r) (hG_:GL w):
  Calls Tryz.prog 108 #[.int .i64 a0] w fun e w'=>e= .returned (.string r)∧Below w.heap.size w w':=by
 have HB:=qa (Below.refl w.heap.size w);have H:=h;unfold impl_FactorText.f at H;clear h;replace H:=qb H;obtain⟨b0,c0,H⟩:=H;replace H:=qc H;obtain⟨rfl,H⟩|⟨rfl,H⟩:=H
 ·replace H:=qq H;obtain⟨d0,e0,H⟩|⟨g0,d0,e0,H⟩:=H
  ·obtain rfl:=sj H
   go_enter Tryz.func108,Tryz.ntmps108
   go_wp2_with(first|(refine gd 8 Tryz.func107 (impl_numberOk.calls a0 true _ c0.out) fun nd=>?_))
   go_ret;exact⟨er,bl⟩
  ·obtain⟨j0,n0⟩:∃y_:List ByteArray,y_=(([]:List ByteArray)):=⟨_,rfl⟩;(replace H:((impl_factors.f k a0).bind fun p0=>(impl_FactorText.l0 k j0 p0 (p0.length:Int) 0))=some r:=by first|(rw[n0];with_reducible exact H)|(have H2_:=(Option.bind_some _ _).symm.trans H;rw[n0];with_reducible exact H2_)|(have H2_:=(Option.bind_some _ _).symm.trans H;with_reducible exact H2_)|with_reducible exact H|(rw[n0];exact H)|exact H);have q0:=qa n0;clear n0;replace H:=qb H;obtain⟨p0,r0,H⟩:=H;have H':=qa H;clear H
   go_enter Tryz.func108,Tryz.ntmps108
   go_wp2_with(first|(refine gd 8 Tryz.func107 (impl_numberOk.calls a0 true _ c0.out) fun nd=>?_)|(refine rls 9 12 q0.out fun s0 t0 v0 hb=>?_;have w0:=qa (Kd.R_lower v0 (below_size (bl)));replace HB:=bs hb;clear hb v0)|(refine ge_ 14 Tryz.func138 (impl_factors.calls k a0 p0 _ r0.out) fun x0 y0 A0 hb=>?_;replace w0:=qa (Kd.R_below (kR w0) hb);have B0:=qa (Kd.S_lower A0 (below_size (bl)));replace HB:=bs hb;obtain⟨C0,D0,rfl⟩:=Kd.S_slice B0.out))
   go_loopg [3,16] k (fun kq E0 G0 w'=>∃(J0:List ByteArray) (K0:Int),G0= .int .i64 K0∧Aside0 (impl_FactorText.l0 kq J0 p0 (p0.length:Int) K0=some r)∧Aside0 (kq≤k)∧Aside0 (Kd.R Kd.string 9 w' w.heap.size (fun _=>True) E0 J0)∧Aside0 (Kd.S (Kd.slice 3 (Kd.int .i64)) 22 w' w.heap.size (fun _=>True) (.slice C0 p0.length D0) p0)∧Aside0 (Below w.heap.size w w'))
   case atStart=>exact⟨(j0),(0),(sd),H',⟨Nat.le_refl _⟩,⟨kR w0⟩,⟨kS B0⟩,⟨bl⟩⟩
   case round=>
    clear H';obtain⟨J0,K0,rfl,HA,HK1,L0,M0,HB⟩:=hrel;obtain⟨k1,rfl,H⟩:=kz gk HA;clear HA;simp only[impl_FactorText.l0]at H;replace H:=qe H;obtain⟨N0,H⟩|⟨N0,H⟩:=H
    ·replace H:=qd H;obtain⟨P0,H⟩:=H;replace H:=qd H;obtain⟨Q0,H⟩:=H;replace H:=qL 0 H;obtain⟨R0,U0,H⟩:=H;replace H:=qb H;obtain⟨V0,W0,H⟩:=H;replace H:=qL 1 H;obtain⟨X0,Y0,H⟩:=H;replace H:=qg H;obtain⟨a1,H⟩|⟨a1,H⟩:=H
     ·replace H:=qb H;obtain⟨b1,c1,H⟩:=H;replace H:=qN H;obtain⟨d1,e1,g1,j1,H⟩:=H;replace H:=qN H;obtain⟨l1,n1,p1,q1,H⟩:=H
      try(have c19bq:=q1;simp only[ByteArray.size_append,show(⟨#[94]⟩:ByteArray).size =1 from rfl]at c19bq)
      replace H:=qn H;obtain⟨r1,H⟩:=H;have s1:=qa r1;clear r1;obtain⟨t1,hy_⟩:∃y_:List ByteArray,y_=(J0++[V0++((⟨#[94]⟩:ByteArray)++b1)]):=⟨_,rfl⟩;replace H:(impl_FactorText.l0 k1 t1 p0 (p0.length:Int) (wrap64 (K0+1)))=some r:=yh;have v1:=qa hy_;clear hy_;have H':=qa H;clear H;obtain⟨w1,x1,y1,⟨⟩,A1,HL712_0,B1,C1,D1,E1⟩:=sg_L1 M0.out K0;obtain⟨G1,⟨⟩,J1,qi713,K1,L1⟩:=ain 0 z3_ 0;(try rw[Addr.add_zero']at J1)
      go_wp2_with(first|(refine gb 23 Tryz.func77 (strconv_Itoa.calls (rd (rd_L1 p0 K0) 0) V0 _ W0.out (GL_below hG_ (bl))) fun M1 hb=>?_;replace L0:=qa (Kd.R_below (kR L0) hb);replace M0:=qa (Kd.S_below (kS M0) hb);replace HL712_0:=qa (Kd.R_below z19_ hb);replace B1:=qa (Kd.C_below z3_ hb);replace HB:=bs hb;have N1:0≤(1:Int):=ko_;have P1:1<((rd_L1 p0 K0).length :Int):=qo;obtain⟨Q1,R1,U1⟩:=Kd.at_int z3_ 1 N1 P1;obtain rfl:G1=Q1:=(by injection R1);(try simp only[show(1:Int).toNat =1 from rfl,Nat.reduceMul,Nat.reduceEqDiff,Go.Addr.add,↓reduceIte]at U1);have qi715:(1<(rd_L1 p0 K0).length)=True:=eq_true ko_;(try rw[show((1:Int)).toNat =1 from rfl]at U1);replace N1:=eq_true N1;replace P1:=eq_true P1;have V1:0≤(1:Int):=ko_;have W1:1<((rd_L1 p0 K0).length :Int):=qo;obtain⟨X1,Y1,a2⟩:=Kd.at_int z3_ 1 V1 W1;obtain rfl:G1=X1:=(by injection Y1);(try simp only[show(1:Int).toNat =1 from rfl,Nat.reduceMul,Nat.reduceEqDiff,Go.Addr.add,↓reduceIte]at a2);have qi716:(1<(rd_L1 p0 K0).length)=True:=eq_true ko_;(try rw[show((1:Int)).toNat =1 from rfl]at a2);replace V1:=eq_true V1;replace W1:=eq_true W1)|(refine gb 32 Tryz.func77 (strconv_Itoa.calls (rd (rd_L1 p0 K0) 1) b1 _ c1.out (GL_below hG_ (bl))) fun b2 hb=>?_;replace L0:=qa (Kd.R_below (kR L0) hb);replace M0:=qa (Kd.S_below (kS M0) hb);replace HL712_0:=qa (Kd.R_below z19_ hb);replace B1:=qa (Kd.C_below z3_ hb);replace HB:=bs hb)|((with_reducible refine gate_builtin (b:= .append) (xs:=#[.tmp 35,.tmp 37]) rfl ?_);at_builtin;refine Kd.R_append Kd.string (w0:=w) w.heap.size rfl (.tmp 35) (.tmp 37) 35 9 (.string ⟨#[]⟩) 16 rfl Tryz.underlying35 info9 rfl kd_ ko_ u3 J0 (V0++((⟨#[94]⟩:ByteArray)++b1)) [.string (V0++((⟨#[94]⟩:ByteArray)++b1))] (fun _=>True) (fun _=>False) rfl rfl ?aP (fun _ hk=>hk.elim) ?aF ?aO ?aB ?aS ?aL ?_;(case aP=>exact rfl);(case aB=>exact(bl));(case aF=>exact(fun _ _=>trivial));(case aO=>exact(kR L0));(case aS=>exact(below_size (bl)));(case aL=>have:=s1.out;omega);intro c2 d2 ho hb hg hat;rw[←v1.out]at ho;replace M0:=qa (Kd.S_over' (kS M0) (Kd.R_typed (kR L0)) kd_ hg);replace HL712_0:=qa (Kd.R_over' z19_ (Kd.R_typed (kR L0)) kd_ hg);replace HB:=qa (hb);have e2:=qa (ho);clear L0;clear ho hb hg hat))
      go_roundg k1
      case measure=>have:=HK1.out;omega
      case rel=>exact⟨(t1),(wrap64 (K0+1)),(sd),H',⟨by have:=HK1.out;omega⟩,⟨kR e2⟩,⟨kS M0⟩,⟨bl⟩⟩
     ·replace H:=qn H;obtain⟨g2,H⟩:=H;have j2:=qa g2;clear g2;obtain⟨l2,hy_⟩:∃y_:List ByteArray,y_=(J0++[V0]):=⟨_,rfl⟩;replace H:(impl_FactorText.l0 k1 l2 p0 (p0.length:Int) (wrap64 (K0+1)))=some r:=yh;have n2:=qa hy_;clear hy_;have H':=qa H;clear H;obtain⟨w1,x1,y1,⟨⟩,A1,HL712_0,B1,C1,D1,E1⟩:=sg_L1 M0.out K0;obtain⟨G1,⟨⟩,J1,qi713,K1,L1⟩:=ain 0 z3_ 0;(try rw[Addr.add_zero']at J1)
      go_wp2_with(first|(refine gb 23 Tryz.func77 (strconv_Itoa.calls (rd (rd_L1 p0 K0) 0) V0 _ W0.out (GL_below hG_ (bl))) fun p2 hb=>?_;replace L0:=qa (Kd.R_below (kR L0) hb);replace M0:=qa (Kd.S_below (kS M0) hb);replace HL712_0:=qa (Kd.R_below z19_ hb);replace B1:=qa (Kd.C_below z3_ hb);replace HB:=bs hb;have N1:0≤(1:Int):=ko_;have P1:1<((rd_L1 p0 K0).length :Int):=qo;obtain⟨Q1,R1,U1⟩:=Kd.at_int z3_ 1 N1 P1;obtain rfl:G1=Q1:=(by injection R1);(try simp only[show(1:Int).toNat =1 from rfl,Nat.reduceMul,Nat.reduceEqDiff,Go.Addr.add,↓reduceIte]at U1);have qi715:(1<(rd_L1 p0 K0).length)=True:=eq_true ko_;(try rw[show((1:Int)).toNat =1 from rfl]at U1);replace N1:=eq_true N1;replace P1:=eq_true P1)|((with_reducible refine gate_builtin (b:= .append) (xs:=#[.tmp 35,.tmp 37]) rfl ?_);at_builtin;refine Kd.R_append Kd.string (w0:=w) w.heap.size rfl (.tmp 35) (.tmp 37) 35 9 (.string ⟨#[]⟩) 16 rfl Tryz.underlying35 info9 rfl kd_ ko_ u3 J0 V0 [.string V0] (fun _=>True) (fun _=>False) rfl rfl ?aP (fun _ hk=>hk.elim) ?aF ?aO ?aB ?aS ?aL ?_;(case aP=>exact rfl);(case aB=>exact(bl));(case aF=>exact(fun _ _=>trivial));(case aO=>exact(kR L0));(case aS=>exact(below_size (bl)));(case aL=>have:=j2.out;omega);intro q2 r2 ho hb hg hat;rw[←n2.out]at ho;replace M0:=qa (Kd.S_over' (kS M0) (Kd.R_typed (kR L0)) kd_ hg);replace HL712_0:=qa (Kd.R_over' z19_ (Kd.R_typed (kR L0)) kd_ hg);replace HB:=qa (hb);have s2:=qa (ho);clear L0;clear ho hb hg hat))
      go_roundg k1
      case measure=>have:=HK1.out;omega
      case rel=>exact⟨(l2),(wrap64 (K0+1)),(sd),H',⟨by have:=HK1.out;omega⟩,⟨kR s2⟩,⟨kS M0⟩,⟨bl⟩⟩
    ·replace H:=qb H;obtain⟨t2,v2,H⟩:=H;obtain rfl:=sj H;obtain⟨w2,x2,rfl⟩:=Kd.R_slice L0.out
     go_wp2_with(first|(refine gb 41 Tryz.func142 (strings_Join.calls _ _ J0 (⟨#[46]⟩:ByteArray) t2 _ (cx (Kd.R_reads' L0.out).2.2) ((Kd.R_reads' L0.out).2.1) v2.out) fun y2 hb=>?_;replace L0:=qa (Kd.R_below (kR L0) hb);replace M0:=qa (Kd.S_below (kS M0) hb);replace HB:=bs hb))
     go_ret;exact⟨er,bl⟩
 ·obtain rfl:=sj H
  go_enter Tryz.func108,Tryz.ntmps108
  go_wp2_with(first|(refine gd 8 Tryz.func107 (impl_numberOk.calls a0 false _ c0.out) fun nd=>?_))
  go_ret;exact⟨er,bl⟩

def slices_Index_int_int.l0:Nat→List Int→Int→Int→Int→Option (Int)
 |0,_,_,_,_=>none
 |k+1,a0,b0,c0,d0=>if d0<c0 then(if 0≤d0 then(if d0<(a0.length:Int)then(if b0=(rd a0 d0)then(some d0)else(slices_Index_int_int.l0 k a0 b0 c0 (wrap64 (d0+1))))else(none))else(none))else(some (-1))
def slices_Index_int_int.f (k:Nat) (a0:List Int) (b0:Int):Option (Int):=slices_Index_int_int.l0 k a0 b0 (a0.length:Int) 0
theorem slices_Index_int_int.calls (k:Nat) (a0:Option Addr) (b0:Nat) (c0:List Int) (d0:Int) (r:Int) (w:World) (e0:Kd.C (Kd.int .i64) w a0 c0.length c0) (g0:c0.length≤b0) (h:slices_Index_int_int.f k c0 d0=some r):
  Calls Tryz.prog 168 #[.slice a0 c0.length b0,.int .i64 d0] w fun e w'=>e= .returned (.int .i64 r)∧Drawn0 w w':=by
 have j0:=qa e0;have n0:=qa g0;clear e0 g0;have H:=h;unfold slices_Index_int_int.f at H;clear h;have H':=qa H;clear H
 go_enter Tryz.func168,Tryz.ntmps168
 go_wp2
 go_loopg [8] k (fun kq p0 w'=>∃(q0:Int),p0= .int .i64 q0∧Aside0 (slices_Index_int_int.l0 kq c0 d0 (c0.length:Int) q0=some r)∧Aside0 (kq≤k)∧Drawn0 w w')
 case atStart=>exact⟨(0),(sd),H',⟨Nat.le_refl _⟩,dr⟩
 case round=>
  clear H';obtain⟨q0,rfl,HA,HK1,⟨m1,rfl⟩⟩:=hrel;obtain⟨k1,rfl,H⟩:=kz gk HA;clear HA;simp only[slices_Index_int_int.l0]at H;replace H:=qe H;obtain⟨r0,H⟩|⟨r0,H⟩:=H
  ·replace H:=qd H;obtain⟨s0,H⟩:=H;replace H:=qd H;obtain⟨t0,H⟩:=H;replace H:=qq H;obtain⟨v0,w0,H⟩|⟨x0,v0,w0,H⟩:=H
   ·obtain rfl:=sj H;obtain⟨y0,⟨⟩,A0,B0,C0⟩:=ai j0.out q0;go_wp2;go_ret;exact⟨sd,dr⟩
   ·have H':=qa H;clear H;obtain⟨y0,⟨⟩,A0,B0,C0⟩:=ai j0.out q0;go_wp2
    go_roundg k1
    case measure=>have:=HK1.out;omega
    case rel=>exact⟨(wrap64 (q0+1)),(sd),H',⟨by have:=HK1.out;omega⟩,dr⟩
  ·obtain rfl:=sj H;go_wp2;go_ret;exact⟨sd,dr⟩

def slices_Contains_int_int.f (k:Nat) (a0:List Int) (b0:Int):Option (Bool):=(slices_Index_int_int.f k a0 b0).bind fun c0=>(some (decide (c0≥0)))
theorem slices_Contains_int_int.calls (k:Nat) (a0:Option Addr) (b0:Nat) (c0:List Int) (d0:Int) (r:Bool) (w:World) (e0:Kd.C (Kd.int .i64) w a0 c0.length c0) (g0:c0.length≤b0) (h:slices_Contains_int_int.f k c0 d0=some r):
  Calls Tryz.prog 145 #[.slice a0 c0.length b0,.int .i64 d0] w fun e w'=>e= .returned (.bool r)∧Drawn0 w w':=by
 have j0:=qa e0;have l0:=qa g0;clear e0 g0;have H:=h;unfold slices_Contains_int_int.f at H;clear h;replace H:=qb H;obtain⟨n0,p0,H⟩:=H;obtain rfl:=sj H
 go_enter Tryz.func145,Tryz.ntmps145
 go_wp2_with(first|(refine gd 7 Tryz.func168 (slices_Index_int_int.calls k _ _ c0 d0 n0 _ (cx j0.out) l0.out p0.out) fun nd=>?_))
 go_ret;exact⟨sd,dr⟩

def impl_ProperSum.f (k:Nat) (a0:Int):Option (Int):=(impl_numberOk.f a0).bind fun b0=>(if b0=true then((impl_divisors.f k a0).bind fun c0=>((impl_sum.f k c0).bind fun d0=>(some (wrap64 (d0-a0)))))else(some (-1)))
theorem impl_ProperSum.calls (k:Nat) (a0:Int) (r:Int) (w:World) (h:impl_ProperSum.f k a0=some r):
  Calls Tryz.prog 146 #[.int .i64 a0] w fun e w'=>e= .returned (.int .i64 r)∧Below w.heap.size w w':=by
 have HB:=qa (Below.refl w.heap.size w);have H:=h;unfold impl_ProperSum.f at H;clear h;replace H:=qb H;obtain⟨b0,c0,H⟩:=H;replace H:=qc H;obtain⟨rfl,H⟩|⟨rfl,H⟩:=H
 ·replace H:=qb H;obtain⟨d0,e0,H⟩:=H;replace H:=qb H;obtain⟨g0,j0,H⟩:=H;obtain rfl:=sj H
  go_enter Tryz.func146,Tryz.ntmps146
  go_wp2_with(first|(refine gd 4 Tryz.func107 (impl_numberOk.calls a0 true _ c0.out) fun nd=>?_)|(refine ge_ 7 Tryz.func109 (impl_divisors.calls k a0 d0 _ e0.out) fun l0 n0 p0 hb=>?_;have q0:=qa (Kd.R_lower p0 (below_size (bl)));replace HB:=bs hb;obtain⟨r0,s0,rfl⟩:=Kd.R_slice q0.out)|(refine gd 8 Tryz.func136 (impl_sum.calls k _ _ d0 g0 _ (cx (Kd.R_reads' q0.out).2.2) ((Kd.R_reads' q0.out).2.1) j0.out) fun nd=>?_))
  go_ret;exact⟨er,bl⟩
 ·obtain rfl:=sj H
  go_enter Tryz.func146,Tryz.ntmps146
  go_wp2_with(first|(refine gd 4 Tryz.func107 (impl_numberOk.calls a0 false _ c0.out) fun nd=>?_))
  go_ret;exact⟨er,bl⟩

def impl_WayFrom.l0:Nat→Int→List Int→Option (List Int)
 |0,_,_=>none
 |k+1,a0,b0=>(impl_numberOk.f a0).bind fun c0=>(if c0=true then(if(b0.length:Int)<30 then((slices_Contains_int_int.f k b0 a0).bind fun d0=>(if d0=true then(some b0)else(if b0.length<17592186044416 then((impl_ProperSum.f k a0).bind fun e0=>(impl_WayFrom.l0 k e0 (b0++[a0])))else(none))))else(some b0))else(some b0))
def impl_WayFrom.f (k:Nat) (a0:Int):Option (List Int):=(impl_numberOk.f a0).bind fun b0=>(if b0=true then(impl_WayFrom.l0 k a0 (([]:List Int)))else(some ([]:List Int)))
theorem impl_WayFrom.calls (k:Nat) (a0:Int) (r:List Int) (w:World) (h:impl_WayFrom.f k a0=some r):
  Calls Tryz.prog 110 #[.int .i64 a0] w fun e w'=>∃v0_:Value,e= .returned (v0_)∧Kd.R (Kd.int .i64) 3 w' w.heap.size (fun _=>True) v0_ r∧Below w.heap.size w w':=by
 have HB:=qa (Below.refl w.heap.size w);have H:=h;unfold impl_WayFrom.f at H;clear h;replace H:=qb H;obtain⟨b0,c0,H⟩:=H;replace H:=qc H;obtain⟨rfl,H⟩|⟨rfl,H⟩:=H
 ·obtain⟨d0,hy_⟩:∃y_:List Int,y_=(([]:List Int)):=⟨_,rfl⟩;replace H:(impl_WayFrom.l0 k a0 d0)=some r:=yh;have e0:=qa hy_;clear hy_;have H':=qa H;clear H
  go_enter Tryz.func110,Tryz.ntmps110
  go_wp2_with(first|(refine gd 5 Tryz.func107 (impl_numberOk.calls a0 true _ c0.out) fun nd=>?_)|(refine rli .i64 3 7 e0.out fun g0 j0 n0 hb=>?_;have p0:=qa (Kd.R_lower n0 (below_size (bl)));replace HB:=bs hb;clear hb n0))
  go_loopg [0,3] k (fun kq q0 r0 w'=>∃(s0:Int) (t0:List Int),q0= .int .i64 s0∧Aside0 (impl_WayFrom.l0 kq s0 t0=some r)∧Aside0 (kq≤k)∧Aside0 (Kd.R (Kd.int .i64) 3 w' w.heap.size (fun _=>True) r0 t0)∧Aside0 (Below w.heap.size w w'))
  case atStart=>exact⟨(a0),(d0),(sd),H',⟨Nat.le_refl _⟩,⟨kR p0⟩,⟨bl⟩⟩
  case round=>
   clear H';obtain⟨s0,t0,rfl,HA,HK1,v0,HB⟩:=hrel;obtain⟨k1,rfl,H⟩:=kz gk HA;clear HA;simp only[impl_WayFrom.l0]at H;replace H:=qb H;obtain⟨w0,x0,H⟩:=H;replace H:=qc H;obtain⟨rfl,H⟩|⟨rfl,H⟩:=H
   ·by_cases y0:(t0.length:Int)<30
    ·rw[if_pos y0]at H;have A0:decide ((t0.length:Int)<30)=true:=decide_eq_true y0;have B0:decide (t0.length<30)=true:=decide_eq_true ko_;clear y0;replace H:=qb H;obtain⟨C0,D0,H⟩:=H;replace H:=qc H;obtain⟨rfl,H⟩|⟨rfl,H⟩:=H
     ·obtain rfl:=sj H
      go_wp2_with(first|(refine gd 9 Tryz.func107 (impl_numberOk.calls s0 true _ x0.out) fun nd=>?_;obtain⟨E0,G0,rfl⟩:=Kd.R_slice v0.out)|(go_at_call 145;(with_reducible refine(slices_Contains_int_int.calls k1 _ _ t0 s0 true _ ?J0 ?K0 D0.out).mono ?_);(case J0=>exact cx (Kd.R_reads' v0.out).2.2);(case K0=>exact(Kd.R_reads' v0.out).2.1);rintro e w' ⟨rfl,⟨nd,rfl⟩⟩))
      go_ret;exact⟨_,er,kR v0,bl⟩
     ·replace H:=qn H;obtain⟨L0,H⟩:=H;have M0:=qa L0;clear L0;obtain⟨N0,hy_⟩:∃y_:List Int,y_=(t0++[s0]):=⟨_,rfl⟩;replace H:((impl_ProperSum.f k1 s0).bind fun P0=>(impl_WayFrom.l0 k1 P0 N0))=some r:=yh;have Q0:=qa hy_;clear hy_;replace H:=qb H;obtain⟨P0,R0,H⟩:=H;have H':=qa H;clear H
      go_wp2_with(first|(refine gd 9 Tryz.func107 (impl_numberOk.calls s0 true _ x0.out) fun nd=>?_;obtain⟨U0,V0,rfl⟩:=Kd.R_slice v0.out)|(go_at_call 145;(with_reducible refine(slices_Contains_int_int.calls k1 _ _ t0 s0 false _ ?J0 ?K0 D0.out).mono ?_);(case J0=>exact cx (Kd.R_reads' v0.out).2.2);(case K0=>exact(Kd.R_reads' v0.out).2.1);rintro e w' ⟨rfl,⟨nd,rfl⟩⟩)|((with_reducible refine gate_builtin (b:= .append) (xs:=#[.tmp 21,.tmp 23]) rfl ?_);(try(refine gate_guard (by rfl) ?_;dsimp only));at_builtin;refine Kd.R_append (Kd.int .i64) (w0:=w) w.heap.size rfl (.tmp 21) (.tmp 23) 22 3 (.int .i64 0) 8 rfl Tryz.underlying22 info3 rfl kd_ ko_ (.slice U0 t0.length V0) t0 s0 [.int .i64 s0] (fun _=>True) (fun _=>False) rfl rfl ?aP (fun _ hk=>hk.elim) ?aF ?aO ?aB ?aS ?aL ?_;(case aP=>exact rfl);(case aB=>exact(bl));(case aF=>exact(fun _ _=>trivial));(case aO=>exact(kR v0));(case aS=>exact(below_size (bl)));(case aL=>have:=M0.out;omega);intro W0 X0 ho hb hg hat;rw[←Q0.out]at ho;replace HB:=qa (hb);have Y0:=qa (ho);clear v0;clear ho hb hg hat)|(refine gb 26 Tryz.func146 (impl_ProperSum.calls k1 s0 P0 _ R0.out) fun a1 hb=>?_;replace Y0:=qa (Kd.R_below (kR Y0) hb);replace HB:=bs hb))
      go_roundg k1
      case measure=>have:=HK1.out;omega
      case rel=>exact⟨(P0),(N0),(sd),H',⟨by have:=HK1.out;omega⟩,⟨kR Y0⟩,⟨bl⟩⟩
    ·rw[if_neg y0]at H;have A0:decide ((t0.length:Int)<30)=false:=decide_eq_false y0;have B0:decide (t0.length<30)=false:=decide_eq_false ko_;clear y0;obtain rfl:=sj H
     go_wp2_with(first|(refine gd 9 Tryz.func107 (impl_numberOk.calls s0 true _ x0.out) fun nd=>?_;obtain⟨b1,c1,rfl⟩:=Kd.R_slice v0.out))
     go_ret;exact⟨_,er,kR v0,bl⟩
   ·obtain rfl:=sj H
    go_wp2_with(first|(refine gd 9 Tryz.func107 (impl_numberOk.calls s0 false _ x0.out) fun nd=>?_))
    go_ret;exact⟨_,er,kR v0,bl⟩
 ·obtain rfl:=sj H
  go_enter Tryz.func110,Tryz.ntmps110
  go_wp2_with(first|(refine gd 5 Tryz.func107 (impl_numberOk.calls a0 false _ c0.out) fun nd=>?_))
  go_ret;exact⟨_,er,z2_,bl⟩

mutual
def impl_AllSum.l0:Nat→Int→List (List Int)→Int→Int→Option (Int)
 |0,_,_,_,_=>none
 |k+1,a0,b0,c0,d0=>if d0<c0 then(if 0≤d0 then(if d0<(b0.length:Int)then(if 1<((rd_L1 b0 d0).length :Int)then(impl_AllSum.l1 k a0 (rd_L1 b0 d0) 1 b0 c0 d0 (rd (rd_L1 b0 d0) 1) 0)else(none))else(none))else(none))else(some a0)
def impl_AllSum.l1:Nat→Int→List Int→Int→List (List Int)→Int→Int→Int→Int→Option (Int)
 |0,_,_,_,_,_,_,_,_=>none
 |k+1,a0,e0,g0,b0,c0,d0,j0,n0=>if n0<j0 then(if 0<(e0.length:Int)then(impl_AllSum.l1 k a0 e0 (wrap64 ((wrap64 (g0*(rd e0 0)))+1)) b0 c0 d0 j0 (wrap64 (n0+1)))else(none))else(impl_AllSum.l0 k (wrap64 (a0*g0)) b0 c0 (wrap64 (d0+1)))
end

def impl_AllSum.f (k:Nat) (a0:Int):Option (Int):=(impl_numberOk.f a0).bind fun b0=>(if b0=true then((impl_factors.f k a0).bind fun c0=>(impl_AllSum.l0 k 1 c0 (c0.length:Int) 0))else(some (-1)))
theorem impl_AllSum.calls (k:Nat) (a0:Int) (r:Int) (w:World) (h:impl_AllSum.f k a0=some r):
  Calls Tryz.prog 111 #[.int .i64 a0] w fun e w'=>e= .returned (.int .i64 r)∧Below w.heap.size w w':=by
 have HB:=qa (Below.refl w.heap.size w);have H:=h;unfold impl_AllSum.f at H;clear h;replace H:=qb H;obtain⟨b0,c0,H⟩:=H;replace H:=qc H;obtain⟨rfl,H⟩|⟨rfl,H⟩:=H
 ·replace H:=qb H;obtain⟨d0,e0,H⟩:=H;have H':=qa H;clear H
  go_enter Tryz.func111,Tryz.ntmps111
  go_wp2_with(first|(refine gd 8 Tryz.func107 (impl_numberOk.calls a0 true _ c0.out) fun nd=>?_)|(refine ge_ 11 Tryz.func138 (impl_factors.calls k a0 d0 _ e0.out) fun g0 j0 n0 hb=>?_;have p0:=qa (Kd.S_lower n0 (below_size (bl)));replace HB:=bs hb;obtain⟨q0,r0,rfl⟩:=Kd.S_slice p0.out))
  go_loopg [3,13] k (fun kq s0 t0 w'=>∃(v0:Int) (w0:Int),s0= .int .i64 v0∧t0= .int .i64 w0∧Aside0 (impl_AllSum.l0 kq v0 d0 (d0.length:Int) w0=some r)∧Aside0 (kq≤k)∧Aside0 (Kd.S (Kd.slice 3 (Kd.int .i64)) 22 w' w.heap.size (fun _=>True) (.slice q0 d0.length r0) d0)∧Aside0 (Below w.heap.size w w'))
  case atStart=>exact⟨(1),(0),(sd),(sd),H',⟨Nat.le_refl _⟩,⟨kS p0⟩,⟨bl⟩⟩
  case round=>
   clear H';obtain⟨v0,w0,rfl,rfl,HA,HK1,x0,HB⟩:=hrel;obtain⟨k1,rfl,H⟩:=kz gk HA;clear HA;simp only[impl_AllSum.l0]at H;replace H:=qe H;obtain⟨y0,H⟩|⟨y0,H⟩:=H
   ·replace H:=qd H;obtain⟨A0,H⟩:=H;replace H:=qd H;obtain⟨B0,H⟩:=H;replace H:=qL 1 H;obtain⟨C0,D0,H⟩:=H;have H':=qa H;clear H;obtain⟨E0,G0,J0,⟨⟩,K0,HL745_0,L0,M0,N0,P0⟩:=sg_L1 x0.out w0;have Q0:0≤(1:Int):=ko_;have R0:1<((rd_L1 d0 w0).length :Int):=qo;obtain⟨U0,V0,W0⟩:=Kd.at_int z25_ 1 Q0 R0;cases V0;(try simp only[show(1:Int).toNat =1 from rfl,Nat.reduceMul,Nat.reduceEqDiff,Go.Addr.add,↓reduceIte]at W0);have qi746:(1<(rd_L1 d0 w0).length)=True:=eq_true ko_;(try rw[show((1:Int)).toNat =1 from rfl]at W0);replace Q0:=eq_true Q0;replace R0:=eq_true R0;go_wp2
    go_loopg [6,20] k1 (fun kq X0 Y0 w'=>∃(a1:Int) (b1:Int),X0= .int .i64 a1∧Y0= .int .i64 b1∧Aside0 (impl_AllSum.l1 kq v0 (rd_L1 d0 w0) a1 d0 (d0.length:Int) w0 (rd (rd_L1 d0 w0) 1) b1=some r)∧Aside0 (kq≤k1)∧Aside0 (Kd.S (Kd.slice 3 (Kd.int .i64)) 22 w' w.heap.size (fun _=>True) (.slice (some E0) d0.length r0) d0)∧Aside0 (Kd.C (Kd.int .i64) w' (some U0) (rd_L1 d0 w0).length (rd_L1 d0 w0))∧Aside0 (Below w.heap.size w w'))
    case atStart=>exact⟨(1),(0),(sd),(sd),H',⟨Nat.le_refl _⟩,⟨kS x0⟩,⟨z25_⟩,⟨bl⟩⟩
    case round=>
     clear H';obtain⟨a1,b1,rfl,rfl,HA,HK2,x0,L0,HB⟩:=hrel;obtain⟨k2,rfl,H⟩:=kz gk HA;clear HA;simp only[impl_AllSum.l1]at H;replace H:=qe H;obtain⟨c1,H⟩|⟨c1,H⟩:=H
     ·replace H:=qL 0 H;obtain⟨d1,e1,H⟩:=H;have H':=qa H;clear H;obtain⟨g1,qi747,j1,n1⟩:=ajn 0 L0.out 0;(try rw[Addr.add_zero']at g1);(try replace g1:=(HB.out.cell (World.block_lt_of_cell? w _ g1)).trans g1);go_wp2
      go_roundg k2
      case measure=>have:=HK1.out;have:=HK2.out;omega
      case rel=>exact⟨(wrap64 ((wrap64 (a1*(rd (rd_L1 d0 w0) 0)))+1)),(wrap64 (b1+1)),(sd),(sd),H',⟨by have:=HK1.out;have:=HK2.out;omega⟩,⟨kS x0⟩,⟨z25_⟩,⟨bl⟩⟩
     ·have H':=qa H;clear H;go_wp2
      go_roundg k2
      case measure=>have:=HK1.out;have:=HK2.out;omega
      case rel=>exact⟨(wrap64 (v0*a1)),(wrap64 (w0+1)),(sd),(sd),H',⟨by have:=HK1.out;have:=HK2.out;omega⟩,⟨kS x0⟩,⟨bl⟩⟩
   ·obtain rfl:=sj H;go_wp2;go_ret;exact⟨er,bl⟩
 ·obtain rfl:=sj H
  go_enter Tryz.func111,Tryz.ntmps111
  go_wp2_with(first|(refine gd 8 Tryz.func107 (impl_numberOk.calls a0 false _ c0.out) fun nd=>?_))
  go_ret;exact⟨er,bl⟩
def cmp_isNaN_int.f (a0:Int):Option (Bool):=some (a0 != a0)
theorem cmp_isNaN_int.calls (a0:Int) (r:Bool) (w:World) (h:cmp_isNaN_int.f a0=some r):
  Calls Tryz.prog 169 #[.int .i64 a0] w fun e w'=>e= .returned (.bool r)∧Drawn0 w w':=by
 have H:=h;unfold cmp_isNaN_int.f at H;clear h;obtain rfl:=sj H
 go_enter Tryz.func169,Tryz.ntmps169
 go_wp2;go_ret;exact⟨sd,dr⟩

def cmp_Compare_int.f (a0:Int) (b0:Int):Option (Int):=(cmp_isNaN_int.f a0).bind fun c0=>((cmp_isNaN_int.f b0).bind fun d0=>(if c0=true then(if d0=true then(some 0)else(some (-1)))else(if d0=true then(some 1)else(if a0<b0 then(some (-1))else(if a0>b0 then(some 1)else(some 0))))))
theorem cmp_Compare_int.calls (a0:Int) (b0:Int) (r:Int) (w:World) (h:cmp_Compare_int.f a0 b0=some r):
  Calls Tryz.prog 147 #[.int .i64 a0,.int .i64 b0] w fun e w'=>e= .returned (.int .i64 r)∧Drawn0 w w':=by
 have H:=h;unfold cmp_Compare_int.f at H;clear h;replace H:=qb H;obtain⟨c0,d0,H⟩:=H;replace H:=qb H;obtain⟨e0,g0,H⟩:=H;replace H:=qc H;obtain⟨rfl,H⟩|⟨rfl,H⟩:=H
 ·replace H:=qc H;obtain⟨rfl,H⟩|⟨rfl,H⟩:=H
  ·obtain rfl:=sj H
   go_enter Tryz.func147,Tryz.ntmps147
   go_wp2_with(first|(refine gd 8 Tryz.func169 (cmp_isNaN_int.calls a0 true _ d0.out) fun nd=>?_)|(refine gd 10 Tryz.func169 (cmp_isNaN_int.calls b0 true _ g0.out) fun nd=>?_))
   go_ret;exact⟨sd,dr⟩
  ·obtain rfl:=sj H
   go_enter Tryz.func147,Tryz.ntmps147
   go_wp2_with(first|(refine gd 8 Tryz.func169 (cmp_isNaN_int.calls a0 true _ d0.out) fun nd=>?_)|(refine gd 10 Tryz.func169 (cmp_isNaN_int.calls b0 false _ g0.out) fun nd=>?_))
   go_ret;exact⟨sd,dr⟩
 ·replace H:=qc H;obtain⟨rfl,H⟩|⟨rfl,H⟩:=H
  ·obtain rfl:=sj H
   go_enter Tryz.func147,Tryz.ntmps147
   go_wp2_with(first|(refine gd 8 Tryz.func169 (cmp_isNaN_int.calls a0 false _ d0.out) fun nd=>?_)|(refine gd 10 Tryz.func169 (cmp_isNaN_int.calls b0 true _ g0.out) fun nd=>?_))
   go_ret;exact⟨sd,dr⟩
  ·replace H:=qe H;obtain⟨j0,H⟩|⟨j0,H⟩:=H
   ·obtain rfl:=sj H
    go_enter Tryz.func147,Tryz.ntmps147
    go_wp2_with(first|(refine gd 8 Tryz.func169 (cmp_isNaN_int.calls a0 false _ d0.out) fun nd=>?_)|(refine gd 10 Tryz.func169 (cmp_isNaN_int.calls b0 false _ g0.out) fun nd=>?_))
    go_ret;exact⟨sd,dr⟩
   ·replace H:=qg H;obtain⟨l0,H⟩|⟨l0,H⟩:=H
    ·obtain rfl:=sj H
     go_enter Tryz.func147,Tryz.ntmps147
     go_wp2_with(first|(refine gd 8 Tryz.func169 (cmp_isNaN_int.calls a0 false _ d0.out) fun nd=>?_)|(refine gd 10 Tryz.func169 (cmp_isNaN_int.calls b0 false _ g0.out) fun nd=>?_))
     go_ret;exact⟨sd,dr⟩
    ·obtain rfl:=sj H
     go_enter Tryz.func147,Tryz.ntmps147
     go_wp2_with(first|(refine gd 8 Tryz.func169 (cmp_isNaN_int.calls a0 false _ d0.out) fun nd=>?_)|(refine gd 10 Tryz.func169 (cmp_isNaN_int.calls b0 false _ g0.out) fun nd=>?_))
     go_ret;exact⟨sd,dr⟩

def impl_KindOf.f (k:Nat) (a0:Int):Option (Int):=(impl_numberOk.f a0).bind fun b0=>(if b0=true then((impl_ProperSum.f k a0).bind fun c0=>((cmp_Compare_int.f c0 a0).bind fun d0=>(some d0)))else(some (-2)))
theorem impl_KindOf.calls (k:Nat) (a0:Int) (r:Int) (w:World) (h:impl_KindOf.f k a0=some r):
  Calls Tryz.prog 112 #[.int .i64 a0] w fun e w'=>e= .returned (.int .i64 r)∧Below w.heap.size w w':=by
 have HB:=qa (Below.refl w.heap.size w);have H:=h;unfold impl_KindOf.f at H;clear h;replace H:=qb H;obtain⟨b0,c0,H⟩:=H;replace H:=qc H;obtain⟨rfl,H⟩|⟨rfl,H⟩:=H
 ·replace H:=qb H;obtain⟨d0,e0,H⟩:=H;replace H:=qb H;obtain⟨g0,j0,H⟩:=H;obtain rfl:=sj H
  go_enter Tryz.func112,Tryz.ntmps112
  go_wp2_with(first|(refine gd 4 Tryz.func107 (impl_numberOk.calls a0 true _ c0.out) fun nd=>?_)|(refine gb 7 Tryz.func146 (impl_ProperSum.calls k a0 d0 _ e0.out) fun l0 hb=>?_;replace HB:=bs hb)|(refine gd 9 Tryz.func147 (cmp_Compare_int.calls d0 a0 g0 _ j0.out) fun nd=>?_))
  go_ret;exact⟨er,bl⟩
 ·obtain rfl:=sj H
  go_enter Tryz.func112,Tryz.ntmps112
  go_wp2_with(first|(refine gd 4 Tryz.func107 (impl_numberOk.calls a0 false _ c0.out) fun nd=>?_))
  go_ret;exact⟨er,bl⟩

def impl_leavesSign.f (a0:Int):Option (Int):=if(Int.tmod a0 4)=1 then(some 1)else(if(Int.tmod a0 4)=3 then(some (-1))else(some 0))
theorem impl_leavesSign.calls (a0:Int) (r:Int) (w:World) (h:impl_leavesSign.f a0=some r):
  Calls Tryz.prog 148 #[.int .i64 a0] w fun e w'=>e= .returned (.int .i64 r)∧Drawn0 w w':=by
 have H:=h;unfold impl_leavesSign.f at H;clear h;replace H:=qq H;obtain⟨b0,c0,H⟩|⟨d0,b0,c0,H⟩:=H
 ·obtain rfl:=sj H
  go_enter Tryz.func148,Tryz.ntmps148
  go_wp2;go_ret;exact⟨sd,dr⟩
 ·replace H:=qq H;obtain⟨e0,g0,H⟩|⟨j0,e0,g0,H⟩:=H
  ·obtain rfl:=sj H
   go_enter Tryz.func148,Tryz.ntmps148
   go_wp2;go_ret;exact⟨sd,dr⟩
  ·obtain rfl:=sj H
   go_enter Tryz.func148,Tryz.ntmps148
   go_wp2;go_ret;exact⟨sd,dr⟩

def impl_ByDivisors.l0:Nat→Int→List Int→Int→Int→Option (Int)
 |0,_,_,_,_=>none
 |k+1,a0,b0,c0,d0=>if d0<c0 then(if 0≤d0 then(if d0<(b0.length:Int)then((impl_leavesSign.f (rd b0 d0)).bind fun e0=>(impl_ByDivisors.l0 k (wrap64 (a0+(wrap64 (4*e0)))) b0 c0 (wrap64 (d0+1))))else(none))else(none))else(some a0)
def impl_ByDivisors.f (k:Nat) (a0:Int):Option (Int):=(impl_numberOk.f a0).bind fun b0=>(if b0=true then((impl_divisors.f k a0).bind fun c0=>(impl_ByDivisors.l0 k 0 c0 (c0.length:Int) 0))else(some (-1)))
theorem impl_ByDivisors.calls (k:Nat) (a0:Int) (r:Int) (w:World) (h:impl_ByDivisors.f k a0=some r):
  Calls Tryz.prog 114 #[.int .i64 a0] w fun e w'=>e= .returned (.int .i64 r)∧Below w.heap.size w w':=by
 have HB:=qa (Below.refl w.heap.size w);have H:=h;unfold impl_ByDivisors.f at H;clear h;replace H:=qb H;obtain⟨b0,c0,H⟩:=H;replace H:=qc H;obtain⟨rfl,H⟩|⟨rfl,H⟩:=H
 ·replace H:=qb H;obtain⟨d0,e0,H⟩:=H;have H':=qa H;clear H
  go_enter Tryz.func114,Tryz.ntmps114
  go_wp2_with(first|(refine gd 7 Tryz.func107 (impl_numberOk.calls a0 true _ c0.out) fun nd=>?_)|(refine ge_ 10 Tryz.func109 (impl_divisors.calls k a0 d0 _ e0.out) fun g0 j0 n0 hb=>?_;have p0:=qa (Kd.R_lower n0 (below_size (bl)));replace HB:=bs hb;obtain⟨q0,r0,rfl⟩:=Kd.R_slice p0.out))
  go_loopg [3,12] k (fun kq s0 t0 w'=>∃(v0:Int) (w0:Int),s0= .int .i64 v0∧t0= .int .i64 w0∧Aside0 (impl_ByDivisors.l0 kq v0 d0 (d0.length:Int) w0=some r)∧Aside0 (kq≤k)∧Aside0 (Kd.R (Kd.int .i64) 3 w' w.heap.size (fun _=>True) (.slice q0 d0.length r0) d0)∧Aside0 (Below w.heap.size w w'))
  case atStart=>exact⟨(0),(0),(sd),(sd),H',⟨Nat.le_refl _⟩,⟨kR p0⟩,⟨bl⟩⟩
  case round=>
   clear H';obtain⟨v0,w0,rfl,rfl,HA,HK1,x0,HB⟩:=hrel;obtain⟨k1,rfl,H⟩:=kz gk HA;clear HA;simp only[impl_ByDivisors.l0]at H;replace H:=qe H;obtain⟨y0,H⟩|⟨y0,H⟩:=H
   ·replace H:=qd H;obtain⟨A0,H⟩:=H;replace H:=qd H;obtain⟨B0,H⟩:=H;replace H:=qb H;obtain⟨C0,D0,H⟩:=H;have H':=qa H;clear H;obtain⟨E0,⟨⟩,G0,J0,K0⟩:=ai (Kd.R_reads' x0.out).2.2 w0
    go_wp2_with(first|(refine gd 18 Tryz.func148 (impl_leavesSign.calls (rd d0 w0) C0 _ D0.out) fun nd=>?_))
    go_roundg k1
    case measure=>have:=HK1.out;omega
    case rel=>exact⟨(wrap64 (v0+(wrap64 (4*C0)))),(wrap64 (w0+1)),(sd),(sd),H',⟨by have:=HK1.out;omega⟩,⟨kR x0⟩,⟨bl⟩⟩
   ·obtain rfl:=sj H;go_wp2;go_ret;exact⟨er,bl⟩
 ·obtain rfl:=sj H
  go_enter Tryz.func114,Tryz.ntmps114
  go_wp2_with(first|(refine gd 7 Tryz.func107 (impl_numberOk.calls a0 false _ c0.out) fun nd=>?_))
  go_ret;exact⟨er,bl⟩
mutual
def impl_answer.j0:Nat→List Int→ByteArray→Int→Bool→Option (ByteArray)
 |0,_,_,_,_=>none
 |k+1,a0,b0,c0,d0=>if d0=true then(some (⟨#[119,104,97,116]⟩:ByteArray))else((impl_numberOk.f c0).bind fun e0=>(if e0=true then(if b0.toList=([97,116]:List UInt8)then(impl_answer.j1 k a0 b0 c0 (decide (c0>24)))else(impl_answer.j1 k a0 b0 c0 false))else(impl_answer.j1 k a0 b0 c0 true)))
def impl_answer.j1:Nat→List Int→ByteArray→Int→Bool→Option (ByteArray)
 |0,_,_,_,_=>none
 |k+1,a0,b0,c0,g0=>if g0=true then(some (⟨#[110,111,110,101]⟩:ByteArray))else(if b0.toList=([97,116]:List UInt8)then(if 0≤(wrap64 (c0-1))then(if(wrap64 (c0-1))<(a0.length:Int)then((strconv_Itoa.f (rd a0 (wrap64 (c0-1)))).bind fun l0=>(some l0))else(none))else(none))else(if b0.toList=([112,114,105,109,101,115]:List UInt8)then((impl_FactorText.f k c0).bind fun n0=>(some n0))else(if b0.toList=([100,105,118,105,115,111,114,115]:List UInt8)then((impl_divisors.f k c0).bind fun p0=>((impl_rowText.f k p0).bind fun q0=>(some q0)))else(if b0.toList=([119,97,121]:List UInt8)then((impl_WayFrom.f k c0).bind fun r0=>((impl_rowText.f k r0).bind fun s0=>(some s0)))else(if b0.toList=([115,117,109]:List UInt8)then((impl_AllSum.f k c0).bind fun t0=>((strconv_Itoa.f t0).bind fun v0=>(some v0)))else(if b0.toList=([107,105,110,100]:List UInt8)then((some (([(⟨#[112,111,111,114]⟩:ByteArray),(⟨#[112,101,114,102,101,99,116]⟩:ByteArray),(⟨#[114,105,99,104]⟩:ByteArray)]:List ByteArray):List ByteArray)).bind fun w0=>((impl_KindOf.f k c0).bind fun x0=>(if 0≤(wrap64 (x0+1))then(if(wrap64 (x0+1))<(w0.length:Int)then(some (rdOf ByteArray.empty w0 (wrap64 (x0+1))))else(none))else(none))))else(if b0.toList=([97,112,97,114,116]:List UInt8)then((impl_phi.f k c0).bind fun y0=>((strconv_Itoa.f y0).bind fun A0=>(some A0)))else((impl_ByDivisors.f k c0).bind fun B0=>((strconv_Itoa.f B0).bind fun C0=>(some C0))))))))))
end

def impl_answer.f (k:Nat) (a0:List Int) (b0:ByteArray):Option (ByteArray):=if b0.toList=([102,105,114,115,116]:List UInt8)then(if 8≤(a0.length:Int)then((impl_rowText.f k (a0.take 8)).bind fun c0=>(some c0))else(none))else(if b0.toList=([109,117,108,116,105,112,108,105,99,97,116,105,118,101]:List UInt8)then((impl_MultiplicativeOk.f k a0).bind fun d0=>((impl_yes.f d0).bind fun e0=>(some e0)))else(if b0.toList=([102,117,108,108]:List UInt8)then((impl_FullyOk.f k a0).bind fun g0=>((impl_yes.f g0).bind fun l0=>(some l0)))else((strings_Cut.f b0 (⟨#[32]⟩:ByteArray)).bind fun n0=>((strconv_Atoi.f n0.2.1).bind fun p0=>((slices_Contains_string_string.f k (([(⟨#[97,116]⟩:ByteArray),(⟨#[112,114,105,109,101,115]⟩:ByteArray),(⟨#[100,105,118,105,115,111,114,115]⟩:ByteArray),(⟨#[119,97,121]⟩:ByteArray),(⟨#[115,117,109]⟩:ByteArray),(⟨#[107,105,110,100]⟩:ByteArray),(⟨#[97,112,97,114,116]⟩:ByteArray),(⟨#[115,113,117,97,114,101,115]⟩:ByteArray)]:List ByteArray)) n0.1).bind fun q0=>(if q0=true then(if p0.2.isNone=true then(if p0.1<0 then(impl_answer.j0 k a0 n0.1 p0.1 true)else(if(n0.2.1.size:Int)>5 then(impl_answer.j0 k a0 n0.1 p0.1 true)else((strconv_Itoa.f p0.1).bind fun r0=>(impl_answer.j0 k a0 n0.1 p0.1 (r0.toList != n0.2.1.toList)))))else(impl_answer.j0 k a0 n0.1 p0.1 true))else(impl_answer.j0 k a0 n0.1 p0.1 true)))))))
theorem impl_answer.calls (k:Nat) (a0:Option Addr) (b0:Nat) (c0:List Int) (d0:ByteArray) (r:ByteArray) (w:World) (e0:Kd.C (Kd.int .i64) w a0 c0.length c0) (g0:c0.length≤b0) (h:impl_answer.f k c0 d0=some r) (hG_:GL w):
  Calls Tryz.prog 55 #[.slice a0 c0.length b0,.string d0] w fun e w'=>e= .returned (.string r)∧Below w.heap.size w w':=by
 have l0:=Tryz.underlying98;have n0:=qa e0;have p0:=qa g0;clear e0 g0;have HB:=qa (Below.refl w.heap.size w);have H:=h;unfold impl_answer.f at H;clear h;replace H:=qq H;obtain⟨q0,r0,H⟩|⟨s0,q0,r0,H⟩:=H
 ·replace H:=qn H;obtain⟨t0,H⟩:=H;have v0:=eq_true t0;have w0:decide (8≤(c0.length:Int))=true:=decide_eq_true t0;clear t0;replace H:=qb H;obtain⟨x0,y0,H⟩:=H;obtain rfl:=sj H;obtain⟨i06,A0,_,B0,_⟩:=info_parts info3;obtain⟨C0,hA6,hC6⟩:=print_take_of (P:=Tryz.prog) (Value.int .i64) 0 22 3 .i64 Tryz.underlying22 A0 B0 a0 b0 c0 8 ko_ (qo) p0.out;have D0:=qa (Kd.C_of_reads (h1:=fun _=>rfl) (hA6 _ (Kd.reads_of_C n0.out)));have E0:=qa hC6;clear hA6 hC6 A0 B0
  go_enter Tryz.func55,Tryz.ntmps55
  go_wp2_with(first|((with_reducible refine gate_callee (f:=102) rfl ?_);refine goesL_ (some 15) rfl rfl Tryz.func102 kr_ rfl #[.slice a0 (c0.take 8).length b0] rfl z26_ ?_;(with_reducible refine(impl_rowText.calls k _ _ (c0.take 8) x0 _ ?G0 ?J0 y0.out ?K0).mono ?_);(case G0=>exact cx D0.out);(case J0=>exact E0.out);(case K0=>exact GL_below hG_ (bl));rintro e L0 ⟨rfl,hb⟩;refine⟨_,rfl,?_⟩;replace HB:=bs hb))
  go_ret;exact⟨er,bl⟩
 ·replace H:=qq H;obtain⟨M0,N0,H⟩|⟨P0,M0,N0,H⟩:=H
  ·replace H:=qb H;obtain⟨Q0,R0,H⟩:=H;replace H:=qb H;obtain⟨U0,V0,H⟩:=H;obtain rfl:=sj H
   go_enter Tryz.func55,Tryz.ntmps55
   go_wp2_with(first|(refine gd 19 Tryz.func104 (impl_MultiplicativeOk.calls k _ _ c0 Q0 _ (cx n0.out) p0.out R0.out) fun nd=>?_)|(refine gd 20 Tryz.func103 (impl_yes.calls Q0 U0 _ V0.out) fun nd=>?_))
   go_ret;exact⟨er,bl⟩
  ·replace H:=qq H;obtain⟨W0,X0,H⟩|⟨Y0,W0,X0,H⟩:=H
   ·replace H:=qb H;obtain⟨a1,b1,H⟩:=H;replace H:=qb H;obtain⟨c1,d1,H⟩:=H;obtain rfl:=sj H
    go_enter Tryz.func55,Tryz.ntmps55
    go_wp2_with(first|(refine gd 24 Tryz.func105 (impl_FullyOk.calls k _ _ c0 a1 _ (cx n0.out) p0.out b1.out) fun nd=>?_)|(refine gd 25 Tryz.func103 (impl_yes.calls a1 c1 _ d1.out) fun nd=>?_))
    go_ret;exact⟨er,bl⟩
   ·replace H:=qb H;obtain⟨⟨e1,g1,l1⟩,n1,H⟩:=H;(try dsimp only at H);replace H:=qb H;obtain⟨⟨p1,q1⟩,r1,H⟩:=H;(try dsimp only at H);have s1:=qa H;clear H
    go_enter Tryz.func55,Tryz.ntmps55
    go_upto_region 10 with(first|(refine gb 28 Tryz.func75 (strings_Cut.calls d0 (⟨#[32]⟩:ByteArray) e1 g1 l1 _ n1.out (GL_below hG_ (bl))) fun t1 hb=>?_;replace HB:=bs hb)|(refine gol (some 34) Tryz.func94 #[.string g1] ?_;(with_reducible refine(strconv_Atoi.calls g1 p1 q1 _ r1.out ?G0).mono ?_);(case G0=>exact GL_below hG_ (bl));rintro e v1 ⟨ev_,hev_,rfl,hb⟩;refine⟨_,rfl,?_⟩;replace HB:=bs hb;(try simp only[errW_none,errW_some])))
    (try simp only[Act.put,List.setIfInBounds_toArray,List.set_cons_zero,List.set_cons_succ])
    go_cut [59] (fun w1 wc=>∃(kq:Nat) (x1:Bool),w1= .bool x1∧Aside0 (impl_answer.j0 kq c0 e1 p1 x1=some r)∧Aside0 (kq≤k)∧Aside0 (Below w.heap.size w wc))
    case first=>
     have H:=s1.out;clear s1;obtain⟨y1,hy_⟩:∃y_:List ByteArray,y_=(([(⟨#[97,116]⟩:ByteArray),(⟨#[112,114,105,109,101,115]⟩:ByteArray),(⟨#[100,105,118,105,115,111,114,115]⟩:ByteArray),(⟨#[119,97,121]⟩:ByteArray),(⟨#[115,117,109]⟩:ByteArray),(⟨#[107,105,110,100]⟩:ByteArray),(⟨#[97,112,97,114,116]⟩:ByteArray),(⟨#[115,113,117,97,114,101,115]⟩:ByteArray)]:List ByteArray)):=⟨_,rfl⟩;replace H:((slices_Contains_string_string.f k y1 e1).bind fun A1=>(if A1=true then(if q1.isNone=true then(if p1<0 then(impl_answer.j0 k c0 e1 p1 true)else(if(g1.size:Int)>5 then(impl_answer.j0 k c0 e1 p1 true)else((strconv_Itoa.f p1).bind fun B1=>(impl_answer.j0 k c0 e1 p1 (B1.toList != g1.toList)))))else(impl_answer.j0 k c0 e1 p1 true))else(impl_answer.j0 k c0 e1 p1 true)))=some r:=yh;have C1:=qa hy_;clear hy_;replace H:=qb H;obtain⟨A1,D1,H⟩:=H;replace H:=qc H;obtain⟨rfl,H⟩|⟨rfl,H⟩:=H
     ·rcases q1 with _|E1
      ·obtain rfl:=ev0_ hev_;(have H1:(if p1<0 then(impl_answer.j0 k c0 e1 p1 true)else(if(g1.size:Int)>5 then(impl_answer.j0 k c0 e1 p1 true)else((strconv_Itoa.f p1).bind fun B1=>(impl_answer.j0 k c0 e1 p1 (B1.toList != g1.toList)))))=some r:=by rw[if_pos (show(none:Option Int).isNone =true by rfl)]at H;exact H);clear H;have H:=H1;clear H1
       try simp only[errW_none,errW_some]
       replace H:=qe H;obtain⟨G1,H⟩|⟨G1,H⟩:=H
       ·(first|rw[G1]|(simp only[i64_w,i32_w];rw[G1])|skip);have H':=qa H;clear H
        go_wp2_with(first|(refine rls 9 37 C1.out fun J1 K1 L1 hb=>?_;have M1:=qa (Kd.R_lower L1 (below_size (bl)));replace HB:=bs hb;clear hb L1;obtain⟨N1,P1,rfl⟩:=Kd.R_slice M1.out)|(refine gd 39 Tryz.func106 (slices_Contains_string_string.calls k _ _ y1 e1 true _ (cx (Kd.R_reads' M1.out).2.2) ((Kd.R_reads' M1.out).2.1) D1.out) fun nd=>?_))
        go_meet
        case rel=>exact⟨_,(true),(sd),H',⟨by first|omega|exact Nat.le_refl _⟩,⟨bl⟩⟩
       ·(first|rw[G1]|(simp only[i64_w,i32_w];rw[G1])|skip)
        by_cases Q1:(g1.size:Int)>5
        ·rw[if_pos Q1]at H;have R1:decide (5<(g1.size:Int))=true:=decide_eq_true Q1;have U1:decide (5<g1.size)=true:=decide_eq_true ko_;clear Q1;have H':=qa H;clear H
         go_wp2_with(first|(refine rls 9 37 C1.out fun J1 V1 W1 hb=>?_;have M1:=qa (Kd.R_lower W1 (below_size (bl)));replace HB:=bs hb;clear hb W1;obtain⟨X1,Y1,rfl⟩:=Kd.R_slice M1.out)|(refine gd 39 Tryz.func106 (slices_Contains_string_string.calls k _ _ y1 e1 true _ (cx (Kd.R_reads' M1.out).2.2) ((Kd.R_reads' M1.out).2.1) D1.out) fun nd=>?_))
         go_meet
         case rel=>exact⟨_,(true),(sd),H',⟨by first|omega|exact Nat.le_refl _⟩,⟨bl⟩⟩
        ·rw[if_neg Q1]at H;have R1:decide (5<(g1.size:Int))=false:=decide_eq_false Q1;have U1:decide (5<g1.size)=false:=decide_eq_false ko_;clear Q1;replace H:=qb H;obtain⟨B1,a2,H⟩:=H;have H':=qa H;clear H
         go_wp2_with(first|(refine rls 9 37 C1.out fun J1 b2 c2 hb=>?_;have M1:=qa (Kd.R_lower c2 (below_size (bl)));replace HB:=bs hb;clear hb c2;obtain⟨d2,e2,rfl⟩:=Kd.R_slice M1.out)|(refine gd 39 Tryz.func106 (slices_Contains_string_string.calls k _ _ y1 e1 true _ (cx (Kd.R_reads' M1.out).2.2) ((Kd.R_reads' M1.out).2.1) D1.out) fun nd=>?_)|(go_at_call 77;(with_reducible refine(strconv_Itoa.calls p1 B1 _ a2.out ?G0).mono ?_);(case G0=>exact GL_below hG_ (bl));rintro e g2 ⟨rfl,hb⟩;replace M1:=qa (Kd.R_below (kR M1) hb);replace HB:=bs hb))
         go_meet
         case rel=>exact⟨_,((B1.toList != g1.toList)),(sd),H',⟨by first|omega|exact Nat.le_refl _⟩,⟨bl⟩⟩
      ·obtain⟨te_,pe_,rfl⟩:=ev1_ hev_;(have H1:(impl_answer.j0 k c0 e1 p1 true)=some r:=by rw[if_neg (show ¬(some E1).isNone =true by simp)]at H;exact H);clear H;have H:=H1;clear H1
       try simp only[errW_none,errW_some]
       have H':=qa H;clear H
       go_wp2_with(first|(refine rls 9 37 C1.out fun J1 j2 l2 hb=>?_;have M1:=qa (Kd.R_lower l2 (below_size (bl)));replace HB:=bs hb;clear hb l2;obtain⟨n2,p2,rfl⟩:=Kd.R_slice M1.out)|(refine gd 39 Tryz.func106 (slices_Contains_string_string.calls k _ _ y1 e1 true _ (cx (Kd.R_reads' M1.out).2.2) ((Kd.R_reads' M1.out).2.1) D1.out) fun nd=>?_))
       go_meet
       case rel=>exact⟨_,(true),(sd),H',⟨by first|omega|exact Nat.le_refl _⟩,⟨bl⟩⟩
     ·have H':=qa H;clear H
      go_wp2_with(first|(refine rls 9 37 C1.out fun J1 q2 r2 hb=>?_;have M1:=qa (Kd.R_lower r2 (below_size (bl)));replace HB:=bs hb;clear hb r2;obtain⟨s2,t2,rfl⟩:=Kd.R_slice M1.out)|(refine gd 39 Tryz.func106 (slices_Contains_string_string.calls k _ _ y1 e1 false _ (cx (Kd.R_reads' M1.out).2.2) ((Kd.R_reads' M1.out).2.1) D1.out) fun nd=>?_))
      go_meet
      case rel=>exact⟨_,(true),(sd),H',⟨by first|omega|exact Nat.le_refl _⟩,⟨bl⟩⟩
    case rest=>
     clear s1;obtain⟨kq,x1,rfl,HA,v2,HB⟩:=hcut;obtain⟨w2,rfl,H⟩:=kz kq HA;clear HA;simp only[impl_answer.j0]at H;replace H:=qc H;obtain⟨rfl,H⟩|⟨rfl,H⟩:=H
     ·obtain rfl:=sj H;go_wp2;go_ret;exact⟨er,bl⟩
     ·have x2:=qa H;clear H
      go_upto_region 12 with(fail)
      go_cut [70] (fun y2 wc=>∃(kq:Nat) (A2:Bool),y2= .bool A2∧Aside0 (impl_answer.j1 kq c0 e1 p1 A2=some r)∧Aside0 (kq≤w2)∧Aside0 (Below w.heap.size w wc))
      case first=>
       have H:=x2.out;clear x2;replace H:=qb H;obtain⟨B2,C2,H⟩:=H;replace H:=qc H;obtain⟨rfl,H⟩|⟨rfl,H⟩:=H
       ·replace H:=qq H;obtain⟨D2,E2,H⟩|⟨G2,D2,E2,H⟩:=H
        ·(first|rw[D2]|(simp only[i64_w,i32_w];rw[D2])|skip);have H':=qa H;clear H
         go_wp2_with(first|(refine gd 61 Tryz.func107 (impl_numberOk.calls p1 true _ C2.out) fun nd=>?_))
         go_meet
         case rel=>exact⟨_,(decide (p1>24)),(sd),H',⟨by have:=v2.out;first|omega|exact Nat.le_refl _⟩,⟨bl⟩⟩
        ·(first|rw[D2]|(simp only[i64_w,i32_w];rw[D2])|skip);have H':=qa H;clear H
         go_wp2_with(first|(refine gd 61 Tryz.func107 (impl_numberOk.calls p1 true _ C2.out) fun nd=>?_))
         go_meet
         case rel=>exact⟨_,(false),(sd),H',⟨by have:=v2.out;first|omega|exact Nat.le_refl _⟩,⟨bl⟩⟩
       ·have H':=qa H;clear H
        go_wp2_with(first|(refine gd 61 Tryz.func107 (impl_numberOk.calls p1 false _ C2.out) fun nd=>?_))
        go_meet
        case rel=>exact⟨_,(true),(sd),H',⟨by have:=v2.out;first|omega|exact Nat.le_refl _⟩,⟨bl⟩⟩
      case rest=>
       clear x2;obtain⟨kq,A2,rfl,HA,J2,HB⟩:=hcut;obtain⟨K2,rfl,H⟩:=kz kq HA;clear HA;simp only[impl_answer.j1]at H;replace H:=qc H;obtain⟨rfl,H⟩|⟨rfl,H⟩:=H
       ·obtain rfl:=sj H;go_wp2;go_ret;exact⟨er,bl⟩
       ·replace H:=qq H;obtain⟨L2,M2,H⟩|⟨N2,L2,M2,H⟩:=H
        ·obtain⟨P2,Q2⟩:∃j_:Int,(wrap64 (p1-1))=j_:=⟨_,rfl⟩;(first|rw[Q2]at H|(try simp only[Q2]at H));have R2:(IntKind.i64.wrap (p1-1))=P2:=(i64_w _).trans Q2;replace H:=qd H;obtain⟨U2,H⟩:=H;replace H:=qd H;obtain⟨V2,H⟩:=H;replace H:=qb H;obtain⟨W2,X2,H⟩:=H;obtain rfl:=sj H;obtain⟨Y2,⟨⟩,a3,b3,c3⟩:=ai n0.out (P2);(try replace a3:=(HB.out.cell (World.block_lt_of_cell? w _ a3)).trans a3)
         go_wp2_with(first|((with_reducible refine gate_callee (f:=77) rfl ?_);refine goesL_ (some 79) rfl rfl Tryz.func77 kr_ rfl #[.int .i64 (rd c0 (P2))] rfl (by(try simp only[List.map_toArray,List.map_cons,List.map_nil]);first|done|(simp only[Q2];rfl)|rfl|(simp only[List.length_drop,List.length_take];rfl)) ?_;(with_reducible refine(strconv_Itoa.calls (rd c0 (P2)) W2 _ X2.out ?G0).mono ?_);(case G0=>exact GL_below hG_ (bl));rintro e d3 ⟨rfl,hb⟩;refine⟨_,rfl,?_⟩;replace HB:=bs hb))
         go_ret;exact⟨by first|rfl|(simp[errW_none,errW_some];exact⟨rfl,rfl⟩)|(simp[errW_none,errW_some] <;> rfl)|(simp only[←Q2];first|rfl|(simp[errW_none,errW_some] <;> rfl))|(simp[*,errW_none,errW_some] <;> rfl),bl⟩
        ·replace H:=qq H;obtain⟨e3,g3,H⟩|⟨j3,e3,g3,H⟩:=H
         ·replace H:=qb H;obtain⟨l3,n3,H⟩:=H;obtain rfl:=sj H
          go_wp2_with(first|(refine gb 83 Tryz.func108 (impl_FactorText.calls K2 p1 l3 _ n3.out (GL_below hG_ (bl))) fun p3 hb=>?_;replace HB:=bs hb))
          go_ret;exact⟨er,bl⟩
         ·replace H:=qq H;obtain⟨q3,r3,H⟩|⟨s3,q3,r3,H⟩:=H
          ·replace H:=qb H;obtain⟨t3,v3,H⟩:=H;replace H:=qb H;obtain⟨w3,x3,H⟩:=H;obtain rfl:=sj H
           go_wp2_with(first|(refine ge_ 87 Tryz.func109 (impl_divisors.calls K2 p1 t3 _ v3.out) fun y3 A3 B3 hb=>?_;have C3:=qa (Kd.R_lower B3 (below_size (bl)));replace HB:=bs hb;obtain⟨D3,E3,rfl⟩:=Kd.R_slice C3.out)|(refine gb 88 Tryz.func102 (impl_rowText.calls K2 _ _ t3 w3 _ (cx (Kd.R_reads' C3.out).2.2) ((Kd.R_reads' C3.out).2.1) x3.out (GL_below hG_ (bl))) fun G3 hb=>?_;replace C3:=qa (Kd.R_below (kR C3) hb);replace HB:=bs hb))
           go_ret;exact⟨er,bl⟩
          ·replace H:=qq H;obtain⟨J3,K3,H⟩|⟨L3,J3,K3,H⟩:=H
           ·replace H:=qb H;obtain⟨M3,N3,H⟩:=H;replace H:=qb H;obtain⟨P3,Q3,H⟩:=H;obtain rfl:=sj H
            go_wp2_with(first|(refine ge_ 92 Tryz.func110 (impl_WayFrom.calls K2 p1 M3 _ N3.out) fun R3 U3 B3 hb=>?_;have V3:=qa (Kd.R_lower B3 (below_size (bl)));replace HB:=bs hb;obtain⟨W3,X3,rfl⟩:=Kd.R_slice V3.out)|(refine gb 93 Tryz.func102 (impl_rowText.calls K2 _ _ M3 P3 _ (cx (Kd.R_reads' V3.out).2.2) ((Kd.R_reads' V3.out).2.1) Q3.out (GL_below hG_ (bl))) fun Y3 hb=>?_;replace V3:=qa (Kd.R_below (kR V3) hb);replace HB:=bs hb))
            go_ret;exact⟨er,bl⟩
           ·replace H:=qq H;obtain⟨a4,b4,H⟩|⟨c4,a4,b4,H⟩:=H
            ·replace H:=qb H;obtain⟨d4,e4,H⟩:=H;replace H:=qb H;obtain⟨g4,j4,H⟩:=H;obtain rfl:=sj H
             go_wp2_with(first|(refine gb 97 Tryz.func111 (impl_AllSum.calls K2 p1 d4 _ e4.out) fun l4 hb=>?_;replace HB:=bs hb)|(refine gb 98 Tryz.func77 (strconv_Itoa.calls d4 g4 _ j4.out (GL_below hG_ (bl))) fun n4 hb=>?_;replace HB:=bs hb))
             go_ret;exact⟨er,bl⟩
            ·replace H:=qq H;obtain⟨p4,q4,H⟩|⟨r4,p4,q4,H⟩:=H
             ·replace H:=qs H;obtain⟨s4,t4,H⟩:=H;replace H:=qb H;obtain⟨v4,w4,H⟩:=H;obtain⟨x4,y4⟩:∃j_:Int,(wrap64 (v4+1))=j_:=⟨_,rfl⟩;(first|rw[y4]at H|(try simp only[y4]at H));(try rw[y4]at w4);have A4:(IntKind.i64.wrap (v4+1))=x4:=(i64_w _).trans y4;replace H:=qd H;obtain⟨B4,H⟩:=H;replace H:=qd H;obtain⟨C4,H⟩:=H;obtain rfl:=sj H
              go_wp2_with(first|(refine rls 9 101 t4.out fun D4 E4 G4 hb=>?_;have J4:=qa (Kd.R_lower G4 (below_size (bl)));replace HB:=bs hb;clear hb G4)|(refine gb 103 Tryz.func112 (impl_KindOf.calls K2 p1 v4 _ w4.out) fun K4 hb=>?_;replace J4:=qa (Kd.R_below (kR J4) hb);replace HB:=bs hb;obtain⟨L4,M4,rfl⟩:=Kd.R_slice J4.out;obtain⟨N4,⟨⟩,P4,Q4,R4⟩:=as_ (Kd.R_reads' J4.out).2.2 (x4)))
              go_ret;exact⟨by first|rfl|(simp[errW_none,errW_some];exact⟨rfl,rfl⟩)|(simp[errW_none,errW_some] <;> rfl)|(simp only[←y4];first|rfl|(simp[errW_none,errW_some] <;> rfl))|(simp[*,errW_none,errW_some] <;> rfl),bl⟩
             ·replace H:=qq H;obtain⟨U4,V4,H⟩|⟨W4,U4,V4,H⟩:=H
              ·replace H:=qb H;obtain⟨X4,Y4,H⟩:=H;replace H:=qb H;obtain⟨a5,b5,H⟩:=H;obtain rfl:=sj H
               go_wp2_with(first|(refine gb 110 Tryz.func113 (impl_phi.calls K2 p1 X4 _ Y4.out) fun c5 hb=>?_;replace HB:=bs hb)|(refine gb 111 Tryz.func77 (strconv_Itoa.calls X4 a5 _ b5.out (GL_below hG_ (bl))) fun d5 hb=>?_;replace HB:=bs hb))
               go_ret;exact⟨er,bl⟩
              ·replace H:=qb H;obtain⟨e5,g5,H⟩:=H;replace H:=qb H;obtain⟨j5,l5,H⟩:=H;obtain rfl:=sj H
               go_wp2_with(first|(refine gb 113 Tryz.func114 (impl_ByDivisors.calls K2 p1 e5 _ g5.out) fun n5 hb=>?_;replace HB:=bs hb)|(refine gb 114 Tryz.func77 (strconv_Itoa.calls e5 j5 _ l5.out (GL_below hG_ (bl))) fun p5 hb=>?_;replace HB:=bs hb))
               go_ret;exact⟨er,bl⟩
def impl_DeskLine.f (k:Nat) (a0:List Int) (b0:List (List Int)) (c0:ByteArray):Option (List Int×(List (List Int))×ByteArray):=(impl_DeskOk.f k a0 b0).bind fun d0=>(if d0=true then((impl_ReadDeed.f k c0).bind fun e0=>(if e0.2.2.2=true then((impl_DeskDo.f k a0 b0 e0.1 e0.2.1 e0.2.2.1).bind fun g0=>(if g0.2.2=true then(some (g0.1,g0.2.1,(⟨#[111,107]⟩:ByteArray)))else(some (g0.1,g0.2.1,(⟨#[110,111,116]⟩:ByteArray)))))else((impl_copyDesk.f k a0 b0).bind fun j0=>((impl_answer.f k a0 c0).bind fun l0=>(some (j0.1,j0.2,l0))))))else(some (([]:List Int),([]:List (List Int)),(⟨#[]⟩:ByteArray))))
def impl_DeskLine.T9:Bool×List (List Nat×List Nat):=(true,[([],[]),([0],[0]),([],[]),([2],[2]),([],[]),([3,4,1],[3,4]),([1,5,0,1],[1]),([5,6,0,1,2,3,4,5,6],[5])])
def impl_DeskLine.B9:List Nat:=[0,1,0,4,0,31,63,127]
theorem impl_DeskLine.tab9:rtab .any (opsOf Tryz.f11 9)=impl_DeskLine.T9:=by kernel_rfl
theorem impl_DeskLine.bits9:waitsOk impl_DeskLine.T9.2 impl_DeskLine.B9=true:=by kernel_rfl
theorem impl_DeskLine.calls (k:Nat) (a0:Option Addr) (b0:Nat) (c0:List Int) (d0:Option Addr) (e0:Nat) (g0:List (List Int)) (j0:ByteArray) (l0:List Int) (n0:List (List Int)) (p0:ByteArray) (w:World) (q0:Kd.C (Kd.int .i64) w a0 c0.length c0) (r0:c0.length≤b0) (s0:Kd.C (Kd.slice 3 (Kd.int .i64)) w d0 g0.length g0) (t0:g0.length≤e0) (h:impl_DeskLine.f k c0 g0 j0=some (l0,n0,p0)) (hG_:GL w):
  Calls Tryz.prog 11 #[.agg #[.slice a0 c0.length b0,.slice d0 g0.length e0],.string j0] w fun e w'=>∃v0_ v1_:Value,e= .returned (.tuple #[.agg #[v0_,v1_],.string p0])∧Kd.R (Kd.int .i64) 3 w' w.heap.size (fun _=>True) v0_ l0∧Kd.Q (Kd.slice 3 (Kd.int .i64)) 22 w' w.heap.size (fun k_=>some k_≠(v0_:Value).ownBlock) v1_ n0∧Below w.heap.size w w':=by
 have v0:=Tryz.underlying27;have w0:=Tryz.underlying55;have x0:=qa q0;have y0:=qa r0;clear q0 r0;have A0:=qa s0;have B0:=qa t0;clear s0 t0;have HB:=qa (Below.refl w.heap.size w);have H:=h;unfold impl_DeskLine.f at H;clear h;replace H:=qb H;obtain⟨C0,D0,H⟩:=H;replace H:=qc H;obtain⟨rfl,H⟩|⟨rfl,H⟩:=H
 ·replace H:=qb H;obtain⟨⟨E0,G0,J0,K0⟩,L0,H⟩:=H;(try dsimp only at H);replace H:=qc H;obtain⟨rfl,H⟩|⟨rfl,H⟩:=H
  ·replace H:=qb H;obtain⟨⟨M0,N0,P0⟩,Q0,H⟩:=H;(try dsimp only at H);replace H:=qc H;obtain⟨rfl,H⟩|⟨rfl,H⟩:=H
   ·simp only[Option.some.injEq,Prod.mk.injEq]at H;obtain⟨rfl,rfl,rfl⟩:=H
    go_enter Tryz.func11,Tryz.ntmps11
    go_wp2_with(first|(refine bx 2 #[.slice a0 c0.length b0,.slice d0 g0.length e0] 27 ?_;intro R0 hg U0 hbox hb;have V0:=qa (hbox);have W0:=gw hg;have X0:=gw hg;replace HB:=bs hb;clear hb hbox hg)|(refine bx 4 #[.slice none 0 0,.slice none 0 0] 27 ?_;intro Y0 hg a1 hbox hb;have b1:=qa (hbox);have c1:=gw hg;have d1:=gw hg;replace HB:=bs hb;have e1:=qnl hg V0;have g1:=qng hg V0;replace V0:=qbb V0 hb;clear hb hbox hg;have j1:=e1.out;have l1:=g1.out;obtain⟨n1,p1,q1,r1⟩:=qk2 V0)|(refine gb 11 Tryz.func37 (impl_DeskOk.calls k _ _ c0 _ _ g0 true _ (cx (Kd.C_below x0.out HB.out)) y0.out (cx (Kd.C_below A0.out HB.out)) B0.out D0.out) fun s1 hb=>?_;replace V0:=qbb V0 hb;replace b1:=qbb b1 hb;replace HB:=bs hb)|(refine gb 16 Tryz.func52 (impl_ReadDeed.calls k j0 E0 G0 J0 true _ L0.out (GL_below hG_ (bl))) fun t1 hb=>?_;replace V0:=qbb V0 hb;replace b1:=qbb b1 hb;replace HB:=bs hb)|(refine bx 6 #[.int .i64 0,.int .i64 0,.int .i64 0] 55 ?_;intro v1 hg w1 hbox hb;have x1:=qa (hbox);have y1:=gw hg;have A1:=gw hg;replace HB:=bs hb;have B1:=qnl hg V0;have C1:=qng hg V0;replace V0:=qbb V0 hb;have D1:=qnl hg b1;have E1:=qng hg b1;replace b1:=qbb b1 hb;clear hb hbox hg;have G1:=C1.out;have J1:=B1.out;have K1:=E1.out;have L1:=D1.out;obtain⟨M1,N1,P1,Q1,R1,U1⟩:=qk3 x1;obtain⟨V1,W1,X1,Y1⟩:=qk2 V0)|(refine gol (some 23) Tryz.func53 #[.agg #[.slice a0 c0.length b0,.slice d0 g0.length e0],.agg #[.int .i64 E0,.int .i64 G0,.int .i64 J0]] ?_;(with_reducible refine(impl_DeskDo.calls k _ _ c0 _ _ g0 E0 G0 J0 M0 N0 true _ ?a2 ?b2 ?c2 ?d2 Q0.out).mono ?_);(case a2=>exact Kd.C_below x0.out (bl));(case b2=>exact y0.out);(case c2=>exact Kd.C_below A0.out (bl));(case d2=>exact B0.out);rintro e e2 ⟨g2,j2,rfl,l2,n2,hb⟩;refine⟨_,rfl,?_⟩;have p2:=qa (Kd.R_lower l2 (below_size (bl)));have q2:=qa (Kd.Q_lower n2 (below_size (bl)));replace V0:=qbb V0 hb;replace b1:=qbb b1 hb;replace x1:=qa (blk_below (g:=v1) (o:= .cells #[.int .i64 E0,.int .i64 G0,.int .i64 J0] 55 (0,0)) (kP x1) hb);replace HB:=bs hb)|(refine bx 8 #[.slice none 0 0,.slice none 0 0] 27 ?_;intro r2 hg s2 hbox hb;replace p2:=qa (Kd.R_below (kR p2) hb);replace q2:=qa (Kd.Q_below (kQ q2) hb);have t2:=qa (hbox);have v2:=gw hg;have w2:=gw hg;replace HB:=bs hb;have x2:=qnl hg V0;have y2:=qng hg V0;replace V0:=qbb V0 hb;have A2:=qnl hg b1;have B2:=qng hg b1;replace b1:=qbb b1 hb;have C2:=qnl hg x1;have D2:=qng hg x1;replace x1:=qbb x1 hb;clear hb hbox hg;obtain⟨E2,G2,rfl⟩:=Kd.R_slice p2.out;have J2:=y2.out;have K2:=x2.out;have L2:=B2.out;have M2:=A2.out;have N2:=D2.out;have P2:=C2.out;obtain⟨Q2,R2,U2,V2⟩:=qk2 t2;obtain⟨W2,X2,Y2,_⟩:=Kd.Q_slice q2.out;subst Y2;obtain⟨a3,b3,c3,d3⟩:=qk2 b1))
    refine bodyPost_ret (results_ct rfl _ _ Y0 27 #[.slice E2 M0.length G2,.slice W2 N0.length X2] (0,0) _ rfl (by(with_reducible repeat(first|refine blk_drewN ?_ _|refine blk_drew ?_|refine blk_alloc ?_ _));refine blk_put (cs:=#[.slice E2 M0.length G2,.slice none 0 0]) ?_ 1 _ rfl;(with_reducible repeat(first|refine blk_drewN ?_ _|refine blk_drew ?_|refine blk_alloc ?_ _));refine blk_put (cs:=#[.slice none 0 0,.slice none 0 0]) ?_ 0 _ rfl;(with_reducible repeat(first|refine blk_drewN ?_ _|refine blk_drew ?_|refine blk_alloc ?_ _));refine blk_far ?_ A2.out _;(with_reducible repeat(first|refine blk_drewN ?_ _|refine blk_drew ?_|refine blk_alloc ?_ _));refine blk_far ?_ A2.out _;(with_reducible repeat(first|refine blk_drewN ?_ _|refine blk_drew ?_|refine blk_alloc ?_ _));exact b1.out) Tryz.underlying27 rfl kr_) rfl ?_;exact⟨_,_,er,kGR p2.out t2 b1 (fun _ hk=>trivial),kGQ q2.out t2 b1 (fun _ hk=>hk.1.1),bl⟩
   ·simp only[Option.some.injEq,Prod.mk.injEq]at H;obtain⟨rfl,rfl,rfl⟩:=H
    go_enter Tryz.func11,Tryz.ntmps11
    go_wp2_with(first|(refine bx 2 #[.slice a0 c0.length b0,.slice d0 g0.length e0] 27 ?_;intro R0 hg e3 hbox hb;have V0:=qa (hbox);have W0:=gw hg;have X0:=gw hg;replace HB:=bs hb;clear hb hbox hg)|(refine bx 4 #[.slice none 0 0,.slice none 0 0] 27 ?_;intro Y0 hg g3 hbox hb;have b1:=qa (hbox);have c1:=gw hg;have d1:=gw hg;replace HB:=bs hb;have e1:=qnl hg V0;have g1:=qng hg V0;replace V0:=qbb V0 hb;clear hb hbox hg;have j3:=e1.out;have l3:=g1.out;obtain⟨n3,p3,q3,r3⟩:=qk2 V0)|(refine gb 11 Tryz.func37 (impl_DeskOk.calls k _ _ c0 _ _ g0 true _ (cx (Kd.C_below x0.out HB.out)) y0.out (cx (Kd.C_below A0.out HB.out)) B0.out D0.out) fun s3 hb=>?_;replace V0:=qbb V0 hb;replace b1:=qbb b1 hb;replace HB:=bs hb)|(refine gb 16 Tryz.func52 (impl_ReadDeed.calls k j0 E0 G0 J0 true _ L0.out (GL_below hG_ (bl))) fun t3 hb=>?_;replace V0:=qbb V0 hb;replace b1:=qbb b1 hb;replace HB:=bs hb)|(refine bx 6 #[.int .i64 0,.int .i64 0,.int .i64 0] 55 ?_;intro v1 hg v3 hbox hb;have x1:=qa (hbox);have y1:=gw hg;have A1:=gw hg;replace HB:=bs hb;have B1:=qnl hg V0;have C1:=qng hg V0;replace V0:=qbb V0 hb;have D1:=qnl hg b1;have E1:=qng hg b1;replace b1:=qbb b1 hb;clear hb hbox hg;have w3:=C1.out;have x3:=B1.out;have y3:=E1.out;have A3:=D1.out;obtain⟨B3,C3,D3,E3,G3,J3⟩:=qk3 x1;obtain⟨K3,L3,M3,N3⟩:=qk2 V0)|(refine gol (some 23) Tryz.func53 #[.agg #[.slice a0 c0.length b0,.slice d0 g0.length e0],.agg #[.int .i64 E0,.int .i64 G0,.int .i64 J0]] ?_;(with_reducible refine(impl_DeskDo.calls k _ _ c0 _ _ g0 E0 G0 J0 M0 N0 false _ ?a2 ?b2 ?c2 ?d2 Q0.out).mono ?_);(case a2=>exact Kd.C_below x0.out (bl));(case b2=>exact y0.out);(case c2=>exact Kd.C_below A0.out (bl));(case d2=>exact B0.out);rintro e P3 ⟨g2,j2,rfl,l2,n2,hb⟩;refine⟨_,rfl,?_⟩;have p2:=qa (Kd.R_lower l2 (below_size (bl)));have q2:=qa (Kd.Q_lower n2 (below_size (bl)));replace V0:=qbb V0 hb;replace b1:=qbb b1 hb;replace x1:=qa (blk_below (g:=v1) (o:= .cells #[.int .i64 E0,.int .i64 G0,.int .i64 J0] 55 (0,0)) (kP x1) hb);replace HB:=bs hb)|(refine bx 8 #[.slice none 0 0,.slice none 0 0] 27 ?_;intro r2 hg Q3 hbox hb;replace p2:=qa (Kd.R_below (kR p2) hb);replace q2:=qa (Kd.Q_below (kQ q2) hb);have t2:=qa (hbox);have v2:=gw hg;have w2:=gw hg;replace HB:=bs hb;have x2:=qnl hg V0;have y2:=qng hg V0;replace V0:=qbb V0 hb;have A2:=qnl hg b1;have B2:=qng hg b1;replace b1:=qbb b1 hb;have C2:=qnl hg x1;have D2:=qng hg x1;replace x1:=qbb x1 hb;clear hb hbox hg;obtain⟨R3,U3,rfl⟩:=Kd.R_slice p2.out;have V3:=y2.out;have W3:=x2.out;have X3:=B2.out;have Y3:=A2.out;have a4:=D2.out;have b4:=C2.out;obtain⟨c4,d4,e4,g4⟩:=qk2 t2;obtain⟨j4,l4,n4,_⟩:=Kd.Q_slice q2.out;subst n4;obtain⟨p4,q4,r4,s4⟩:=qk2 b1))
    refine bodyPost_ret (results_ct rfl _ _ Y0 27 #[.slice R3 M0.length U3,.slice j4 N0.length l4] (0,0) _ rfl (by(with_reducible repeat(first|refine blk_drewN ?_ _|refine blk_drew ?_|refine blk_alloc ?_ _));refine blk_put (cs:=#[.slice R3 M0.length U3,.slice none 0 0]) ?_ 1 _ rfl;(with_reducible repeat(first|refine blk_drewN ?_ _|refine blk_drew ?_|refine blk_alloc ?_ _));refine blk_put (cs:=#[.slice none 0 0,.slice none 0 0]) ?_ 0 _ rfl;(with_reducible repeat(first|refine blk_drewN ?_ _|refine blk_drew ?_|refine blk_alloc ?_ _));refine blk_far ?_ A2.out _;(with_reducible repeat(first|refine blk_drewN ?_ _|refine blk_drew ?_|refine blk_alloc ?_ _));refine blk_far ?_ A2.out _;(with_reducible repeat(first|refine blk_drewN ?_ _|refine blk_drew ?_|refine blk_alloc ?_ _));exact b1.out) Tryz.underlying27 rfl kr_) rfl ?_;exact⟨_,_,er,kGR p2.out t2 b1 (fun _ hk=>trivial),kGQ q2.out t2 b1 (fun _ hk=>hk.1.1),bl⟩
  ·replace H:=qb H;obtain⟨⟨t4,v4⟩,w4,H⟩:=H;(try dsimp only at H);replace H:=qb H;obtain⟨x4,y4,H⟩:=H;simp only[Option.some.injEq,Prod.mk.injEq]at H;obtain⟨rfl,rfl,rfl⟩:=H
   go_enter Tryz.func11,Tryz.ntmps11
   try go_wp2_with(first|(refine bx 2 #[.slice a0 c0.length b0,.slice d0 g0.length e0] 27 ?_;intro R0 hg A4 hbox hb;have V0:=qa (hbox);have W0:=gw hg;have X0:=gw hg;replace HB:=bs hb;clear hb hbox hg)|(refine bx 4 #[.slice none 0 0,.slice none 0 0] 27 ?_;intro Y0 hg B4 hbox hb;have b1:=qa (hbox);have c1:=gw hg;have d1:=gw hg;replace HB:=bs hb;have e1:=qnl hg V0;have g1:=qng hg V0;replace V0:=qbb V0 hb;clear hb hbox hg;have C4:=e1.out;have D4:=g1.out;obtain⟨E4,G4,J4,K4⟩:=qk2 V0)|(refine gb 11 Tryz.func37 (impl_DeskOk.calls k _ _ c0 _ _ g0 true _ (cx (Kd.C_below x0.out HB.out)) y0.out (cx (Kd.C_below A0.out HB.out)) B0.out D0.out) fun L4 hb=>?_;replace V0:=qbb V0 hb;replace b1:=qbb b1 hb;replace HB:=bs hb)|(refine gb 16 Tryz.func52 (impl_ReadDeed.calls k j0 E0 G0 J0 false _ L0.out (GL_below hG_ (bl))) fun M4 hb=>?_;replace V0:=qbb V0 hb;replace b1:=qbb b1 hb;replace HB:=bs hb)|(refine bx 6 #[.int .i64 0,.int .i64 0,.int .i64 0] 55 ?_;intro v1 hg N4 hbox hb;have x1:=qa (hbox);have y1:=gw hg;have A1:=gw hg;replace HB:=bs hb;have B1:=qnl hg V0;have C1:=qng hg V0;replace V0:=qbb V0 hb;have D1:=qnl hg b1;have E1:=qng hg b1;replace b1:=qbb b1 hb;clear hb hbox hg;have P4:=C1.out;have Q4:=B1.out;have R4:=E1.out;have U4:=D1.out;obtain⟨V4,W4,X4,Y4,a5,b5⟩:=qk3 x1))
   have n0_:Aside0 ((((N4.setCell ⟨v1,0,none⟩ (.int .i64 E0)).setCell ⟨v1,1,none⟩ (.int .i64 G0)).setCell ⟨v1,2,none⟩ (.int .i64 J0)).heap[R0]? =some (.cells #[.slice a0 c0.length b0,.slice d0 g0.length e0] 27 (0,0))):=⟨kb V0⟩;have n1_:Aside0 ((((N4.setCell ⟨v1,0,none⟩ (.int .i64 E0)).setCell ⟨v1,1,none⟩ (.int .i64 G0)).setCell ⟨v1,2,none⟩ (.int .i64 J0)).heap[Y0]? =some (.cells #[.slice none 0 0,.slice none 0 0] 27 (0,0))):=⟨kb b1⟩;have n2_:Aside0 ((((N4.setCell ⟨v1,0,none⟩ (.int .i64 E0)).setCell ⟨v1,1,none⟩ (.int .i64 G0)).setCell ⟨v1,2,none⟩ (.int .i64 J0)).heap[v1]? =some (.cells #[.int .i64 E0,.int .i64 G0,.int .i64 J0] 55 (0,0))):=⟨kP x1⟩;have n3_:Aside0 (Below w.heap.size w (((N4.setCell ⟨v1,0,none⟩ (.int .i64 E0)).setCell ⟨v1,1,none⟩ (.int .i64 G0)).setCell ⟨v1,2,none⟩ (.int .i64 J0))):=⟨bl⟩;(try clear V0);(try clear b1);(try clear x1);(try clear HB);generalize (((N4.setCell ⟨v1,0,none⟩ (.int .i64 E0)).setCell ⟨v1,1,none⟩ (.int .i64 G0)).setCell ⟨v1,2,none⟩ (.int .i64 J0))=c5 at n0_ n1_ n2_ n3_ ⊢;have V0:=n0_;have b1:=n1_;have x1:=n2_;have HB:=n3_;clear n0_ n1_ n2_ n3_;replace V0:=qa (blk_drew V0.out);replace b1:=qa (blk_drew b1.out);replace x1:=qa (blk_drew x1.out);replace HB:=qa (below_drew1 HB.out);refine start_ (n:=8) (S:=fun w'=>w'.cell? ⟨R0,0,none⟩=some (.slice a0 c0.length b0)∧w'.cell? ⟨R0,1,none⟩=some (.slice d0 g0.length e0)) (ds:=[]) _ kr_ rfl rfl ⟨(blk_cell V0.out 0).trans rfl,(blk_cell V0.out 1).trans rfl⟩ (fun hHeld=>?_);refine with_tabW impl_DeskLine.tab9 impl_DeskLine.bits9 (fun HT_ HW_=>?_);generalize c5.drew=d5 at V0 b1 x1 HB hHeld ⊢;refine pur 2 32 (bz 8 4) HT_ ?_;refine pur 4 34 (bz 8 20) HT_ ?_;refine tk 0 30 (bz 8 21) hHeld (take_ofW HT_.out HW_.out kr_) ?_;refine tk 3 33 (bz 8 29) hHeld (take_ofW HT_.out HW_.out kr_) ?_;(refine o1 1 (some 31) (bz 8 31) (one_of HT_.out kr_) fun K hK=>?_);refine goes_ Tryz.func54 kr_ rfl #[.agg #[.slice a0 c0.length b0,.slice d0 g0.length e0]] (by rfl) rfl rfl am ?_
   with_reducible refine(impl_copyDesk.calls k _ _ c0 _ _ g0 t4 v4 _ ?a2 ?b2 ?c2 ?d2 w4.out).mono ?_
   (case a2=>exact cx (Kd.C_below x0.out HB.out));(case b2=>exact y0.out);(case c2=>exact cx (Kd.C_below A0.out HB.out));(case d2=>exact B0.out);rintro e e5 ⟨g5,j5,rfl,l2,n2,hb⟩;refine⟨_,rfl,?_⟩;have l5:=qa (Kd.R_lower l2 (below_size (bl)));have n5:=qa (Kd.S_lower n2 (below_size (bl)));replace V0:=qbb V0 hb;replace b1:=qbb b1 hb;replace x1:=qbb x1 hb;replace HB:=bs hb;(try clear hb);(try clear p5);(try clear hk);(try clear hi);(try clear l2);(try clear n2);refine hK.out _ _ ⟨(blk_cell V0.out 0).trans rfl,(blk_cell V0.out 1).trans rfl⟩ (fun hHeld=>?_);clear hK K;refine nm 31 ?_;(refine o1 5 (some 35) (bz 8 63) (one_of HT_.out kr_) fun K hK=>?_);(refine gsb Tryz.func55 (impl_answer.calls k _ _ c0 j0 x4 _ (cx (Kd.C_below x0.out HB.out)) y0.out y4.out (GL_below hG_ (bl))) fun q5 hb=>?_);replace l5:=qa (Kd.R_below (kR l5) hb);replace n5:=qa (Kd.S_below (kS n5) hb);replace V0:=qbb V0 hb;replace b1:=qbb b1 hb;replace x1:=qbb x1 hb;replace HB:=bs hb;(try clear hb);(try clear p5);(try clear hk);(try clear hi);obtain⟨r5,s5,t5⟩:=Kd.R_slice l5.out;(first|subst t5|(injection t5 with f1_ f2_ f3_;have f4_:=f1_.symm;have f5_:=f3_.symm;clear f1_ f2_ f3_;subst f4_;subst f5_));obtain⟨v5,w5,x5⟩:=Kd.S_slice n5.out;(first|subst x5|(injection x5 with f1_ f2_ f3_;have f4_:=f1_.symm;have f5_:=f3_.symm;clear f1_ f2_ f3_;subst f4_;subst f5_));refine hK.out _ _ ⟨(blk_cell V0.out 0).trans rfl,(blk_cell V0.out 1).trans rfl⟩ (fun hHeld=>?_);clear hK K;refine nm 35 ?_;(refine o1 6 none (bz 8 127) (one_of HT_.out kr_) fun K hK=>?_);have y5:q5.cell? ⟨Y0,0,none⟩=some (.slice none 0 0):=(blk_cell b1.out 0).trans rfl;have A5:=blk_frozen b1.out 0;have B5:=e1.out;have C5:=E1.out;have D5:=g1.out;have E5:=D1.out;have G5:q5.cell? ⟨Y0,1,none⟩=some (.slice none 0 0):=(blk_cell b1.out 1).trans rfl;have J5:=blk_frozen b1.out 1;have K5:=e1.out;have L5:=E1.out;have M5:=g1.out;have N5:=D1.out;refine skip_ (w1:=?_) (by rfl) rfl ?_ ?_;rotate_left
   ·go_simp
    rfl
   refine hK.out _ _ ⟨((cell_far (p:=⟨Y0,_,none⟩) e1.out _).trans (((cell_far (p:=⟨Y0,_,none⟩) e1.out _).trans (hHeld.1)))),((cell_far (p:=⟨Y0,_,none⟩) e1.out _).trans (((cell_far (p:=⟨Y0,_,none⟩) e1.out _).trans (hHeld.2))))⟩ (fun hHeld=>?_);clear hK K;refine pur 7 5 (bz 8 255) HT_ ?_;refine done_ (done_of HT_.out kr_) ?_
   try go_wp2
   refine bodyPost_ret (results_ct rfl _ _ Y0 27 #[.slice r5 t4.length s5,.slice v5 v4.length w5] (0,0) _ rfl (kP b1) Tryz.underlying27 rfl kr_) rfl ?_;exact⟨_,_,er,kFR l5 b1 (fun _ hk=>trivial),Kd.Q_of_R ((Kd.S_R (kFS n5 b1 (fun _ hk=>hk.1)))),bl⟩
 ·simp only[Option.some.injEq,Prod.mk.injEq]at H;obtain⟨rfl,rfl,rfl⟩:=H
  go_enter Tryz.func11,Tryz.ntmps11
  go_wp2_with(first|(refine bx 2 #[.slice a0 c0.length b0,.slice d0 g0.length e0] 27 ?_;intro R0 hg P5 hbox hb;have V0:=qa (hbox);have W0:=gw hg;have X0:=gw hg;replace HB:=bs hb;clear hb hbox hg)|(refine bx 4 #[.slice none 0 0,.slice none 0 0] 27 ?_;intro Y0 hg Q5 hbox hb;have b1:=qa (hbox);have c1:=gw hg;have d1:=gw hg;replace HB:=bs hb;have e1:=qnl hg V0;have g1:=qng hg V0;replace V0:=qbb V0 hb;clear hb hbox hg;have R5:=e1.out;have U5:=g1.out;obtain⟨V5,W5,X5,Y5⟩:=qk2 V0)|(refine gb 11 Tryz.func37 (impl_DeskOk.calls k _ _ c0 _ _ g0 false _ (cx (Kd.C_below x0.out HB.out)) y0.out (cx (Kd.C_below A0.out HB.out)) B0.out D0.out) fun a6 hb=>?_;replace V0:=qbb V0 hb;replace b1:=qbb b1 hb;replace HB:=bs hb;obtain⟨b6,c6,d6,e6⟩:=qk2 b1))
  refine bodyPost_ret (results_ct rfl _ _ Y0 27 #[.slice none 0 0,.slice none 0 0] (0,0) _ rfl (kP b1) Tryz.underlying27 rfl kr_) rfl ?_;exact⟨_,_,er,z2_,Kd.Q_of_R ((Kd.S_R z4_)),bl⟩

def laws_sameInts.l0:Nat→List Int→List Int→Int→Option (Bool)
 |0,_,_,_=>none
 |k+1,a0,b0,c0=>if c0<(a0.length:Int)then(if 0≤c0 then(if c0<(b0.length:Int)then(if(rd a0 c0)=(rd b0 c0)then(laws_sameInts.l0 k a0 b0 (wrap64 (c0+1)))else(some false))else(none))else(none))else(some true)
def laws_sameInts.f (k:Nat) (a0:List Int) (b0:List Int):Option (Bool):=if(a0.length:Int)=(b0.length:Int)then(laws_sameInts.l0 k a0 b0 0)else(some false)
theorem laws_sameInts.calls (k:Nat) (a0:Option Addr) (b0:Nat) (c0:List Int) (d0:Option Addr) (e0:Nat) (g0:List Int) (r:Bool) (w:World) (j0:Kd.C (Kd.int .i64) w a0 c0.length c0) (n0:c0.length≤b0) (p0:Kd.C (Kd.int .i64) w d0 g0.length g0) (q0:g0.length≤e0) (h:laws_sameInts.f k c0 g0=some r):
  Calls Tryz.prog 67 #[.slice a0 c0.length b0,.slice d0 g0.length e0] w fun e w'=>e= .returned (.bool r)∧Drawn0 w w':=by
 have r0:=qa j0;have s0:=qa n0;clear j0 n0;have t0:=qa p0;have v0:=qa q0;clear p0 q0;have H:=h;unfold laws_sameInts.f at H;clear h
 by_cases w0:(c0.length:Int)=(g0.length:Int)
 ·rw[if_pos w0]at H;have x0:((c0.length:Int)==(g0.length:Int))=true:=beq_iff_eq.mpr w0;have y0:((c0.length:Int) != (g0.length:Int))=false:=bne_eq_false_iff_eq.mpr w0;(have A0:(c0.length==g0.length)=true:=by first|simpa using w0|(simp at w0 ⊢;omega));clear w0;have H':=qa H;clear H
  go_enter Tryz.func67,Tryz.ntmps67
  go_wp2
  repeat(go_quiet(fail);try go_wp2)
  go_loopg [5] k (fun kq B0 w'=>∃(C0:Int),B0= .int .i64 C0∧Aside0 (laws_sameInts.l0 kq c0 g0 C0=some r)∧Aside0 (kq≤k)∧Drawn0 w w')
  case atStart=>exact⟨(0),(sd),H',⟨Nat.le_refl _⟩,dr⟩
  case round=>
   clear H';obtain⟨C0,rfl,HA,HK1,⟨m1,rfl⟩⟩:=hrel;obtain⟨k1,rfl,H⟩:=kz gk HA;clear HA;simp only[laws_sameInts.l0]at H;replace H:=qe H;obtain⟨D0,H⟩|⟨D0,H⟩:=H
   ·replace H:=qd H;obtain⟨E0,H⟩:=H;replace H:=qd H;obtain⟨G0,H⟩:=H;replace H:=qq H;obtain⟨J0,K0,H⟩|⟨L0,J0,K0,H⟩:=H
    ·have H':=qa H;clear H;obtain⟨M0,⟨⟩,N0,P0,Q0⟩:=ai r0.out C0;obtain⟨R0,⟨⟩,U0,V0,W0⟩:=ai t0.out C0;go_wp2
     repeat(go_quiet(fail);try go_wp2)
     go_roundg k1
     case measure=>have:=HK1.out;omega
     case rel=>exact⟨(wrap64 (C0+1)),(sd),H',⟨by have:=HK1.out;omega⟩,dr⟩
    ·obtain rfl:=sj H;obtain⟨M0,⟨⟩,N0,P0,Q0⟩:=ai r0.out C0;obtain⟨R0,⟨⟩,U0,V0,W0⟩:=ai t0.out C0;go_wp2
     repeat(go_quiet(fail);try go_wp2)
     go_ret;exact⟨sd,dr⟩
   ·obtain rfl:=sj H;go_wp2
    repeat(go_quiet(fail);try go_wp2)
    go_ret;exact⟨sd,dr⟩
 ·rw[if_neg w0]at H;have x0:((c0.length:Int)==(g0.length:Int))=false:=beq_eq_false_iff_ne.mpr w0;have y0:((c0.length:Int) != (g0.length:Int))=true:=bne_iff_ne.mpr w0;(have A0:(c0.length==g0.length)=false:=by first|simpa using w0|(simp at w0 ⊢;omega));obtain rfl:=sj H
  go_enter Tryz.func67,Tryz.ntmps67
  go_wp2
  repeat(go_quiet(fail);try go_wp2)
  go_ret;exact⟨sd,dr⟩

def laws_sameRows.l0:Nat→List (List Int)→List (List Int)→Int→Option (Bool)
 |0,_,_,_=>none
 |k+1,a0,b0,c0=>if c0<(a0.length:Int)then(if 0≤c0 then(if c0<(b0.length:Int)then((laws_sameInts.f k (rd_L1 a0 c0) (rd_L1 b0 c0)).bind fun d0=>(if d0=true then(laws_sameRows.l0 k a0 b0 (wrap64 (c0+1)))else(some false)))else(none))else(none))else(some true)
def laws_sameRows.f (k:Nat) (a0:List (List Int)) (b0:List (List Int)):Option (Bool):=if(a0.length:Int)=(b0.length:Int)then(laws_sameRows.l0 k a0 b0 0)else(some false)
theorem laws_sameRows.calls (k:Nat) (a0:Option Addr) (b0:Nat) (c0:List (List Int)) (d0:Option Addr) (e0:Nat) (g0:List (List Int)) (r:Bool) (w:World) (j0:Kd.C (Kd.slice 3 (Kd.int .i64)) w a0 c0.length c0) (n0:c0.length≤b0) (p0:Kd.C (Kd.slice 3 (Kd.int .i64)) w d0 g0.length g0) (q0:g0.length≤e0) (h:laws_sameRows.f k c0 g0=some r):
  Calls Tryz.prog 68 #[.slice a0 c0.length b0,.slice d0 g0.length e0] w fun e w'=>e= .returned (.bool r)∧Drawn0 w w':=by
 have r0:=qa j0;have s0:=qa n0;clear j0 n0;have t0:=qa p0;have v0:=qa q0;clear p0 q0;have H:=h;unfold laws_sameRows.f at H;clear h
 by_cases w0:(c0.length:Int)=(g0.length:Int)
 ·rw[if_pos w0]at H;have x0:((c0.length:Int)==(g0.length:Int))=true:=beq_iff_eq.mpr w0;have y0:((c0.length:Int) != (g0.length:Int))=false:=bne_eq_false_iff_eq.mpr w0;(have A0:(c0.length==g0.length)=true:=by first|simpa using w0|(simp at w0 ⊢;omega));clear w0;have H':=qa H;clear H
  go_enter Tryz.func68,Tryz.ntmps68
  go_wp2
  repeat(go_quiet(fail);try go_wp2)
  go_loopg [5] k (fun kq B0 w'=>∃(C0:Int),B0= .int .i64 C0∧Aside0 (laws_sameRows.l0 kq c0 g0 C0=some r)∧Aside0 (kq≤k)∧Drawn0 w w')
  case atStart=>exact⟨(0),(sd),H',⟨Nat.le_refl _⟩,dr⟩
  case round=>
   clear H';obtain⟨C0,rfl,HA,HK1,⟨m1,rfl⟩⟩:=hrel;obtain⟨k1,rfl,H⟩:=kz gk HA;clear HA;simp only[laws_sameRows.l0]at H;replace H:=qe H;obtain⟨D0,H⟩|⟨D0,H⟩:=H
   ·replace H:=qd H;obtain⟨E0,H⟩:=H;replace H:=qd H;obtain⟨G0,H⟩:=H;replace H:=qb H;obtain⟨J0,K0,H⟩:=H;replace H:=qc H;obtain⟨rfl,H⟩|⟨rfl,H⟩:=H
    ·have H':=qa H;clear H;obtain⟨L0,M0,N0,⟨⟩,P0,Q0,R0,U0,V0⟩:=cg_L1 r0.out C0;obtain⟨W0,X0,Y0,⟨⟩,a1,b1,c1,d1,e1⟩:=cg_L1 t0.out C0
     go_wp2_with(first|(go_at_call 67;(with_reducible refine(laws_sameInts.calls k1 _ _ (rd_L1 c0 C0) _ _ (rd_L1 g0 C0) true _ ?g1 ?j1 ?l1 ?n1 K0.out).mono ?_);(case g1=>exact cx Q0.out);(case j1=>exact R0.out);(case l1=>exact cx b1.out);(case n1=>exact c1.out);rintro e w' ⟨rfl,⟨nd,rfl⟩⟩;(try exact dn)))
     repeat(go_quiet(first|(go_at_call 67;(with_reducible refine(laws_sameInts.calls k1 _ _ (rd_L1 c0 C0) _ _ (rd_L1 g0 C0) true _ ?g1 ?j1 ?l1 ?n1 K0.out).mono ?_);(case g1=>exact cx Q0.out);(case j1=>exact R0.out);(case l1=>exact cx b1.out);(case n1=>exact c1.out);rintro e w' ⟨rfl,⟨nd,rfl⟩⟩;(try exact dn)));try go_wp2_with(first|(go_at_call 67;(with_reducible refine(laws_sameInts.calls k1 _ _ (rd_L1 c0 C0) _ _ (rd_L1 g0 C0) true _ ?g1 ?j1 ?l1 ?n1 K0.out).mono ?_);(case g1=>exact cx Q0.out);(case j1=>exact R0.out);(case l1=>exact cx b1.out);(case n1=>exact c1.out);rintro e w' ⟨rfl,⟨nd,rfl⟩⟩;(try exact dn))))
     go_roundg k1
     case measure=>have:=HK1.out;omega
     case rel=>exact⟨(wrap64 (C0+1)),(sd),H',⟨by have:=HK1.out;omega⟩,dr⟩
    ·obtain rfl:=sj H;obtain⟨L0,M0,N0,⟨⟩,P0,Q0,R0,U0,V0⟩:=cg_L1 r0.out C0;obtain⟨W0,X0,Y0,⟨⟩,a1,b1,c1,d1,e1⟩:=cg_L1 t0.out C0
     go_wp2_with(first|(go_at_call 67;(with_reducible refine(laws_sameInts.calls k1 _ _ (rd_L1 c0 C0) _ _ (rd_L1 g0 C0) false _ ?g1 ?j1 ?l1 ?n1 K0.out).mono ?_);(case g1=>exact cx Q0.out);(case j1=>exact R0.out);(case l1=>exact cx b1.out);(case n1=>exact c1.out);rintro e w' ⟨rfl,⟨nd,rfl⟩⟩;(try exact dn)))
     repeat(go_quiet(first|(go_at_call 67;(with_reducible refine(laws_sameInts.calls k1 _ _ (rd_L1 c0 C0) _ _ (rd_L1 g0 C0) false _ ?g1 ?j1 ?l1 ?n1 K0.out).mono ?_);(case g1=>exact cx Q0.out);(case j1=>exact R0.out);(case l1=>exact cx b1.out);(case n1=>exact c1.out);rintro e w' ⟨rfl,⟨nd,rfl⟩⟩;(try exact dn)));try go_wp2_with(first|(go_at_call 67;(with_reducible refine(laws_sameInts.calls k1 _ _ (rd_L1 c0 C0) _ _ (rd_L1 g0 C0) false _ ?g1 ?j1 ?l1 ?n1 K0.out).mono ?_);(case g1=>exact cx Q0.out);(case j1=>exact R0.out);(case l1=>exact cx b1.out);(case n1=>exact c1.out);rintro e w' ⟨rfl,⟨nd,rfl⟩⟩;(try exact dn))))
     go_ret;exact⟨sd,dr⟩
   ·obtain rfl:=sj H;go_wp2
    repeat(go_quiet(fail);try go_wp2)
    go_ret;exact⟨sd,dr⟩
 ·rw[if_neg w0]at H;have x0:((c0.length:Int)==(g0.length:Int))=false:=beq_eq_false_iff_ne.mpr w0;have y0:((c0.length:Int) != (g0.length:Int))=true:=bne_iff_ne.mpr w0;(have A0:(c0.length==g0.length)=false:=by first|simpa using w0|(simp at w0 ⊢;omega));obtain rfl:=sj H
  go_enter Tryz.func68,Tryz.ntmps68
  go_wp2
  repeat(go_quiet(fail);try go_wp2)
  go_ret;exact⟨sd,dr⟩

def laws_sameDesk.f (k:Nat) (a0:List Int) (b0:List (List Int)) (c0:List Int) (d0:List (List Int)):Option (Bool):=(laws_sameInts.f k a0 c0).bind fun e0=>(if e0=true then((laws_sameRows.f k b0 d0).bind fun g0=>(some g0))else(some false))
theorem laws_sameDesk.calls (k:Nat) (a0:Option Addr) (b0:Nat) (c0:List Int) (d0:Option Addr) (e0:Nat) (g0:List (List Int)) (j0:Option Addr) (l0:Nat) (n0:List Int) (p0:Option Addr) (q0:Nat) (r0:List (List Int)) (r:Bool) (w:World) (s0:Kd.C (Kd.int .i64) w a0 c0.length c0) (t0:c0.length≤b0) (v0:Kd.C (Kd.slice 3 (Kd.int .i64)) w d0 g0.length g0) (w0:g0.length≤e0) (x0:Kd.C (Kd.int .i64) w j0 n0.length n0) (y0:n0.length≤l0) (A0:Kd.C (Kd.slice 3 (Kd.int .i64)) w p0 r0.length r0) (B0:r0.length≤q0) (h:laws_sameDesk.f k c0 g0 n0 r0=some r):
  Calls Tryz.prog 18 #[.agg #[.slice a0 c0.length b0,.slice d0 g0.length e0],.agg #[.slice j0 n0.length l0,.slice p0 r0.length q0]] w fun e w'=>e= .returned (.bool r)∧Below w.heap.size w w':=by
 have C0:=Tryz.underlying27;have D0:=qa s0;have E0:=qa t0;clear s0 t0;have G0:=qa v0;have J0:=qa w0;clear v0 w0;have K0:=qa x0;have L0:=qa y0;clear x0 y0;have M0:=qa A0;have N0:=qa B0;clear A0 B0;have HB:=qa (Below.refl w.heap.size w);have H:=h;unfold laws_sameDesk.f at H;clear h;replace H:=qb H;obtain⟨P0,Q0,H⟩:=H;replace H:=qc H;obtain⟨rfl,H⟩|⟨rfl,H⟩:=H
 ·replace H:=qb H;obtain⟨R0,U0,H⟩:=H;obtain rfl:=sj H
  go_enter Tryz.func18,Tryz.ntmps18
  go_wp2_with(first|(refine bx 2 #[.slice a0 c0.length b0,.slice d0 g0.length e0] 27 ?_;intro V0 hg W0 hbox hb;have X0:=qa (hbox);have Y0:=gw hg;have a1:=gw hg;replace HB:=bs hb;clear hb hbox hg)|(refine bx 3 #[.slice j0 n0.length l0,.slice p0 r0.length q0] 27 ?_;intro b1 hg c1 hbox hb;have d1:=qa (hbox);have e1:=gw hg;have g1:=gw hg;replace HB:=bs hb;have j1:=qnl hg X0;have l1:=qng hg X0;replace X0:=qbb X0 hb;clear hb hbox hg;have n1:=j1.out;have p1:=l1.out;obtain⟨q1,r1,s1,t1⟩:=qk2 X0;obtain⟨v1,w1,x1,y1⟩:=qk2 d1)|(refine gd 9 Tryz.func67 (laws_sameInts.calls k _ _ c0 _ _ n0 true _ (cx (Kd.C_below D0.out HB.out)) E0.out (cx (Kd.C_below K0.out HB.out)) L0.out Q0.out) fun nd=>?_)|(go_at_call 68;(with_reducible refine(laws_sameRows.calls k _ _ g0 _ _ r0 R0 _ ?A1 ?B1 ?C1 ?D1 U0.out).mono ?_);(case A1=>exact cx (Kd.C_below G0.out (bl)));(case B1=>exact J0.out);(case C1=>exact cx (Kd.C_below M0.out (bl)));(case D1=>exact N0.out);rintro e w' ⟨rfl,⟨nd,rfl⟩⟩))
  go_ret;exact⟨er,bl⟩
 ·obtain rfl:=sj H
  go_enter Tryz.func18,Tryz.ntmps18
  go_wp2_with(first|(refine bx 2 #[.slice a0 c0.length b0,.slice d0 g0.length e0] 27 ?_;intro V0 hg E1 hbox hb;have X0:=qa (hbox);have Y0:=gw hg;have a1:=gw hg;replace HB:=bs hb;clear hb hbox hg)|(refine bx 3 #[.slice j0 n0.length l0,.slice p0 r0.length q0] 27 ?_;intro b1 hg G1 hbox hb;have d1:=qa (hbox);have e1:=gw hg;have g1:=gw hg;replace HB:=bs hb;have j1:=qnl hg X0;have l1:=qng hg X0;replace X0:=qbb X0 hb;clear hb hbox hg;have J1:=j1.out;have K1:=l1.out;obtain⟨L1,M1,N1,P1⟩:=qk2 X0;obtain⟨Q1,R1,U1,V1⟩:=qk2 d1)|(refine gd 9 Tryz.func67 (laws_sameInts.calls k _ _ c0 _ _ n0 false _ (cx (Kd.C_below D0.out HB.out)) E0.out (cx (Kd.C_below K0.out HB.out)) L0.out Q0.out) fun nd=>?_))
  go_ret;exact⟨er,bl⟩

def laws_noDesk.f (k:Nat) (a0:List Int) (b0:List (List Int)):Option (Bool):=(laws_sameDesk.f k a0 b0 ([]:List Int) ([]:List (List Int))).bind fun c0=>(some c0)
theorem laws_noDesk.calls (k:Nat) (a0:Option Addr) (b0:Nat) (c0:List Int) (d0:Option Addr) (e0:Nat) (g0:List (List Int)) (r:Bool) (w:World) (j0:Kd.C (Kd.int .i64) w a0 c0.length c0) (l0:c0.length≤b0) (n0:Kd.C (Kd.slice 3 (Kd.int .i64)) w d0 g0.length g0) (p0:g0.length≤e0) (h:laws_noDesk.f k c0 g0=some r):
  Calls Tryz.prog 21 #[.agg #[.slice a0 c0.length b0,.slice d0 g0.length e0]] w fun e w'=>e= .returned (.bool r)∧Below w.heap.size w w':=by
 have q0:=Tryz.underlying27;have r0:=qa j0;have s0:=qa l0;clear j0 l0;have t0:=qa n0;have v0:=qa p0;clear n0 p0;have HB:=qa (Below.refl w.heap.size w);have H:=h;unfold laws_noDesk.f at H;clear h;replace H:=qb H;obtain⟨w0,x0,H⟩:=H;obtain rfl:=sj H
 go_enter Tryz.func21,Tryz.ntmps21
 go_wp2_with(first|(refine bx 1 #[.slice a0 c0.length b0,.slice d0 g0.length e0] 27 ?_;intro y0 hg A0 hbox hb;have B0:=qa (hbox);have C0:=gw hg;have D0:=gw hg;replace HB:=bs hb;clear hb hbox hg;obtain⟨E0,G0,J0,K0⟩:=qk2 B0)|(refine gol (some 5) Tryz.func18 #[.agg #[.slice a0 c0.length b0,.slice d0 g0.length e0],.agg #[.slice none 0 0,.slice none 0 0]] ?_;(refine(laws_sameDesk.calls k _ _ c0 _ _ g0 _ _ ([]:List Int) _ _ ([]:List (List Int)) w0 _ ?L0 ?M0 ?N0 ?P0 ?Q0 ?R0 ?U0 ?V0 x0.out).mono ?_);(case L0=>exact cx (Kd.C_below r0.out HB.out));(case M0=>exact s0.out);(case N0=>exact cx (Kd.C_below t0.out HB.out));(case P0=>exact v0.out);(case Q0=>exact Kd.C_nil _ _);(case R0=>exact Nat.le_refl _);(case U0=>exact Kd.C_nil _ _);(case V0=>exact Nat.le_refl _);rintro e W0 ⟨rfl,hb⟩;refine⟨_,rfl,?_⟩;replace B0:=qbb B0 hb;replace HB:=bs hb))
 go_ret;exact⟨er,bl⟩

def impl_DividesOk.f (a0:Int) (b0:Int):Option (Bool):=(impl_numberOk.f a0).bind fun c0=>(if c0=true then((impl_numberOk.f b0).bind fun d0=>(if d0=true then(if a0=0 then(none)else(some ((Int.tmod b0 a0)==0)))else(some false)))else(some false))
theorem impl_DividesOk.calls (a0:Int) (b0:Int) (r:Bool) (w:World) (h:impl_DividesOk.f a0 b0=some r):
  Calls Tryz.prog 70 #[.int .i64 a0,.int .i64 b0] w fun e w'=>e= .returned (.bool r)∧Drawn0 w w':=by
 have H:=h;unfold impl_DividesOk.f at H;clear h;replace H:=qb H;obtain⟨c0,d0,H⟩:=H;replace H:=qc H;obtain⟨rfl,H⟩|⟨rfl,H⟩:=H
 ·replace H:=qb H;obtain⟨e0,g0,H⟩:=H;replace H:=qc H;obtain⟨rfl,H⟩|⟨rfl,H⟩:=H
  ·by_cases j0:a0=0
   ·rw[if_pos j0]at H;exact absurd H (by simp)
   ·rw[if_neg j0]at H;have l0:(a0==0)=false:=beq_eq_false_iff_ne.mpr j0;have n0:(a0 != 0)=true:=bne_iff_ne.mpr j0;obtain rfl:=sj H
    go_enter Tryz.func70,Tryz.ntmps70
    go_wp2_with(first|(refine gd 6 Tryz.func107 (impl_numberOk.calls a0 true _ d0.out) fun nd=>?_)|(go_at_call 107;(with_reducible refine gm (impl_numberOk.calls b0 true _ g0.out) fun nd=>?_)))
    go_ret;exact⟨sd,dr⟩
  ·obtain rfl:=sj H
   go_enter Tryz.func70,Tryz.ntmps70
   go_wp2_with(first|(refine gd 6 Tryz.func107 (impl_numberOk.calls a0 true _ d0.out) fun nd=>?_)|(go_at_call 107;(with_reducible refine gm (impl_numberOk.calls b0 false _ g0.out) fun nd=>?_)))
   go_ret;exact⟨sd,dr⟩
 ·obtain rfl:=sj H
  go_enter Tryz.func70,Tryz.ntmps70
  go_wp2_with(first|(refine gd 6 Tryz.func107 (impl_numberOk.calls a0 false _ d0.out) fun nd=>?_))
  go_ret;exact⟨sd,dr⟩

def laws_alive.f  :Option (Bool):=(impl_DividesOk.f 3 12).bind fun a0=>(if a0=true then((impl_DividesOk.f 5 12).bind fun b0=>(some (!b0)))else(some false))
theorem laws_alive.calls  (r:Bool) (w:World) (h:laws_alive.f  =some r):
  Calls Tryz.prog 22 #[] w fun e w'=>e= .returned (.bool r)∧Drawn0 w w':=by
 have H:=h;unfold laws_alive.f at H;clear h;replace H:=qb H;obtain⟨a0,b0,H⟩:=H;replace H:=qc H;obtain⟨rfl,H⟩|⟨rfl,H⟩:=H
 ·replace H:=qb H;obtain⟨c0,d0,H⟩:=H;obtain rfl:=sj H
  go_enter Tryz.func22,Tryz.ntmps22
  go_wp2_with(first|(refine gd 1 Tryz.func70 (impl_DividesOk.calls 3 12 true _ b0.out) fun nd=>?_)|(go_at_call 70;(with_reducible refine gm (impl_DividesOk.calls 5 12 c0 _ d0.out) fun nd=>?_)))
  go_ret;exact⟨sd,dr⟩
 ·obtain rfl:=sj H
  go_enter Tryz.func22,Tryz.ntmps22
  go_wp2_with(first|(refine gd 1 Tryz.func70 (impl_DividesOk.calls 3 12 false _ b0.out) fun nd=>?_))
  go_ret;exact⟨sd,dr⟩
end Go.Proofs.YtdmlkjjlgkdnlaaGreatDoor.PFnDeskLine
