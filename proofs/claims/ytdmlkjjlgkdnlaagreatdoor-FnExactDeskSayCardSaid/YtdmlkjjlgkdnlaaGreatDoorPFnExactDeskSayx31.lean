import Derived.Test.YtdmlkjjlgkdnlaaGreatDoorPFnExactDeskSayx26
namespace Go.Proofs.YtdmlkjjlgkdnlaaGreatDoor.PFnExactDeskSay
open Go.RowKit Go.Proofs.YtdmlkjjlgkdnlaaGreatDoorW.PrintWords Go.Proofs.YtdmlkjjlgkdnlaaGreatDoorW.PrintLast Go.Proofs.YtdmlkjjlgkdnlaaGreatDoorW.PrintMore
attribute [local go_sem] max2_int min2_int max_two min_two max_three min_three max_four min_four
set_option linter.unusedVariables false
set_option linter.unusedSimpArgs false
set_option maxHeartbeats 8000000
set_option maxRecDepth 100000
mutual
def spec_MultiplicativeOk.j0:Nat→List Int→Bool→Option (Bool)
 |0,_,_=>none
 |k+1,a0,b0=>if b0=true then(some false)else(spec_MultiplicativeOk.l0 k a0 2)
def spec_MultiplicativeOk.l0:Nat→List Int→Int→Option (Bool)
 |0,_,_=>none
 |k+1,a0,c0=>if c0≤24 then(spec_MultiplicativeOk.l1 k a0 c0 2)else(some true)
def spec_MultiplicativeOk.l1:Nat→List Int→Int→Int→Option (Bool)
 |0,_,_,_=>none
 |k+1,a0,c0,d0=>if(wrap64 (c0*d0))≤24 then((spec_ApartOk.f k c0 d0).bind fun e0=>(if e0=true then(if 0≤(wrap64 ((wrap64 (c0*d0))-1))then(if(wrap64 ((wrap64 (c0*d0))-1))<(a0.length:Int)then(if 0≤(wrap64 (c0-1))then(if(wrap64 (c0-1))<(a0.length:Int)then(if 0≤(wrap64 (d0-1))then(if(wrap64 (d0-1))<(a0.length:Int)then(if(rd a0 (wrap64 ((wrap64 (c0*d0))-1)))=(wrap64 ((rd a0 (wrap64 (c0-1)))*(rd a0 (wrap64 (d0-1)))))then(spec_MultiplicativeOk.l1 k a0 c0 (wrap64 (d0+1)))else(some false))else(none))else(none))else(none))else(none))else(none))else(none))else(spec_MultiplicativeOk.l1 k a0 c0 (wrap64 (d0+1)))))else(spec_MultiplicativeOk.l0 k a0 (wrap64 (c0+1)))
end

def spec_MultiplicativeOk.f (k:Nat) (a0:List Int):Option (Bool):=(spec_RowOk.f k a0).bind fun b0=>(if b0=true then(if 0<(a0.length:Int)then(spec_MultiplicativeOk.j0 k a0 ((rd a0 0) != 1))else(none))else(spec_MultiplicativeOk.j0 k a0 true))
theorem spec_MultiplicativeOk.calls (k:Nat) (a0:Option Addr) (b0:Nat) (c0:List Int) (r:Bool) (w:World) (d0:Kd.C (Kd.int .i64) w a0 c0.length c0) (e0:c0.length≤b0) (h:spec_MultiplicativeOk.f k c0=some r):
  Calls Tryz.prog 45 #[.slice a0 c0.length b0] w fun e w'=>e= .returned (.bool r)∧Drawn0 w w':=by
 have g0:=qa d0;have n0:=qa e0;clear d0 e0;have H:=h;unfold spec_MultiplicativeOk.f at H;clear h;have p0:=qa H;clear H
 go_enter Tryz.func45,Tryz.ntmps45
 go_upto_region 1 with(fail)
 repeat(go_quiet(fail);go_upto_region 1 with(fail))
 go_cut [13] (fun q0 wc=>∃(kq:Nat) (r0:Bool),q0= .bool r0∧Aside0 (spec_MultiplicativeOk.j0 kq c0 r0=some r)∧Aside0 (kq≤k)∧Drawn0 w wc)
 case first=>
  have H:=p0.out;clear p0;replace H:=qb H;obtain⟨s0,t0,H⟩:=H;replace H:=qc H;obtain⟨rfl,H⟩|⟨rfl,H⟩:=H
  ·replace H:=qL 0 H;obtain⟨v0,w0,H⟩:=H;(first|rw[v0]|(simp only[i64_w,i32_w];rw[v0])|skip);have H':=qa H;clear H
   go_wp2_with(first|(go_at_call 69;(with_reducible refine(spec_RowOk.calls k _ _ c0 true _ ?x0 ?y0 t0.out).mono ?_);(case x0=>exact cx g0.out);(case y0=>exact n0.out);rintro e w' ⟨rfl,⟨nd,rfl⟩⟩;(try exact dn);obtain⟨A0,⟨⟩,B0,qi767,C0,D0⟩:=ain 0 g0.out 0;(try rw[Addr.add_zero']at B0)))
   repeat(go_quiet(first|(go_at_call 69;(with_reducible refine(spec_RowOk.calls k _ _ c0 true _ ?x0 ?y0 t0.out).mono ?_);(case x0=>exact cx g0.out);(case y0=>exact n0.out);rintro e w' ⟨rfl,⟨nd,rfl⟩⟩;(try exact dn);obtain⟨A0,⟨⟩,B0,qi767,C0,D0⟩:=ain 0 g0.out 0;(try rw[Addr.add_zero']at B0)));try go_wp2_with(first|(go_at_call 69;(with_reducible refine(spec_RowOk.calls k _ _ c0 true _ ?x0 ?y0 t0.out).mono ?_);(case x0=>exact cx g0.out);(case y0=>exact n0.out);rintro e w' ⟨rfl,⟨nd,rfl⟩⟩;(try exact dn);obtain⟨A0,⟨⟩,B0,qi767,C0,D0⟩:=ain 0 g0.out 0;(try rw[Addr.add_zero']at B0))))
   go_meet
   case rel=>exact⟨_,(((rd c0 0) != 1)),(sd),H',⟨by first|omega|exact Nat.le_refl _⟩,dr⟩
  ·have H':=qa H;clear H
   go_wp2_with(first|(go_at_call 69;(with_reducible refine(spec_RowOk.calls k _ _ c0 false _ ?x0 ?y0 t0.out).mono ?_);(case x0=>exact cx g0.out);(case y0=>exact n0.out);rintro e w' ⟨rfl,⟨nd,rfl⟩⟩;(try exact dn)))
   repeat(go_quiet(first|(go_at_call 69;(with_reducible refine(spec_RowOk.calls k _ _ c0 false _ ?x0 ?y0 t0.out).mono ?_);(case x0=>exact cx g0.out);(case y0=>exact n0.out);rintro e w' ⟨rfl,⟨nd,rfl⟩⟩;(try exact dn)));try go_wp2_with(first|(go_at_call 69;(with_reducible refine(spec_RowOk.calls k _ _ c0 false _ ?x0 ?y0 t0.out).mono ?_);(case x0=>exact cx g0.out);(case y0=>exact n0.out);rintro e w' ⟨rfl,⟨nd,rfl⟩⟩;(try exact dn))))
   go_meet
   case rel=>exact⟨_,(true),(sd),H',⟨by first|omega|exact Nat.le_refl _⟩,dr⟩
 case rest=>
  clear p0;obtain⟨kq,r0,rfl,HA,E0,⟨mc1,rfl⟩⟩:=hcut;obtain⟨G0,rfl,H⟩:=kz kq HA;clear HA;simp only[spec_MultiplicativeOk.j0]at H;replace H:=qc H;obtain⟨rfl,H⟩|⟨rfl,H⟩:=H
  ·obtain rfl:=sj H;go_wp2
   repeat(go_quiet(fail);try go_wp2)
   go_ret;exact⟨sd,dr⟩
  ·have H':=qa H;clear H;go_wp2
   repeat(go_quiet(fail);try go_wp2)
   go_loopg [3] G0 (fun kq J0 w'=>∃(K0:Int),J0= .int .i64 K0∧Aside0 (spec_MultiplicativeOk.l0 kq c0 K0=some r)∧Aside0 (kq≤G0)∧Drawn0 w w')
   case atStart=>exact⟨(2),(sd),H',⟨Nat.le_refl _⟩,dr⟩
   case round=>
    clear H';obtain⟨K0,rfl,HA,HK2,⟨m2,rfl⟩⟩:=hrel;obtain⟨k2,rfl,H⟩:=kz gk HA;clear HA;simp only[spec_MultiplicativeOk.l0]at H;replace H:=qe H;obtain⟨L0,H⟩|⟨L0,H⟩:=H
    ·have H':=qa H;clear H;go_wp2
     repeat(go_quiet(fail);try go_wp2)
     go_loopg [4] k2 (fun kq M0 w'=>∃(N0:Int),M0= .int .i64 N0∧Aside0 (spec_MultiplicativeOk.l1 kq c0 K0 N0=some r)∧Aside0 (kq≤k2)∧Drawn0 w w')
     case atStart=>exact⟨(2),(sd),H',⟨Nat.le_refl _⟩,dr⟩
     case round=>
      clear H';obtain⟨N0,rfl,HA,HK3,⟨m3,rfl⟩⟩:=hrel;obtain⟨k3,rfl,H⟩:=kz gk HA;clear HA;simp only[spec_MultiplicativeOk.l1]at H;replace H:=qe H;obtain⟨P0,H⟩|⟨P0,H⟩:=H
      ·replace H:=qb H;obtain⟨Q0,R0,H⟩:=H;replace H:=qc H;obtain⟨rfl,H⟩|⟨rfl,H⟩:=H
       ·obtain⟨U0,V0⟩:∃j_:Int,(wrap64 ((wrap64 (K0*N0))-1))=j_:=⟨_,rfl⟩;(first|rw[V0]at H|(try simp only[V0]at H));(try rw[V0]at R0);have W0:(IntKind.i64.wrap ((wrap64 (K0*N0))-1))=U0:=(i64_w _).trans V0;have X0:(IntKind.i64.wrap ((IntKind.i64.wrap (K0*N0))-1))=U0:=(congrArg (fun z_=>IntKind.i64.wrap (z_-1)) (i64_w _)).trans W0;replace H:=qd H;obtain⟨Y0,H⟩:=H;replace H:=qd H;obtain⟨a1,H⟩:=H;obtain⟨b1,c1⟩:∃j_:Int,(wrap64 (K0-1))=j_:=⟨_,rfl⟩;(first|rw[c1]at H|(try simp only[c1]at H));(try rw[c1]at R0);have d1:(IntKind.i64.wrap (K0-1))=b1:=(i64_w _).trans c1;replace H:=qd H;obtain⟨e1,H⟩:=H;replace H:=qd H;obtain⟨g1,H⟩:=H;obtain⟨j1,n1⟩:∃j_:Int,(wrap64 (N0-1))=j_:=⟨_,rfl⟩;(first|rw[n1]at H|(try simp only[n1]at H));(try rw[n1]at R0);have p1:(IntKind.i64.wrap (N0-1))=j1:=(i64_w _).trans n1;replace H:=qd H;obtain⟨q1,H⟩:=H;replace H:=qd H;obtain⟨r1,H⟩:=H;replace H:=qq H;obtain⟨s1,t1,H⟩|⟨v1,s1,t1,H⟩:=H
        ·(try(have c20b0v:=s1;have c20b1v:=t1;simp only[←i64_w]at c20b0v c20b1v));have H':=qa H;clear H
         go_wp2_with(first|(go_at_call 83;(with_reducible refine gm (spec_ApartOk.calls k3 K0 N0 true _ R0.out) fun nd=>?_);(try exact dn);obtain⟨w1,⟨⟩,x1,y1,A1⟩:=ai g0.out (U0);obtain⟨B1,C1,D1⟩:=aj g0.out (b1);obtain⟨E1,G1,J1⟩:=aj g0.out (j1)))
         repeat(go_quiet(first|(go_at_call 83;(with_reducible refine gm (spec_ApartOk.calls k3 K0 N0 true _ R0.out) fun nd=>?_);(try exact dn);obtain⟨w1,⟨⟩,x1,y1,A1⟩:=ai g0.out (U0);obtain⟨B1,C1,D1⟩:=aj g0.out (b1);obtain⟨E1,G1,J1⟩:=aj g0.out (j1)));try go_wp2_with(first|(go_at_call 83;(with_reducible refine gm (spec_ApartOk.calls k3 K0 N0 true _ R0.out) fun nd=>?_);(try exact dn);obtain⟨w1,⟨⟩,x1,y1,A1⟩:=ai g0.out (U0);obtain⟨B1,C1,D1⟩:=aj g0.out (b1);obtain⟨E1,G1,J1⟩:=aj g0.out (j1))))
         go_roundg k3
         case measure=>have:=E0.out;have:=HK2.out;have:=HK3.out;omega
         case rel=>exact⟨(wrap64 (N0+1)),(sd),H',⟨z54_⟩,dr⟩
        ·(try(have c20b0v:=s1;have c20b1v:=t1;simp only[←i64_w]at c20b0v c20b1v));obtain rfl:=sj H
         go_wp2_with(first|(go_at_call 83;(with_reducible refine gm (spec_ApartOk.calls k3 K0 N0 true _ R0.out) fun nd=>?_);(try exact dn);obtain⟨w1,⟨⟩,x1,y1,A1⟩:=ai g0.out (U0);obtain⟨B1,C1,D1⟩:=aj g0.out (b1);obtain⟨E1,G1,J1⟩:=aj g0.out (j1)))
         repeat(go_quiet(first|(go_at_call 83;(with_reducible refine gm (spec_ApartOk.calls k3 K0 N0 true _ R0.out) fun nd=>?_);(try exact dn);obtain⟨w1,⟨⟩,x1,y1,A1⟩:=ai g0.out (U0);obtain⟨B1,C1,D1⟩:=aj g0.out (b1);obtain⟨E1,G1,J1⟩:=aj g0.out (j1)));try go_wp2_with(first|(go_at_call 83;(with_reducible refine gm (spec_ApartOk.calls k3 K0 N0 true _ R0.out) fun nd=>?_);(try exact dn);obtain⟨w1,⟨⟩,x1,y1,A1⟩:=ai g0.out (U0);obtain⟨B1,C1,D1⟩:=aj g0.out (b1);obtain⟨E1,G1,J1⟩:=aj g0.out (j1))))
         go_ret;exact⟨by first|rfl|(simp;done)|(simp only[←V0,←c1,←n1] <;> (first|rfl|simp))|(simp[*];done),dr⟩
       ·have H':=qa H;clear H
        go_wp2_with(first|(go_at_call 83;(with_reducible refine gm (spec_ApartOk.calls k3 K0 N0 false _ R0.out) fun nd=>?_);(try exact dn)))
        repeat(go_quiet(first|(go_at_call 83;(with_reducible refine gm (spec_ApartOk.calls k3 K0 N0 false _ R0.out) fun nd=>?_);(try exact dn)));try go_wp2_with(first|(go_at_call 83;(with_reducible refine gm (spec_ApartOk.calls k3 K0 N0 false _ R0.out) fun nd=>?_);(try exact dn))))
        go_roundg k3
        case measure=>have:=E0.out;have:=HK2.out;have:=HK3.out;omega
        case rel=>exact⟨(wrap64 (N0+1)),(sd),H',⟨z54_⟩,dr⟩
      ·have H':=qa H;clear H;go_wp2
       repeat(go_quiet(fail);try go_wp2)
       go_roundg k3
       case measure=>have:=E0.out;have:=HK2.out;have:=HK3.out;omega
       case rel=>exact⟨(wrap64 (K0+1)),(sd),H',⟨z54_⟩,dr⟩
    ·obtain rfl:=sj H;go_wp2
     repeat(go_quiet(fail);try go_wp2)
     go_ret;exact⟨sd,dr⟩

mutual
def spec_FullyOk.j0:Nat→List Int→Bool→Option (Bool)
 |0,_,_=>none
 |k+1,a0,b0=>if b0=true then(some false)else(spec_FullyOk.l0 k a0 2)
def spec_FullyOk.l0:Nat→List Int→Int→Option (Bool)
 |0,_,_=>none
 |k+1,a0,c0=>if c0≤24 then(spec_FullyOk.l1 k a0 c0 2)else(some true)
def spec_FullyOk.l1:Nat→List Int→Int→Int→Option (Bool)
 |0,_,_,_=>none
 |k+1,a0,c0,d0=>if(wrap64 (c0*d0))≤24 then(if 0≤(wrap64 ((wrap64 (c0*d0))-1))then(if(wrap64 ((wrap64 (c0*d0))-1))<(a0.length:Int)then(if 0≤(wrap64 (c0-1))then(if(wrap64 (c0-1))<(a0.length:Int)then(if 0≤(wrap64 (d0-1))then(if(wrap64 (d0-1))<(a0.length:Int)then(if(rd a0 (wrap64 ((wrap64 (c0*d0))-1)))=(wrap64 ((rd a0 (wrap64 (c0-1)))*(rd a0 (wrap64 (d0-1)))))then(spec_FullyOk.l1 k a0 c0 (wrap64 (d0+1)))else(some false))else(none))else(none))else(none))else(none))else(none))else(none))else(spec_FullyOk.l0 k a0 (wrap64 (c0+1)))
end

def spec_FullyOk.f (k:Nat) (a0:List Int):Option (Bool):=(spec_RowOk.f k a0).bind fun b0=>(if b0=true then(if 0<(a0.length:Int)then(spec_FullyOk.j0 k a0 ((rd a0 0) != 1))else(none))else(spec_FullyOk.j0 k a0 true))
theorem spec_FullyOk.calls (k:Nat) (a0:Option Addr) (b0:Nat) (c0:List Int) (r:Bool) (w:World) (d0:Kd.C (Kd.int .i64) w a0 c0.length c0) (e0:c0.length≤b0) (h:spec_FullyOk.f k c0=some r):
  Calls Tryz.prog 46 #[.slice a0 c0.length b0] w fun e w'=>e= .returned (.bool r)∧Drawn0 w w':=by
 have g0:=qa d0;have n0:=qa e0;clear d0 e0;have H:=h;unfold spec_FullyOk.f at H;clear h;have p0:=qa H;clear H
 go_enter Tryz.func46,Tryz.ntmps46
 go_upto_region 1 with(fail)
 repeat(go_quiet(fail);go_upto_region 1 with(fail))
 go_cut [13] (fun q0 wc=>∃(kq:Nat) (r0:Bool),q0= .bool r0∧Aside0 (spec_FullyOk.j0 kq c0 r0=some r)∧Aside0 (kq≤k)∧Drawn0 w wc)
 case first=>
  have H:=p0.out;clear p0;replace H:=qb H;obtain⟨s0,t0,H⟩:=H;replace H:=qc H;obtain⟨rfl,H⟩|⟨rfl,H⟩:=H
  ·replace H:=qL 0 H;obtain⟨v0,w0,H⟩:=H;(first|rw[v0]|(simp only[i64_w,i32_w];rw[v0])|skip);have H':=qa H;clear H
   go_wp2_with(first|(go_at_call 69;(with_reducible refine(spec_RowOk.calls k _ _ c0 true _ ?x0 ?y0 t0.out).mono ?_);(case x0=>exact cx g0.out);(case y0=>exact n0.out);rintro e w' ⟨rfl,⟨nd,rfl⟩⟩;(try exact dn);obtain⟨A0,⟨⟩,B0,qi773,C0,D0⟩:=ain 0 g0.out 0;(try rw[Addr.add_zero']at B0)))
   repeat(go_quiet(first|(go_at_call 69;(with_reducible refine(spec_RowOk.calls k _ _ c0 true _ ?x0 ?y0 t0.out).mono ?_);(case x0=>exact cx g0.out);(case y0=>exact n0.out);rintro e w' ⟨rfl,⟨nd,rfl⟩⟩;(try exact dn);obtain⟨A0,⟨⟩,B0,qi773,C0,D0⟩:=ain 0 g0.out 0;(try rw[Addr.add_zero']at B0)));try go_wp2_with(first|(go_at_call 69;(with_reducible refine(spec_RowOk.calls k _ _ c0 true _ ?x0 ?y0 t0.out).mono ?_);(case x0=>exact cx g0.out);(case y0=>exact n0.out);rintro e w' ⟨rfl,⟨nd,rfl⟩⟩;(try exact dn);obtain⟨A0,⟨⟩,B0,qi773,C0,D0⟩:=ain 0 g0.out 0;(try rw[Addr.add_zero']at B0))))
   go_meet
   case rel=>exact⟨_,(((rd c0 0) != 1)),(sd),H',⟨by first|omega|exact Nat.le_refl _⟩,dr⟩
  ·have H':=qa H;clear H
   go_wp2_with(first|(go_at_call 69;(with_reducible refine(spec_RowOk.calls k _ _ c0 false _ ?x0 ?y0 t0.out).mono ?_);(case x0=>exact cx g0.out);(case y0=>exact n0.out);rintro e w' ⟨rfl,⟨nd,rfl⟩⟩;(try exact dn)))
   repeat(go_quiet(first|(go_at_call 69;(with_reducible refine(spec_RowOk.calls k _ _ c0 false _ ?x0 ?y0 t0.out).mono ?_);(case x0=>exact cx g0.out);(case y0=>exact n0.out);rintro e w' ⟨rfl,⟨nd,rfl⟩⟩;(try exact dn)));try go_wp2_with(first|(go_at_call 69;(with_reducible refine(spec_RowOk.calls k _ _ c0 false _ ?x0 ?y0 t0.out).mono ?_);(case x0=>exact cx g0.out);(case y0=>exact n0.out);rintro e w' ⟨rfl,⟨nd,rfl⟩⟩;(try exact dn))))
   go_meet
   case rel=>exact⟨_,(true),(sd),H',⟨by first|omega|exact Nat.le_refl _⟩,dr⟩
 case rest=>
  clear p0;obtain⟨kq,r0,rfl,HA,E0,⟨mc1,rfl⟩⟩:=hcut;obtain⟨G0,rfl,H⟩:=kz kq HA;clear HA;simp only[spec_FullyOk.j0]at H;replace H:=qc H;obtain⟨rfl,H⟩|⟨rfl,H⟩:=H
  ·obtain rfl:=sj H;go_wp2
   repeat(go_quiet(fail);try go_wp2)
   go_ret;exact⟨sd,dr⟩
  ·have H':=qa H;clear H;go_wp2
   repeat(go_quiet(fail);try go_wp2)
   go_loopg [3] G0 (fun kq J0 w'=>∃(K0:Int),J0= .int .i64 K0∧Aside0 (spec_FullyOk.l0 kq c0 K0=some r)∧Aside0 (kq≤G0)∧Drawn0 w w')
   case atStart=>exact⟨(2),(sd),H',⟨Nat.le_refl _⟩,dr⟩
   case round=>
    clear H';obtain⟨K0,rfl,HA,HK2,⟨m2,rfl⟩⟩:=hrel;obtain⟨k2,rfl,H⟩:=kz gk HA;clear HA;simp only[spec_FullyOk.l0]at H;replace H:=qe H;obtain⟨L0,H⟩|⟨L0,H⟩:=H
    ·have H':=qa H;clear H;go_wp2
     repeat(go_quiet(fail);try go_wp2)
     go_loopg [4] k2 (fun kq M0 w'=>∃(N0:Int),M0= .int .i64 N0∧Aside0 (spec_FullyOk.l1 kq c0 K0 N0=some r)∧Aside0 (kq≤k2)∧Drawn0 w w')
     case atStart=>exact⟨(2),(sd),H',⟨Nat.le_refl _⟩,dr⟩
     case round=>
      clear H';obtain⟨N0,rfl,HA,HK3,⟨m3,rfl⟩⟩:=hrel;obtain⟨k3,rfl,H⟩:=kz gk HA;clear HA;simp only[spec_FullyOk.l1]at H;replace H:=qe H;obtain⟨P0,H⟩|⟨P0,H⟩:=H
      ·obtain⟨Q0,R0⟩:∃j_:Int,(wrap64 ((wrap64 (K0*N0))-1))=j_:=⟨_,rfl⟩;(first|rw[R0]at H|(try simp only[R0]at H));have U0:(IntKind.i64.wrap ((wrap64 (K0*N0))-1))=Q0:=(i64_w _).trans R0;replace H:=qd H;obtain⟨V0,H⟩:=H;replace H:=qd H;obtain⟨W0,H⟩:=H;obtain⟨X0,Y0⟩:∃j_:Int,(wrap64 (K0-1))=j_:=⟨_,rfl⟩;(first|rw[Y0]at H|(try simp only[Y0]at H));have a1:(IntKind.i64.wrap (K0-1))=X0:=(i64_w _).trans Y0;replace H:=qd H;obtain⟨b1,H⟩:=H;replace H:=qd H;obtain⟨c1,H⟩:=H;obtain⟨d1,e1⟩:∃j_:Int,(wrap64 (N0-1))=j_:=⟨_,rfl⟩;(first|rw[e1]at H|(try simp only[e1]at H));have g1:(IntKind.i64.wrap (N0-1))=d1:=(i64_w _).trans e1;replace H:=qd H;obtain⟨j1,H⟩:=H;replace H:=qd H;obtain⟨n1,H⟩:=H;replace H:=qq H;obtain⟨p1,q1,H⟩|⟨r1,p1,q1,H⟩:=H
       ·have H':=qa H;clear H;obtain⟨s1,⟨⟩,t1,v1,w1⟩:=ai g0.out (Q0);obtain⟨x1,y1,A1⟩:=aj g0.out (X0);obtain⟨B1,C1,D1⟩:=aj g0.out (d1);go_wp2
        repeat(go_quiet(fail);try go_wp2)
        go_roundg k3
        case measure=>have:=E0.out;have:=HK2.out;have:=HK3.out;omega
        case rel=>exact⟨(wrap64 (N0+1)),(sd),H',⟨z54_⟩,dr⟩
       ·obtain rfl:=sj H;obtain⟨s1,⟨⟩,t1,v1,w1⟩:=ai g0.out (Q0);obtain⟨x1,y1,A1⟩:=aj g0.out (X0);obtain⟨B1,C1,D1⟩:=aj g0.out (d1);go_wp2
        repeat(go_quiet(fail);try go_wp2)
        go_ret;exact⟨by first|rfl|(simp;done)|(simp only[←R0,←Y0,←e1] <;> (first|rfl|simp))|(simp[*];done),dr⟩
      ·have H':=qa H;clear H;go_wp2
       repeat(go_quiet(fail);try go_wp2)
       go_roundg k3
       case measure=>have:=E0.out;have:=HK2.out;have:=HK3.out;omega
       case rel=>exact⟨(wrap64 (K0+1)),(sd),H',⟨z54_⟩,dr⟩
    ·obtain rfl:=sj H;go_wp2
     repeat(go_quiet(fail);try go_wp2)
     go_ret;exact⟨sd,dr⟩
mutual
def spec_FactorText.l0:Nat→ByteArray→List (List Int)→Int→Option (ByteArray)
 |0,_,_,_=>none
 |k+1,a0,b0,c0=>if c0<(b0.length:Int)then(if c0>0 then(if a0.size+1≤9223372036854775807 then(spec_FactorText.j1 k (a0++(⟨#[46]⟩:ByteArray)) b0 c0)else(none))else(spec_FactorText.j1 k a0 b0 c0))else(if a0.toList=([]:List UInt8)then(some (⟨#[49]⟩:ByteArray))else(some a0))
def spec_FactorText.j1:Nat→ByteArray→List (List Int)→Int→Option (ByteArray)
 |0,_,_,_=>none
 |k+1,a0,b0,c0=>if 0≤c0 then(if c0<(b0.length:Int)then(if 0<((rd_L1 b0 c0).length :Int)then((spec_l1Number.f k (rd (rd_L1 b0 c0) 0)).bind fun d0=>(if a0.size+d0.size≤9223372036854775807 then(if 1<((rd_L1 b0 c0).length :Int)then(if(rd (rd_L1 b0 c0) 1)>1 then(if(a0++d0).size +1≤9223372036854775807 then((spec_l1Number.f k (rd (rd_L1 b0 c0) 1)).bind fun e0=>(if((a0++d0)++(⟨#[94]⟩:ByteArray)).size +e0.size≤9223372036854775807 then(spec_FactorText.l0 k (((a0++d0)++(⟨#[94]⟩:ByteArray))++e0) b0 (wrap64 (c0+1)))else(none)))else(none))else(spec_FactorText.l0 k (a0++d0) b0 (wrap64 (c0+1))))else(none))else(none)))else(none))else(none))else(none)
end

def spec_FactorText.f (k:Nat) (a0:Int):Option (ByteArray):=(spec_l1In.f a0 1 10000).bind fun b0=>(if b0=true then((spec_FactorsOf.f k a0).bind fun c0=>(spec_FactorText.l0 k (⟨#[]⟩:ByteArray) c0 0))else(some (⟨#[]⟩:ByteArray)))
theorem spec_FactorText.calls (k:Nat) (a0:Int) (r:ByteArray) (w:World) (h:spec_FactorText.f k a0=some r):
  Calls Tryz.prog 85 #[.int .i64 a0] w fun e w'=>e= .returned (.string r)∧Below w.heap.size w w':=by
 have HB:=qa (Below.refl w.heap.size w);have H:=h;unfold spec_FactorText.f at H;clear h;replace H:=qb H;obtain⟨b0,c0,H⟩:=H;replace H:=qc H;obtain⟨rfl,H⟩|⟨rfl,H⟩:=H
 ·replace H:=qb H;obtain⟨d0,e0,H⟩:=H;have H':=qa H;clear H
  go_enter Tryz.func85,Tryz.ntmps85
  go_wp2_with(first|(refine gd 7 Tryz.func84 (spec_l1In.calls a0 1 10000 true _ c0.out) fun nd=>?_)|(refine ge_ 10 Tryz.func126 (spec_FactorsOf.calls k a0 d0 _ e0.out) fun g0 j0 n0 hb=>?_;have p0:=qa (Kd.S_lower n0 (below_size (bl)));replace HB:=bs hb))
  go_loopg [3,5] k (fun kq q0 r0 w'=>∃(s0:ByteArray) (t0:Int),q0= .string s0∧r0= .int .i64 t0∧Aside0 (spec_FactorText.l0 kq s0 d0 t0=some r)∧Aside0 (kq≤k)∧Aside0 (Kd.S (Kd.slice 3 (Kd.int .i64)) 22 w' w.heap.size (fun _=>True) g0 d0)∧Aside0 (Below w.heap.size w w'))
  case atStart=>exact⟨((⟨#[]⟩:ByteArray)),(0),(sd),(sd),H',⟨Nat.le_refl _⟩,⟨kS p0⟩,⟨bl⟩⟩
  case round=>
   clear H';obtain⟨s0,t0,rfl,rfl,HA,HK1,v0,HB⟩:=hrel;obtain⟨k1,rfl,H⟩:=kz gk HA;clear HA;simp only[spec_FactorText.l0]at H;replace H:=qe H;obtain⟨w0,H⟩|⟨w0,H⟩:=H
   ·have x0:=qa H;clear H;obtain⟨y0,A0,rfl⟩:=Kd.S_slice v0.out
    go_upto_if 18 with(fail)
    go_cut [3] (fun q0 wc=>∃(kq:Nat) (B0:ByteArray),q0= .string B0∧Aside0 (spec_FactorText.j1 kq B0 d0 t0=some r)∧Aside0 (kq≤k1)∧Aside0 (Kd.S (Kd.slice 3 (Kd.int .i64)) 22 wc w.heap.size (fun _=>True) (.slice y0 d0.length A0) d0)∧Aside0 (Below w.heap.size w wc))
    case first=>
     have H:=x0.out;clear x0;replace H:=qg H;obtain⟨C0,H⟩|⟨C0,H⟩:=H
     ·(first|rw[C0]|(simp only[i64_w,i32_w];rw[C0])|skip);replace H:=qN H;obtain⟨D0,E0,G0,J0,H⟩:=H;have H':=qa H;clear H;go_wp2;go_meet
      case rel=>exact⟨_,(s0++(⟨#[46]⟩:ByteArray)),(sd),H',⟨z12_⟩,⟨kS v0⟩,⟨bl⟩⟩
     ·(first|rw[C0]|(simp only[i64_w,i32_w];rw[C0])|skip);have H':=qa H;clear H;go_wp2;go_meet
      case rel=>exact⟨_,(s0),(sd),H',⟨z12_⟩,⟨kS v0⟩,⟨bl⟩⟩
    case rest=>
     clear x0;obtain⟨kq,B0,rfl,HA,K0,v0,HB⟩:=hcut;obtain⟨L0,rfl,H⟩:=kz kq HA;clear HA;simp only[spec_FactorText.j1]at H;replace H:=qd H;obtain⟨M0,H⟩:=H;replace H:=qd H;obtain⟨N0,H⟩:=H;replace H:=qL 0 H;obtain⟨P0,Q0,H⟩:=H;replace H:=qb H;obtain⟨R0,U0,H⟩:=H;replace H:=qN H;obtain⟨V0,W0,X0,Y0,H⟩:=H;replace H:=qL 1 H;obtain⟨a1,b1,H⟩:=H;replace H:=qg H;obtain⟨c1,H⟩|⟨c1,H⟩:=H
     ·replace H:=qN H;obtain⟨d1,e1,g1,l1,H⟩:=H
      try(have c18bq:=l1;simp only[ByteArray.size_append]at c18bq)
      replace H:=qb H;obtain⟨n1,p1,H⟩:=H;replace H:=qN H;obtain⟨q1,r1,s1,t1,H⟩:=H
      try(have c20bq:=t1;simp only[ByteArray.size_append,show(⟨#[94]⟩:ByteArray).size =1 from rfl]at c20bq)
      have H':=qa H;clear H;obtain⟨v1,w1,x1,⟨⟩,y1,HL781_0,A1,B1,C1,D1⟩:=sg_L1 v0.out t0;obtain⟨E1,⟨⟩,G1,qi782,J1,K1⟩:=ain 0 z13_ 0;(try rw[Addr.add_zero']at G1)
      go_wp2_with(first|(refine gb 28 Tryz.func82 (spec_l1Number.calls L0 (rd (rd_L1 d0 t0) 0) R0 _ U0.out) fun L1 hb=>?_;replace v0:=qa (Kd.S_below (kS v0) hb);replace HL781_0:=qa (Kd.R_below z55_ hb);replace A1:=qa (Kd.C_below z13_ hb);replace HB:=bs hb;obtain⟨M1,N1,P1,HL784_0,Q1,R1,U1,V1⟩:=sh_L1 v0.out t0;have W1:0≤(1:Int):=ko_;have X1:1<((rd_L1 d0 t0).length :Int):=qo;obtain⟨Y1,a2,b2⟩:=Kd.at_int z30_ 1 W1 X1;cases a2;(try simp only[show(1:Int).toNat =1 from rfl,Nat.reduceMul,Nat.reduceEqDiff,Go.Addr.add,↓reduceIte]at b2);have qi785:(1<(rd_L1 d0 t0).length)=True:=eq_true ko_;(try rw[show((1:Int)).toNat =1 from rfl]at b2);replace W1:=eq_true W1;replace X1:=eq_true X1;obtain⟨c2,d2,e2,HL786_0,g2,j2,l2,n2⟩:=sh_L1 v0.out t0;have ea_:=Option.some.inj (P1.symm.trans e2);injection ea_ with ea_ en_ ec_;subst ea_;subst ec_;clear en_;have p2:0≤(1:Int):=ko_;have q2:1<((rd_L1 d0 t0).length :Int):=qo;obtain⟨r2,s2,t2⟩:=Kd.at_int z66_ 1 p2 q2;cases s2;(try simp only[show(1:Int).toNat =1 from rfl,Nat.reduceMul,Nat.reduceEqDiff,Go.Addr.add,↓reduceIte]at t2);have qi787:(1<(rd_L1 d0 t0).length)=True:=eq_true ko_;(try rw[show((1:Int)).toNat =1 from rfl]at t2);replace p2:=eq_true p2;replace q2:=eq_true q2)|(refine gb 45 Tryz.func82 (spec_l1Number.calls L0 (rd (rd_L1 d0 t0) 1) n1 _ p1.out) fun v2 hb=>?_;replace v0:=qa (Kd.S_below (kS v0) hb);replace HL781_0:=qa (Kd.R_below z55_ hb);replace HL784_0:=qa (Kd.R_below (by(with_reducible repeat(first|apply Kd.R_alloc|apply Kd.R_drewN|apply Kd.R_drew));exact HL784_0.out) hb);replace HL786_0:=qa (Kd.R_below (by(with_reducible repeat(first|apply Kd.R_alloc|apply Kd.R_drewN|apply Kd.R_drew));exact HL786_0.out) hb);replace A1:=qa (Kd.C_below z13_ hb);replace Q1:=qa (Kd.C_below z30_ hb);replace g2:=qa (Kd.C_below z66_ hb);replace HB:=bs hb))
      go_roundg L0
      case measure=>have:=HK1.out;have:=K0.out;omega
      case rel=>exact⟨(((B0++R0)++(⟨#[94]⟩:ByteArray))++n1),(wrap64 (t0+1)),(sd),(sd),H',⟨by have:=HK1.out;have:=K0.out;omega⟩,⟨kS v0⟩,⟨bl⟩⟩
     ·have H':=qa H;clear H;obtain⟨v1,w1,x1,⟨⟩,y1,HL781_0,A1,B1,C1,D1⟩:=sg_L1 v0.out t0;obtain⟨E1,⟨⟩,G1,qi782,J1,K1⟩:=ain 0 z13_ 0;(try rw[Addr.add_zero']at G1)
      go_wp2_with(first|(refine gb 28 Tryz.func82 (spec_l1Number.calls L0 (rd (rd_L1 d0 t0) 0) R0 _ U0.out) fun w2 hb=>?_;replace v0:=qa (Kd.S_below (kS v0) hb);replace HL781_0:=qa (Kd.R_below z55_ hb);replace A1:=qa (Kd.C_below z13_ hb);replace HB:=bs hb;obtain⟨M1,N1,P1,HL784_0,Q1,R1,U1,V1⟩:=sh_L1 v0.out t0;have W1:0≤(1:Int):=ko_;have X1:1<((rd_L1 d0 t0).length :Int):=qo;obtain⟨Y1,a2,b2⟩:=Kd.at_int z30_ 1 W1 X1;cases a2;(try simp only[show(1:Int).toNat =1 from rfl,Nat.reduceMul,Nat.reduceEqDiff,Go.Addr.add,↓reduceIte]at b2);have qi785:(1<(rd_L1 d0 t0).length)=True:=eq_true ko_;(try rw[show((1:Int)).toNat =1 from rfl]at b2);replace W1:=eq_true W1;replace X1:=eq_true X1))
      go_roundg L0
      case measure=>have:=HK1.out;have:=K0.out;omega
      case rel=>exact⟨(B0++R0),(wrap64 (t0+1)),(sd),(sd),H',⟨by have:=HK1.out;have:=K0.out;omega⟩,⟨kS v0⟩,⟨bl⟩⟩
   ·replace H:=qq H;obtain⟨x2,y2,H⟩|⟨A2,x2,y2,H⟩:=H
    ·obtain rfl:=sj H;obtain⟨B2,C2,rfl⟩:=Kd.S_slice v0.out;go_wp2;go_ret;exact⟨er,bl⟩
    ·obtain rfl:=sj H;obtain⟨D2,E2,rfl⟩:=Kd.S_slice v0.out;go_wp2;go_ret;exact⟨er,bl⟩
 ·obtain rfl:=sj H
  go_enter Tryz.func85,Tryz.ntmps85
  go_wp2_with(first|(refine gd 7 Tryz.func84 (spec_l1In.calls a0 1 10000 false _ c0.out) fun nd=>?_))
  go_ret;exact⟨er,bl⟩

mutual
def spec_AllSum.l0:Nat→Int→List (List Int)→Int→Option (Int)
 |0,_,_,_=>none
 |k+1,a0,b0,c0=>if c0<(b0.length:Int)then(spec_AllSum.l1 k a0 b0 c0 1 1 0)else(some a0)
def spec_AllSum.l1:Nat→Int→List (List Int)→Int→Int→Int→Int→Option (Int)
 |0,_,_,_,_,_,_=>none
 |k+1,a0,b0,c0,d0,e0,g0=>if 0≤c0 then(if c0<(b0.length:Int)then(if 1<((rd_L1 b0 c0).length :Int)then(if g0<(rd (rd_L1 b0 c0) 1)then(if 0<((rd_L1 b0 c0).length :Int)then(spec_AllSum.l1 k a0 b0 c0 (wrap64 (d0+(wrap64 (e0*(rd (rd_L1 b0 c0) 0))))) (wrap64 (e0*(rd (rd_L1 b0 c0) 0))) (wrap64 (g0+1)))else(none))else(spec_AllSum.l0 k (wrap64 (a0*d0)) b0 (wrap64 (c0+1))))else(none))else(none))else(none)
end

def spec_AllSum.f (k:Nat) (a0:Int):Option (Int):=(spec_l1In.f a0 1 10000).bind fun b0=>(if b0=true then((spec_FactorsOf.f k a0).bind fun c0=>(spec_AllSum.l0 k 1 c0 0))else(some (-1)))
theorem spec_AllSum.calls (k:Nat) (a0:Int) (r:Int) (w:World) (h:spec_AllSum.f k a0=some r):
  Calls Tryz.prog 87 #[.int .i64 a0] w fun e w'=>e= .returned (.int .i64 r)∧Below w.heap.size w w':=by
 have HB:=qa (Below.refl w.heap.size w);have H:=h;unfold spec_AllSum.f at H;clear h;replace H:=qb H;obtain⟨b0,c0,H⟩:=H;replace H:=qc H;obtain⟨rfl,H⟩|⟨rfl,H⟩:=H
 ·replace H:=qb H;obtain⟨d0,e0,H⟩:=H;have H':=qa H;clear H
  go_enter Tryz.func87,Tryz.ntmps87
  go_wp2_with(first|(refine gd 10 Tryz.func84 (spec_l1In.calls a0 1 10000 true _ c0.out) fun nd=>?_)|(refine ge_ 13 Tryz.func126 (spec_FactorsOf.calls k a0 d0 _ e0.out) fun g0 j0 n0 hb=>?_;have p0:=qa (Kd.S_lower n0 (below_size (bl)));replace HB:=bs hb))
  go_loopg [3,5] k (fun kq q0 r0 w'=>∃(s0:Int) (t0:Int),q0= .int .i64 s0∧r0= .int .i64 t0∧Aside0 (spec_AllSum.l0 kq s0 d0 t0=some r)∧Aside0 (kq≤k)∧Aside0 (Kd.S (Kd.slice 3 (Kd.int .i64)) 22 w' w.heap.size (fun _=>True) g0 d0)∧Aside0 (Below w.heap.size w w'))
  case atStart=>exact⟨(1),(0),(sd),(sd),H',⟨Nat.le_refl _⟩,⟨kS p0⟩,⟨bl⟩⟩
  case round=>
   clear H';obtain⟨s0,t0,rfl,rfl,HA,HK1,v0,HB⟩:=hrel;obtain⟨k1,rfl,H⟩:=kz gk HA;clear HA;simp only[spec_AllSum.l0]at H;replace H:=qe H;obtain⟨w0,H⟩|⟨w0,H⟩:=H
   ·have H':=qa H;clear H;obtain⟨x0,y0,rfl⟩:=Kd.S_slice v0.out;go_wp2
    go_loopg [6,7,8] k1 (fun kq A0 B0 C0 w'=>∃(D0:Int) (E0:Int) (G0:Int),A0= .int .i64 D0∧B0= .int .i64 E0∧C0= .int .i64 G0∧Aside0 (spec_AllSum.l1 kq s0 d0 t0 D0 E0 G0=some r)∧Aside0 (kq≤k1)∧Aside0 (Kd.S (Kd.slice 3 (Kd.int .i64)) 22 w' w.heap.size (fun _=>True) (.slice x0 d0.length y0) d0)∧Aside0 (Below w.heap.size w w'))
    case atStart=>exact⟨(1),(1),(0),(sd),(sd),(sd),H',⟨Nat.le_refl _⟩,⟨kS v0⟩,⟨bl⟩⟩
    case round=>
     clear H';obtain⟨D0,E0,G0,rfl,rfl,rfl,HA,HK2,v0,HB⟩:=hrel;obtain⟨k2,rfl,H⟩:=kz gk HA;clear HA;simp only[spec_AllSum.l1]at H;replace H:=qd H;obtain⟨J0,H⟩:=H;replace H:=qd H;obtain⟨K0,H⟩:=H;replace H:=qL 1 H;obtain⟨L0,M0,H⟩:=H;replace H:=qe H;obtain⟨N0,H⟩|⟨N0,H⟩:=H
     ·replace H:=qL 0 H;obtain⟨P0,Q0,H⟩:=H;have H':=qa H;clear H;obtain⟨R0,U0,V0,⟨⟩,W0,HL793_0,X0,Y0,a1,b1⟩:=sg_L1 v0.out t0;have c1:0≤(1:Int):=ko_;have d1:1<((rd_L1 d0 t0).length :Int):=qo;obtain⟨e1,g1,j1⟩:=Kd.at_int z68_ 1 c1 d1;cases g1;(try simp only[show(1:Int).toNat =1 from rfl,Nat.reduceMul,Nat.reduceEqDiff,Go.Addr.add,↓reduceIte]at j1);have qi794:(1<(rd_L1 d0 t0).length)=True:=eq_true ko_;(try rw[show((1:Int)).toNat =1 from rfl]at j1);replace c1:=eq_true c1;replace d1:=eq_true d1;obtain⟨n1,p1,q1,HL795_0,r1,s1,t1,v1⟩:=sh_L1 v0.out t0;have ea_:=Option.some.inj (W0.symm.trans q1);(injection ea_ with ea_ en_ ec_);subst ea_;subst ec_;clear en_;obtain⟨w1,⟨⟩,x1,qi796,y1,A1⟩:=ain 0 (by repeat(first|(with_reducible exact r1.out)|(with_reducible refine Kd.C_alloc ?_ _)|(with_reducible refine Kd.C_drewN ?_ _)|(with_reducible refine Kd.C_drew ?_)|exact r1.out)) 0;(try rw[Addr.add_zero']at x1);go_wp2
      go_roundg k2
      case measure=>have:=HK1.out;have:=HK2.out;omega
      case rel=>exact⟨(wrap64 (D0+(wrap64 (E0*(rd (rd_L1 d0 t0) 0))))),(wrap64 (E0*(rd (rd_L1 d0 t0) 0))),(wrap64 (G0+1)),(sd),(sd),(sd),H',⟨by have:=HK1.out;have:=HK2.out;omega⟩,⟨kS v0⟩,⟨bl⟩⟩
     ·have H':=qa H;clear H;obtain⟨R0,U0,V0,⟨⟩,W0,HL793_0,X0,Y0,a1,b1⟩:=sg_L1 v0.out t0;have c1:0≤(1:Int):=ko_;have d1:1<((rd_L1 d0 t0).length :Int):=qo;obtain⟨e1,g1,j1⟩:=Kd.at_int z68_ 1 c1 d1;cases g1;(try simp only[show(1:Int).toNat =1 from rfl,Nat.reduceMul,Nat.reduceEqDiff,Go.Addr.add,↓reduceIte]at j1);have qi794:(1<(rd_L1 d0 t0).length)=True:=eq_true ko_;(try rw[show((1:Int)).toNat =1 from rfl]at j1);replace c1:=eq_true c1;replace d1:=eq_true d1;go_wp2
      go_roundg k2
      case measure=>have:=HK1.out;have:=HK2.out;omega
      case rel=>exact⟨(wrap64 (s0*D0)),(wrap64 (t0+1)),(sd),(sd),H',⟨by have:=HK1.out;have:=HK2.out;omega⟩,⟨kS v0⟩,⟨bl⟩⟩
   ·obtain rfl:=sj H;obtain⟨B1,C1,rfl⟩:=Kd.S_slice v0.out;go_wp2;go_ret;exact⟨er,bl⟩
 ·obtain rfl:=sj H
  go_enter Tryz.func87,Tryz.ntmps87
  go_wp2_with(first|(refine gd 10 Tryz.func84 (spec_l1In.calls a0 1 10000 false _ c0.out) fun nd=>?_))
  go_ret;exact⟨er,bl⟩

def spec_ProperSum.l0:Nat→Int→Int→Int→Option (Int)
 |0,_,_,_=>none
 |k+1,a0,b0,c0=>if c0<a0 then(if c0=0 then(none)else(if(Int.tmod a0 c0)=0 then(spec_ProperSum.l0 k a0 (wrap64 (b0+c0)) (wrap64 (c0+1)))else(spec_ProperSum.l0 k a0 b0 (wrap64 (c0+1)))))else(some b0)
def spec_ProperSum.f (k:Nat) (a0:Int):Option (Int):=(spec_l1In.f a0 1 10000).bind fun b0=>(if b0=true then(spec_ProperSum.l0 k a0 0 1)else(some (-1)))
theorem spec_ProperSum.calls (k:Nat) (a0:Int) (r:Int) (w:World) (h:spec_ProperSum.f k a0=some r):
  Calls Tryz.prog 127 #[.int .i64 a0] w fun e w'=>e= .returned (.int .i64 r)∧Drawn0 w w':=by
 have H:=h;unfold spec_ProperSum.f at H;clear h;replace H:=qb H;obtain⟨b0,c0,H⟩:=H;replace H:=qc H;obtain⟨rfl,H⟩|⟨rfl,H⟩:=H
 ·have H':=qa H;clear H
  go_enter Tryz.func127,Tryz.ntmps127
  go_wp2_with(first|(refine gd 6 Tryz.func84 (spec_l1In.calls a0 1 10000 true _ c0.out) fun nd=>?_))
  go_loopg [3,4] k (fun kq d0 e0 w'=>∃(g0:Int) (j0:Int),d0= .int .i64 g0∧e0= .int .i64 j0∧Aside0 (spec_ProperSum.l0 kq a0 g0 j0=some r)∧Aside0 (kq≤k)∧Drawn0 w w')
  case atStart=>exact⟨(0),(1),(sd),(sd),H',⟨Nat.le_refl _⟩,dr⟩
  case round=>
   clear H';obtain⟨g0,j0,rfl,rfl,HA,HK1,⟨m1,rfl⟩⟩:=hrel;obtain⟨k1,rfl,H⟩:=kz gk HA;clear HA;simp only[spec_ProperSum.l0]at H;replace H:=qe H;obtain⟨n0,H⟩|⟨n0,H⟩:=H
   ·by_cases p0:j0=0
    ·rw[if_pos p0]at H;exact absurd H (by simp)
    ·rw[if_neg p0]at H;have q0:(j0==0)=false:=beq_eq_false_iff_ne.mpr p0;have r0:(j0 != 0)=true:=bne_iff_ne.mpr p0;replace H:=qq H;obtain⟨s0,t0,H⟩|⟨v0,s0,t0,H⟩:=H
     ·have H':=qa H;clear H;go_wp2
      go_roundg k1
      case measure=>have:=HK1.out;omega
      case rel=>exact⟨(wrap64 (g0+j0)),(wrap64 (j0+1)),(sd),(sd),H',⟨by have:=HK1.out;omega⟩,dr⟩
     ·have H':=qa H;clear H;go_wp2
      go_roundg k1
      case measure=>have:=HK1.out;omega
      case rel=>exact⟨(g0),(wrap64 (j0+1)),(sd),(sd),H',⟨by have:=HK1.out;omega⟩,dr⟩
   ·obtain rfl:=sj H;go_wp2;go_ret;exact⟨sd,dr⟩
 ·obtain rfl:=sj H
  go_enter Tryz.func127,Tryz.ntmps127
  go_wp2_with(first|(refine gd 6 Tryz.func84 (spec_l1In.calls a0 1 10000 false _ c0.out) fun nd=>?_))
  go_ret;exact⟨sd,dr⟩

def spec_KindOf.f (k:Nat) (a0:Int):Option (Int):=(spec_ProperSum.f k a0).bind fun b0=>(if b0<0 then(some (-2))else(if b0<a0 then(some (-1))else(if b0=a0 then(some 0)else(some 1))))
theorem spec_KindOf.calls (k:Nat) (a0:Int) (r:Int) (w:World) (h:spec_KindOf.f k a0=some r):
  Calls Tryz.prog 88 #[.int .i64 a0] w fun e w'=>e= .returned (.int .i64 r)∧Drawn0 w w':=by
 have H:=h;unfold spec_KindOf.f at H;clear h;replace H:=qb H;obtain⟨b0,c0,H⟩:=H;replace H:=qe H;obtain⟨d0,H⟩|⟨d0,H⟩:=H
 ·obtain rfl:=sj H
  go_enter Tryz.func88,Tryz.ntmps88
  go_wp2_with(first|(refine gd 5 Tryz.func127 (spec_ProperSum.calls k a0 b0 _ c0.out) fun nd=>?_))
  go_ret;exact⟨sd,dr⟩
 ·replace H:=qe H;obtain⟨e0,H⟩|⟨e0,H⟩:=H
  ·obtain rfl:=sj H
   go_enter Tryz.func88,Tryz.ntmps88
   go_wp2_with(first|(refine gd 5 Tryz.func127 (spec_ProperSum.calls k a0 b0 _ c0.out) fun nd=>?_))
   go_ret;exact⟨sd,dr⟩
  ·replace H:=qq H;obtain⟨g0,j0,H⟩|⟨l0,g0,j0,H⟩:=H
   ·obtain rfl:=sj H
    go_enter Tryz.func88,Tryz.ntmps88
    go_wp2_with(first|(refine gd 5 Tryz.func127 (spec_ProperSum.calls k a0 b0 _ c0.out) fun nd=>?_))
    go_ret;exact⟨sd,dr⟩
   ·obtain rfl:=sj H
    go_enter Tryz.func88,Tryz.ntmps88
    go_wp2_with(first|(refine gd 5 Tryz.func127 (spec_ProperSum.calls k a0 b0 _ c0.out) fun nd=>?_))
    go_ret;exact⟨sd,dr⟩
mutual
def spec_WayFrom.l0:Nat→List Int→Int→Option (List Int)
 |0,_,_=>none
 |k+1,a0,b0=>(spec_l1In.f b0 1 10000).bind fun c0=>(if c0=true then(spec_WayFrom.j1 k a0 b0 (decide ((a0.length:Int)<30)))else(spec_WayFrom.j1 k a0 b0 false))
def spec_WayFrom.j1:Nat→List Int→Int→Bool→Option (List Int)
 |0,_,_,_=>none
 |k+1,a0,b0,d0=>if d0=true then(spec_WayFrom.l1 k a0 b0 0)else(some a0)
def spec_WayFrom.l1:Nat→List Int→Int→Int→Option (List Int)
 |0,_,_,_=>none
 |k+1,a0,b0,e0=>if e0<(a0.length:Int)then(if 0≤e0 then(if(rd a0 e0)=b0 then(some a0)else(spec_WayFrom.l1 k a0 b0 (wrap64 (e0+1))))else(none))else(if a0.length<17592186044416 then((spec_ProperSum.f k b0).bind fun g0=>(spec_WayFrom.l0 k (a0++[b0]) g0))else(none))
end

def spec_WayFrom.f (k:Nat) (a0:Int):Option (List Int):=spec_WayFrom.l0 k (([]:List Int)) a0
theorem spec_WayFrom.calls (k:Nat) (a0:Int) (r:List Int) (w:World) (h:spec_WayFrom.f k a0=some r):
  Calls Tryz.prog 89 #[.int .i64 a0] w fun e w'=>∃v0_:Value,e= .returned (v0_)∧Kd.R (Kd.int .i64) 3 w' w.heap.size (fun _=>True) v0_ r∧Below w.heap.size w w':=by
 have HB:=qa (Below.refl w.heap.size w);have H:=h;unfold spec_WayFrom.f at H;clear h;obtain⟨b0,hy_⟩:∃y_:List Int,y_=(([]:List Int)):=⟨_,rfl⟩;replace H:(spec_WayFrom.l0 k b0 a0)=some r:=yh;have c0:=qa hy_;clear hy_;have H':=qa H;clear H
 go_enter Tryz.func89,Tryz.ntmps89
 go_wp2_with(first|(refine rli .i64 3 6 c0.out fun d0 e0 g0 hb=>?_;have j0:=qa (Kd.R_lower g0 (below_size (bl)));replace HB:=bs hb;clear hb g0))
 go_loopg [3,4] k (fun kq n0 p0 w'=>∃(q0:List Int) (r0:Int),p0= .int .i64 r0∧Aside0 (spec_WayFrom.l0 kq q0 r0=some r)∧Aside0 (kq≤k)∧Aside0 (Kd.R (Kd.int .i64) 3 w' w.heap.size (fun _=>True) n0 q0)∧Aside0 (Below w.heap.size w w'))
 case atStart=>exact⟨(b0),(a0),(sd),H',⟨Nat.le_refl _⟩,⟨kR j0⟩,⟨bl⟩⟩
 case round=>
  clear H';obtain⟨q0,r0,rfl,HA,HK1,s0,HB⟩:=hrel;obtain⟨k1,rfl,H⟩:=kz gk HA;clear HA;simp only[spec_WayFrom.l0]at H;have t0:=qa H;clear H
  go_upto_region 3 with(fail)
  go_cut [14] (fun v0 wc=>∃(kq:Nat) (w0:Bool),v0= .bool w0∧Aside0 (spec_WayFrom.j1 kq q0 r0 w0=some r)∧Aside0 (kq≤k1)∧Aside0 (Kd.R (Kd.int .i64) 3 wc w.heap.size (fun _=>True) u3 q0)∧Aside0 (Below w.heap.size w wc))
  case first=>
   have H:=t0.out;clear t0;replace H:=qb H;obtain⟨x0,y0,H⟩:=H;replace H:=qc H;obtain⟨rfl,H⟩|⟨rfl,H⟩:=H
   ·have H':=qa H;clear H
    go_wp2_with(first|(refine gd 9 Tryz.func84 (spec_l1In.calls r0 1 10000 true _ y0.out) fun nd=>?_;obtain⟨A0,B0,rfl⟩:=Kd.R_slice s0.out))
    go_meet
    case rel=>exact⟨_,(decide ((q0.length:Int)<30)),(sd),H',⟨z12_⟩,⟨kR s0⟩,⟨bl⟩⟩
   ·have H':=qa H;clear H
    go_wp2_with(first|(refine gd 9 Tryz.func84 (spec_l1In.calls r0 1 10000 false _ y0.out) fun nd=>?_))
    go_meet
    case rel=>exact⟨_,(false),(sd),H',⟨z12_⟩,⟨kR s0⟩,⟨bl⟩⟩
  case rest=>
   clear t0;obtain⟨kq,w0,rfl,HA,C0,s0,HB⟩:=hcut;obtain⟨D0,rfl,H⟩:=kz kq HA;clear HA;simp only[spec_WayFrom.j1]at H;replace H:=qc H;obtain⟨rfl,H⟩|⟨rfl,H⟩:=H
   ·have H':=qa H;clear H;go_wp2
    go_loopg [5] D0 (fun kq E0 w'=>∃(G0:Int),E0= .int .i64 G0∧Aside0 (spec_WayFrom.l1 kq q0 r0 G0=some r)∧Aside0 (kq≤D0)∧Aside0 (Kd.R (Kd.int .i64) 3 w' w.heap.size (fun _=>True) u3 q0)∧Aside0 (Below w.heap.size w w'))
    case atStart=>exact⟨(0),(sd),H',⟨Nat.le_refl _⟩,⟨kR s0⟩,⟨bl⟩⟩
    case round=>
     clear H';obtain⟨G0,rfl,HA,HK3,s0,HB⟩:=hrel;obtain⟨k3,rfl,H⟩:=kz gk HA;clear HA;simp only[spec_WayFrom.l1]at H;replace H:=qe H;obtain⟨J0,H⟩|⟨J0,H⟩:=H
     ·replace H:=qd H;obtain⟨K0,H⟩:=H;replace H:=qq H;obtain⟨L0,M0,H⟩|⟨N0,L0,M0,H⟩:=H
      ·obtain rfl:=sj H;obtain⟨P0,Q0,rfl⟩:=Kd.R_slice s0.out;obtain⟨R0,⟨⟩,U0,V0,W0⟩:=ai (Kd.R_reads' s0.out).2.2 G0;go_wp2;go_ret;exact⟨_,er,kR s0,bl⟩
      ·have H':=qa H;clear H;obtain⟨X0,Y0,rfl⟩:=Kd.R_slice s0.out;obtain⟨R0,⟨⟩,U0,V0,W0⟩:=ai (Kd.R_reads' s0.out).2.2 G0;go_wp2
       go_roundg k3
       case measure=>have:=HK1.out;have:=C0.out;have:=HK3.out;omega
       case rel=>exact⟨(wrap64 (G0+1)),(sd),H',⟨by have:=HK1.out;have:=C0.out;have:=HK3.out;omega⟩,⟨kR s0⟩,⟨bl⟩⟩
     ·replace H:=qn H;obtain⟨a1,H⟩:=H;have b1:=qa a1;clear a1;obtain⟨c1,hy_⟩:∃y_:List Int,y_=(q0++[r0]):=⟨_,rfl⟩;replace H:((spec_ProperSum.f k3 r0).bind fun d1=>(spec_WayFrom.l0 k3 c1 d1))=some r:=yh;have e1:=qa hy_;clear hy_;replace H:=qb H;obtain⟨d1,g1,H⟩:=H;have H':=qa H;clear H;obtain⟨n1,p1,rfl⟩:=Kd.R_slice s0.out
      go_wp2_with(first|((with_reducible refine gate_builtin (b:= .append) (xs:=#[.tmp 28,.tmp 30]) rfl ?_);(try(refine gate_guard (by rfl) ?_;dsimp only));at_builtin;refine Kd.R_append (Kd.int .i64) (w0:=w) w.heap.size rfl (.tmp 28) (.tmp 30) 22 3 (.int .i64 0) 8 rfl Tryz.underlying22 info3 rfl kd_ ko_ (.slice n1 q0.length p1) q0 r0 [.int .i64 r0] (fun _=>True) (fun _=>False) rfl rfl ?aP (fun _ hk=>hk.elim) ?aF ?aO ?aB ?aS ?aL ?_;(case aP=>exact rfl);(case aB=>exact(bl));(case aF=>exact(fun _ _=>trivial));(case aO=>exact(kR s0));(case aS=>exact(below_size (bl)));(case aL=>have:=b1.out;omega);intro q1 r1 ho hb hg hat;rw[←e1.out]at ho;replace HB:=qa (hb);have s1:=qa (ho);clear s0;clear ho hb hg hat)|(refine gd 33 Tryz.func127 (spec_ProperSum.calls k3 r0 d1 _ g1.out) fun nd=>?_))
      go_roundg k3
      case measure=>have:=HK1.out;have:=C0.out;have:=HK3.out;omega
      case rel=>exact⟨(c1),(d1),(sd),H',⟨by have:=HK1.out;have:=C0.out;have:=HK3.out;omega⟩,⟨kR s1⟩,⟨bl⟩⟩
   ·obtain rfl:=sj H;go_wp2;go_ret;exact⟨_,er,kR s0,bl⟩

def spec_HowManyApart.l0:Nat→Int→List (List Int)→Int→Option (Int)
 |0,_,_,_=>none
 |k+1,a0,b0,c0=>if c0<(b0.length:Int)then(if 0≤c0 then(if 0<((rd_L1 b0 c0).length :Int)then(if(rd (rd_L1 b0 c0) 0)=0 then(none)else(spec_HowManyApart.l0 k (wrap64 ((wrap64 (Int.tdiv a0 (rd (rd_L1 b0 c0) 0)))*(wrap64 ((rd (rd_L1 b0 c0) 0)-1)))) b0 (wrap64 (c0+1))))else(none))else(none))else(some a0)
def spec_HowManyApart.f (k:Nat) (a0:Int):Option (Int):=(spec_l1In.f a0 1 10000).bind fun b0=>(if b0=true then((spec_FactorsOf.f k a0).bind fun c0=>(spec_HowManyApart.l0 k a0 c0 0))else(some (-1)))
theorem spec_HowManyApart.calls (k:Nat) (a0:Int) (r:Int) (w:World) (h:spec_HowManyApart.f k a0=some r):
  Calls Tryz.prog 90 #[.int .i64 a0] w fun e w'=>e= .returned (.int .i64 r)∧Below w.heap.size w w':=by
 have HB:=qa (Below.refl w.heap.size w);have H:=h;unfold spec_HowManyApart.f at H;clear h;replace H:=qb H;obtain⟨b0,c0,H⟩:=H;replace H:=qc H;obtain⟨rfl,H⟩|⟨rfl,H⟩:=H
 ·replace H:=qb H;obtain⟨d0,e0,H⟩:=H;have H':=qa H;clear H
  go_enter Tryz.func90,Tryz.ntmps90
  go_wp2_with(first|(go_at_call 84;(with_reducible refine gm (spec_l1In.calls a0 1 10000 true _ c0.out) fun nd=>?_);(try exact dn))|(go_at_call 126;(with_reducible refine(spec_FactorsOf.calls k a0 d0 _ e0.out).mono ?_);rintro e g0 ⟨j0,rfl,n0,hb⟩;have p0:=qa (Kd.S_lower n0 (below_size (bl)));replace HB:=bs hb))
  repeat(go_quiet(first|(go_at_call 84;(with_reducible refine gm (spec_l1In.calls a0 1 10000 true _ c0.out) fun nd=>?_);(try exact dn)));try go_wp2_with(first|(go_at_call 84;(with_reducible refine gm (spec_l1In.calls a0 1 10000 true _ c0.out) fun nd=>?_);(try exact dn))|(go_at_call 126;(with_reducible refine(spec_FactorsOf.calls k a0 d0 _ e0.out).mono ?_);rintro e g0 ⟨j0,rfl,n0,hb⟩;have p0:=qa (Kd.S_lower n0 (below_size (bl)));replace HB:=bs hb)))
  go_loopg [3,5] k (fun kq q0 r0 w'=>∃(s0:Int) (t0:Int),q0= .int .i64 s0∧r0= .int .i64 t0∧Aside0 (spec_HowManyApart.l0 kq s0 d0 t0=some r)∧Aside0 (kq≤k)∧Aside0 (Kd.S (Kd.slice 3 (Kd.int .i64)) 22 w' w.heap.size (fun _=>True) j0 d0)∧Aside0 (Below w.heap.size w w'))
  case atStart=>exact⟨(a0),(0),(sd),(sd),H',⟨Nat.le_refl _⟩,⟨kS p0⟩,⟨bl⟩⟩
  case round=>
   clear H';obtain⟨s0,t0,rfl,rfl,HA,HK1,v0,HB⟩:=hrel;obtain⟨k1,rfl,H⟩:=kz gk HA;clear HA;simp only[spec_HowManyApart.l0]at H;replace H:=qe H;obtain⟨w0,H⟩|⟨w0,H⟩:=H
   ·replace H:=qd H;obtain⟨x0,H⟩:=H;replace H:=qL 0 H;obtain⟨y0,A0,H⟩:=H
    by_cases B0:(rd (rd_L1 d0 t0) 0)=0
    ·rw[if_pos B0]at H;exact absurd H (by simp)
    ·rw[if_neg B0]at H;have C0:((rd (rd_L1 d0 t0) 0)==0)=false:=beq_eq_false_iff_ne.mpr B0;have D0:((rd (rd_L1 d0 t0) 0) != 0)=true:=bne_iff_ne.mpr B0;have H':=qa H;clear H;obtain⟨E0,G0,rfl⟩:=Kd.S_slice v0.out;obtain⟨J0,K0,L0,⟨⟩,M0,HL812_0,N0,P0,Q0,R0⟩:=sg_L1 v0.out t0;obtain⟨U0,⟨⟩,V0,qi813,W0,X0⟩:=ain 0 (by repeat(first|(with_reducible exact N0.out)|(with_reducible refine Kd.C_alloc ?_ _)|(with_reducible refine Kd.C_drewN ?_ _)|(with_reducible refine Kd.C_drew ?_)|exact N0.out)) 0;(try rw[Addr.add_zero']at V0);obtain⟨Y0,a1,b1,HL814_0,c1,d1,e1,g1⟩:=sh_L1 v0.out t0;have ea_:=Option.some.inj (M0.symm.trans b1);(injection ea_ with ea_ en_ ec_);subst ea_;subst ec_;clear en_;obtain⟨j1,⟨⟩,l1,qi815,n1,p1⟩:=ain 0 (by repeat(first|(with_reducible exact c1.out)|(with_reducible refine Kd.C_alloc ?_ _)|(with_reducible refine Kd.C_drewN ?_ _)|(with_reducible refine Kd.C_drew ?_)|exact c1.out)) 0;(try rw[Addr.add_zero']at l1);go_wp2
     repeat(go_quiet(fail);try go_wp2)
     go_roundg k1
     case measure=>have:=HK1.out;omega
     case rel=>exact⟨(wrap64 ((wrap64 (Int.tdiv s0 (rd (rd_L1 d0 t0) 0)))*(wrap64 ((rd (rd_L1 d0 t0) 0)-1)))),(wrap64 (t0+1)),(sd),(sd),H',⟨by have:=HK1.out;omega⟩,⟨kS v0⟩,⟨bl⟩⟩
   ·obtain rfl:=sj H;obtain⟨q1,r1,rfl⟩:=Kd.S_slice v0.out;go_wp2
    repeat(go_quiet(fail);try go_wp2)
    go_ret;exact⟨er,bl⟩
 ·obtain rfl:=sj H
  go_enter Tryz.func90,Tryz.ntmps90
  go_wp2_with(first|(go_at_call 84;(with_reducible refine gm (spec_l1In.calls a0 1 10000 false _ c0.out) fun nd=>?_);(try exact dn)))
  repeat(go_quiet(first|(go_at_call 84;(with_reducible refine gm (spec_l1In.calls a0 1 10000 false _ c0.out) fun nd=>?_);(try exact dn)));try go_wp2_with(first|(go_at_call 84;(with_reducible refine gm (spec_l1In.calls a0 1 10000 false _ c0.out) fun nd=>?_);(try exact dn))))
  go_ret;exact⟨er,bl⟩

def spec_LeavesSign.f (a0:Int):Option (Int):=(spec_l1In.f a0 1 10000).bind fun b0=>(if b0=true then(if(Int.tmod a0 2)=0 then(some 0)else(some (wrap64 (2-(Int.tmod a0 4)))))else(some 0))
theorem spec_LeavesSign.calls (a0:Int) (r:Int) (w:World) (h:spec_LeavesSign.f a0=some r):
  Calls Tryz.prog 128 #[.int .i64 a0] w fun e w'=>e= .returned (.int .i64 r)∧Drawn0 w w':=by
 have H:=h;unfold spec_LeavesSign.f at H;clear h;replace H:=qb H;obtain⟨b0,c0,H⟩:=H;replace H:=qc H;obtain⟨rfl,H⟩|⟨rfl,H⟩:=H
 ·replace H:=qq H;obtain⟨d0,e0,H⟩|⟨g0,d0,e0,H⟩:=H
  ·obtain rfl:=sj H
   go_enter Tryz.func128,Tryz.ntmps128
   go_wp2_with(first|(refine gd 4 Tryz.func84 (spec_l1In.calls a0 1 10000 true _ c0.out) fun nd=>?_))
   go_ret;exact⟨sd,dr⟩
  ·obtain rfl:=sj H
   go_enter Tryz.func128,Tryz.ntmps128
   go_wp2_with(first|(refine gd 4 Tryz.func84 (spec_l1In.calls a0 1 10000 true _ c0.out) fun nd=>?_))
   go_ret;exact⟨sd,dr⟩
 ·obtain rfl:=sj H
  go_enter Tryz.func128,Tryz.ntmps128
  go_wp2_with(first|(refine gd 4 Tryz.func84 (spec_l1In.calls a0 1 10000 false _ c0.out) fun nd=>?_))
  go_ret;exact⟨sd,dr⟩

def spec_ByDivisors.l0:Nat→Int→List Int→Int→Option (Int)
 |0,_,_,_=>none
 |k+1,a0,b0,c0=>if c0<(b0.length:Int)then(if 0≤c0 then((spec_LeavesSign.f (rd b0 c0)).bind fun d0=>(spec_ByDivisors.l0 k (wrap64 (a0+d0)) b0 (wrap64 (c0+1))))else(none))else(some (wrap64 (4*a0)))
def spec_ByDivisors.f (k:Nat) (a0:Int):Option (Int):=(spec_l1In.f a0 1 10000).bind fun b0=>(if b0=true then((spec_DivisorsOf.f k a0).bind fun c0=>(spec_ByDivisors.l0 k 0 c0 0))else(some (-1)))
theorem spec_ByDivisors.calls (k:Nat) (a0:Int) (r:Int) (w:World) (h:spec_ByDivisors.f k a0=some r):
  Calls Tryz.prog 91 #[.int .i64 a0] w fun e w'=>e= .returned (.int .i64 r)∧Below w.heap.size w w':=by
 have HB:=qa (Below.refl w.heap.size w);have H:=h;unfold spec_ByDivisors.f at H;clear h;replace H:=qb H;obtain⟨b0,c0,H⟩:=H;replace H:=qc H;obtain⟨rfl,H⟩|⟨rfl,H⟩:=H
 ·replace H:=qb H;obtain⟨d0,e0,H⟩:=H;have H':=qa H;clear H
  go_enter Tryz.func91,Tryz.ntmps91
  go_wp2_with(first|(refine gd 7 Tryz.func84 (spec_l1In.calls a0 1 10000 true _ c0.out) fun nd=>?_)|(refine ge_ 10 Tryz.func86 (spec_DivisorsOf.calls k a0 d0 _ e0.out) fun g0 j0 n0 hb=>?_;have p0:=qa (Kd.R_lower n0 (below_size (bl)));replace HB:=bs hb))
  go_loopg [3,5] k (fun kq q0 r0 w'=>∃(s0:Int) (t0:Int),q0= .int .i64 s0∧r0= .int .i64 t0∧Aside0 (spec_ByDivisors.l0 kq s0 d0 t0=some r)∧Aside0 (kq≤k)∧Aside0 (Kd.R (Kd.int .i64) 3 w' w.heap.size (fun _=>True) g0 d0)∧Aside0 (Below w.heap.size w w'))
  case atStart=>exact⟨(0),(0),(sd),(sd),H',⟨Nat.le_refl _⟩,⟨kR p0⟩,⟨bl⟩⟩
  case round=>
   clear H';obtain⟨s0,t0,rfl,rfl,HA,HK1,v0,HB⟩:=hrel;obtain⟨k1,rfl,H⟩:=kz gk HA;clear HA;simp only[spec_ByDivisors.l0]at H;replace H:=qe H;obtain⟨w0,H⟩|⟨w0,H⟩:=H
   ·replace H:=qd H;obtain⟨x0,H⟩:=H;replace H:=qb H;obtain⟨y0,A0,H⟩:=H;have H':=qa H;clear H;obtain⟨B0,C0,rfl⟩:=Kd.R_slice v0.out;obtain⟨D0,⟨⟩,E0,G0,J0⟩:=ai (Kd.R_reads' v0.out).2.2 t0
    go_wp2_with(first|(refine gd 22 Tryz.func128 (spec_LeavesSign.calls (rd d0 t0) y0 _ A0.out) fun nd=>?_))
    go_roundg k1
    case measure=>have:=HK1.out;omega
    case rel=>exact⟨(wrap64 (s0+y0)),(wrap64 (t0+1)),(sd),(sd),H',⟨by have:=HK1.out;omega⟩,⟨kR v0⟩,⟨bl⟩⟩
   ·obtain rfl:=sj H;obtain⟨K0,L0,rfl⟩:=Kd.R_slice v0.out;go_wp2;go_ret;exact⟨er,bl⟩
 ·obtain rfl:=sj H
  go_enter Tryz.func91,Tryz.ntmps91
  go_wp2_with(first|(refine gd 7 Tryz.func84 (spec_l1In.calls a0 1 10000 false _ c0.out) fun nd=>?_))
  go_ret;exact⟨er,bl⟩
mutual
def spec_l12Ask.j0:Nat→List Int→ByteArray→Int→Bool→Option (ByteArray)
 |0,_,_,_,_=>none
 |k+1,a0,b0,c0,d0=>if d0=true then(if 0≤(wrap64 (c0-1))then(if(wrap64 (c0-1))<(a0.length:Int)then((spec_l1Number.f k (rd a0 (wrap64 (c0-1)))).bind fun e0=>(some e0))else(none))else(none))else((spec_l1In.f c0 1 10000).bind fun g0=>(if g0=true then(spec_l12Ask.j1 k b0 c0 (b0.toList==([97,116]:List UInt8)))else(spec_l12Ask.j1 k b0 c0 true)))
def spec_l12Ask.j1:Nat→ByteArray→Int→Bool→Option (ByteArray)
 |0,_,_,_=>none
 |k+1,b0,c0,l0=>if l0=true then(some (⟨#[110,111,110,101]⟩:ByteArray))else(if b0.toList=([112,114,105,109,101,115]:List UInt8)then((spec_FactorText.f k c0).bind fun n0=>(some n0))else(if b0.toList=([100,105,118,105,115,111,114,115]:List UInt8)then((spec_DivisorsOf.f k c0).bind fun p0=>((spec_l12Row.f k p0).bind fun q0=>(some q0)))else(if b0.toList=([115,117,109]:List UInt8)then((spec_AllSum.f k c0).bind fun r0=>((spec_l1Number.f k r0).bind fun s0=>(some s0)))else(if b0.toList=([107,105,110,100]:List UInt8)then((some (([(⟨#[112,111,111,114]⟩:ByteArray),(⟨#[112,101,114,102,101,99,116]⟩:ByteArray),(⟨#[114,105,99,104]⟩:ByteArray)]:List ByteArray):List ByteArray)).bind fun t0=>((spec_KindOf.f k c0).bind fun v0=>(if 0≤(wrap64 (v0+1))then(if(wrap64 (v0+1))<(t0.length:Int)then(some (rdOf ByteArray.empty t0 (wrap64 (v0+1))))else(none))else(none))))else(if b0.toList=([119,97,121]:List UInt8)then((spec_WayFrom.f k c0).bind fun w0=>((spec_l12Row.f k w0).bind fun x0=>(some x0)))else(if b0.toList=([97,112,97,114,116]:List UInt8)then((spec_HowManyApart.f k c0).bind fun y0=>((spec_l1Number.f k y0).bind fun A0=>(some A0)))else((spec_ByDivisors.f k c0).bind fun B0=>((spec_l1Number.f k B0).bind fun C0=>(some C0)))))))))
end

def spec_l12Ask.f (k:Nat) (a0:List Int) (b0:ByteArray) (c0:Int):Option (ByteArray):=if b0.toList=([97,116]:List UInt8)then((spec_l1In.f c0 1 24).bind fun d0=>(spec_l12Ask.j0 k a0 b0 c0 d0))else(spec_l12Ask.j0 k a0 b0 c0 false)
theorem spec_l12Ask.calls (k:Nat) (a0:Option Addr) (b0:Nat) (c0:List Int) (d0:ByteArray) (e0:Int) (r:ByteArray) (w:World) (g0:Kd.C (Kd.int .i64) w a0 c0.length c0) (l0:c0.length≤b0) (h:spec_l12Ask.f k c0 d0 e0=some r):
  Calls Tryz.prog 49 #[.slice a0 c0.length b0,.string d0,.int .i64 e0] w fun e w'=>e= .returned (.string r)∧Below w.heap.size w w':=by
 have n0:=qa g0;have p0:=qa l0;clear g0 l0;have HB:=qa (Below.refl w.heap.size w);have H:=h;unfold spec_l12Ask.f at H;clear h;have q0:=qa H;clear H
 go_enter Tryz.func49,Tryz.ntmps49
 go_upto_region 1 with(fail)
 go_cut [12] (fun r0 wc=>∃(kq:Nat) (s0:Bool),r0= .bool s0∧Aside0 (spec_l12Ask.j0 kq c0 d0 e0 s0=some r)∧Aside0 (kq≤k)∧Aside0 (Below w.heap.size w wc))
 case first=>
  have H:=q0.out;clear q0;replace H:=qq H;obtain⟨t0,v0,H⟩|⟨w0,t0,v0,H⟩:=H
  ·(first|rw[t0]|(simp only[i64_w,i32_w];rw[t0])|skip);replace H:=qb H;obtain⟨x0,y0,H⟩:=H;have H':=qa H;clear H
   go_wp2_with(first|(go_at_call 84;(with_reducible refine gm (spec_l1In.calls e0 1 24 x0 _ y0.out) fun nd=>?_)))
   go_meet
   case rel=>exact⟨_,(x0),(sd),H',⟨by first|omega|exact Nat.le_refl _⟩,⟨bl⟩⟩
  ·(first|rw[t0]|(simp only[i64_w,i32_w];rw[t0])|skip);have H':=qa H;clear H;go_wp2;go_meet
   case rel=>exact⟨_,(false),(sd),H',⟨by first|omega|exact Nat.le_refl _⟩,⟨bl⟩⟩
 case rest=>
  clear q0;obtain⟨kq,s0,rfl,HA,A0,HB⟩:=hcut;obtain⟨B0,rfl,H⟩:=kz kq HA;clear HA;simp only[spec_l12Ask.j0]at H;replace H:=qc H;obtain⟨rfl,H⟩|⟨rfl,H⟩:=H
  ·obtain⟨C0,D0⟩:∃j_:Int,(wrap64 (e0-1))=j_:=⟨_,rfl⟩;(first|rw[D0]at H|(try simp only[D0]at H));have E0:(IntKind.i64.wrap (e0-1))=C0:=(i64_w _).trans D0;replace H:=qd H;obtain⟨G0,H⟩:=H;replace H:=qd H;obtain⟨J0,H⟩:=H;replace H:=qb H;obtain⟨K0,L0,H⟩:=H;obtain rfl:=sj H;obtain⟨M0,⟨⟩,N0,P0,Q0⟩:=ai n0.out (C0);(try replace N0:=(HB.out.cell (World.block_lt_of_cell? w _ N0)).trans N0)
   go_wp2_with(first|((with_reducible refine gate_callee (f:=82) rfl ?_);refine goesL_ (some 18) rfl rfl Tryz.func82 kr_ rfl #[.int .i64 (rd c0 (C0))] rfl (by(try simp only[List.map_toArray,List.map_cons,List.map_nil]);first|done|(simp only[D0];rfl)|rfl|(simp only[List.length_drop,List.length_take];rfl)) ?_;(with_reducible refine(spec_l1Number.calls B0 (rd c0 (C0)) K0 _ L0.out).mono ?_);rintro e R0 ⟨rfl,hb⟩;refine⟨_,rfl,?_⟩;replace HB:=bs hb))
   go_ret;exact⟨by first|rfl|(simp[errW_none,errW_some];exact⟨rfl,rfl⟩)|(simp[errW_none,errW_some] <;> rfl)|(simp only[←D0];first|rfl|(simp[errW_none,errW_some] <;> rfl))|(simp[*,errW_none,errW_some] <;> rfl),bl⟩
  ·have U0:=qa H;clear H
   go_upto_region 3 with(fail)
   go_cut [25] (fun V0 wc=>∃(kq:Nat) (W0:Bool),V0= .bool W0∧Aside0 (spec_l12Ask.j1 kq d0 e0 W0=some r)∧Aside0 (kq≤B0)∧Aside0 (Below w.heap.size w wc))
   case first=>
    have H:=U0.out;clear U0;replace H:=qb H;obtain⟨X0,Y0,H⟩:=H;replace H:=qc H;obtain⟨rfl,H⟩|⟨rfl,H⟩:=H
    ·have H':=qa H;clear H
     go_wp2_with(first|(refine gd 20 Tryz.func84 (spec_l1In.calls e0 1 10000 true _ Y0.out) fun nd=>?_))
     go_meet
     case rel=>exact⟨_,((d0.toList==([97,116]:List UInt8))),(sd),H',⟨by have:=A0.out;first|omega|exact Nat.le_refl _⟩,⟨bl⟩⟩
    ·have H':=qa H;clear H
     go_wp2_with(first|(refine gd 20 Tryz.func84 (spec_l1In.calls e0 1 10000 false _ Y0.out) fun nd=>?_))
     go_meet
     case rel=>exact⟨_,(true),(sd),H',⟨by have:=A0.out;first|omega|exact Nat.le_refl _⟩,⟨bl⟩⟩
   case rest=>
    clear U0;obtain⟨kq,W0,rfl,HA,a1,HB⟩:=hcut;obtain⟨b1,rfl,H⟩:=kz kq HA;clear HA;simp only[spec_l12Ask.j1]at H;replace H:=qc H;obtain⟨rfl,H⟩|⟨rfl,H⟩:=H
    ·obtain rfl:=sj H;go_wp2;go_ret;exact⟨er,bl⟩
    ·replace H:=qq H;obtain⟨c1,d1,H⟩|⟨e1,c1,d1,H⟩:=H
     ·replace H:=qb H;obtain⟨g1,l1,H⟩:=H;obtain rfl:=sj H
      go_wp2_with(first|(refine gb 30 Tryz.func85 (spec_FactorText.calls b1 e0 g1 _ l1.out) fun n1 hb=>?_;replace HB:=bs hb))
      go_ret;exact⟨er,bl⟩
     ·replace H:=qq H;obtain⟨p1,q1,H⟩|⟨r1,p1,q1,H⟩:=H
      ·replace H:=qb H;obtain⟨s1,t1,H⟩:=H;replace H:=qb H;obtain⟨v1,w1,H⟩:=H;obtain rfl:=sj H
       go_wp2_with(first|(refine ge_ 34 Tryz.func86 (spec_DivisorsOf.calls b1 e0 s1 _ t1.out) fun x1 y1 A1 hb=>?_;have B1:=qa (Kd.R_lower A1 (below_size (bl)));replace HB:=bs hb;obtain⟨C1,D1,rfl⟩:=Kd.R_slice B1.out)|(refine gb 35 Tryz.func43 (spec_l12Row.calls b1 _ _ s1 v1 _ (cx (Kd.R_reads' B1.out).2.2) ((Kd.R_reads' B1.out).2.1) w1.out) fun E1 hb=>?_;replace B1:=qa (Kd.R_below (kR B1) hb);replace HB:=bs hb))
       go_ret;exact⟨er,bl⟩
      ·replace H:=qq H;obtain⟨G1,J1,H⟩|⟨K1,G1,J1,H⟩:=H
       ·replace H:=qb H;obtain⟨L1,M1,H⟩:=H;replace H:=qb H;obtain⟨N1,P1,H⟩:=H;obtain rfl:=sj H
        go_wp2_with(first|(refine gb 39 Tryz.func87 (spec_AllSum.calls b1 e0 L1 _ M1.out) fun Q1 hb=>?_;replace HB:=bs hb)|(refine gb 40 Tryz.func82 (spec_l1Number.calls b1 L1 N1 _ P1.out) fun R1 hb=>?_;replace HB:=bs hb))
        go_ret;exact⟨er,bl⟩
       ·replace H:=qq H;obtain⟨U1,V1,H⟩|⟨W1,U1,V1,H⟩:=H
        ·replace H:=qs H;obtain⟨X1,Y1,H⟩:=H;replace H:=qb H;obtain⟨a2,b2,H⟩:=H;obtain⟨c2,d2⟩:∃j_:Int,(wrap64 (a2+1))=j_:=⟨_,rfl⟩;(first|rw[d2]at H|(try simp only[d2]at H));(try rw[d2]at b2);have e2:(IntKind.i64.wrap (a2+1))=c2:=(i64_w _).trans d2;replace H:=qd H;obtain⟨g2,H⟩:=H;replace H:=qd H;obtain⟨j2,H⟩:=H;obtain rfl:=sj H
         go_wp2_with(first|(refine rls 9 43 Y1.out fun l2 n2 p2 hb=>?_;have q2:=qa (Kd.R_lower p2 (below_size (bl)));replace HB:=bs hb;clear hb p2)|(refine gd 45 Tryz.func88 (spec_KindOf.calls b1 e0 a2 _ b2.out) fun nd=>?_;obtain⟨r2,s2,rfl⟩:=Kd.R_slice q2.out;obtain⟨t2,⟨⟩,v2,w2,x2⟩:=as_ (Kd.R_reads' q2.out).2.2 (c2)))
         go_ret;exact⟨by first|rfl|(simp[errW_none,errW_some];exact⟨rfl,rfl⟩)|(simp[errW_none,errW_some] <;> rfl)|(simp only[←d2];first|rfl|(simp[errW_none,errW_some] <;> rfl))|(simp[*,errW_none,errW_some] <;> rfl),bl⟩
        ·replace H:=qq H;obtain⟨y2,A2,H⟩|⟨B2,y2,A2,H⟩:=H
         ·replace H:=qb H;obtain⟨C2,D2,H⟩:=H;replace H:=qb H;obtain⟨E2,G2,H⟩:=H;obtain rfl:=sj H
          go_wp2_with(first|(refine ge_ 52 Tryz.func89 (spec_WayFrom.calls b1 e0 C2 _ D2.out) fun J2 K2 A1 hb=>?_;have L2:=qa (Kd.R_lower A1 (below_size (bl)));replace HB:=bs hb;obtain⟨M2,N2,rfl⟩:=Kd.R_slice L2.out)|(refine gb 53 Tryz.func43 (spec_l12Row.calls b1 _ _ C2 E2 _ (cx (Kd.R_reads' L2.out).2.2) ((Kd.R_reads' L2.out).2.1) G2.out) fun P2 hb=>?_;replace L2:=qa (Kd.R_below (kR L2) hb);replace HB:=bs hb))
          go_ret;exact⟨er,bl⟩
         ·replace H:=qq H;obtain⟨Q2,R2,H⟩|⟨U2,Q2,R2,H⟩:=H
          ·replace H:=qb H;obtain⟨V2,W2,H⟩:=H;replace H:=qb H;obtain⟨X2,Y2,H⟩:=H;obtain rfl:=sj H
           go_wp2_with(first|(refine gb 57 Tryz.func90 (spec_HowManyApart.calls b1 e0 V2 _ W2.out) fun a3 hb=>?_;replace HB:=bs hb)|(refine gb 58 Tryz.func82 (spec_l1Number.calls b1 V2 X2 _ Y2.out) fun b3 hb=>?_;replace HB:=bs hb))
           go_ret;exact⟨er,bl⟩
          ·replace H:=qb H;obtain⟨c3,d3,H⟩:=H;replace H:=qb H;obtain⟨e3,g3,H⟩:=H;obtain rfl:=sj H
           go_wp2_with(first|(refine gb 60 Tryz.func91 (spec_ByDivisors.calls b1 e0 c3 _ d3.out) fun j3 hb=>?_;replace HB:=bs hb)|(refine gb 61 Tryz.func82 (spec_l1Number.calls b1 c3 e3 _ g3.out) fun l3 hb=>?_;replace HB:=bs hb))
           go_ret;exact⟨er,bl⟩
mutual
def spec_DeskLine.l0:Nat→List ByteArray→List ByteArray→Int→Int→List Int→List (List Int)→List Int→List (List Int)→Option (List Int×(List (List Int))×ByteArray)
 |0,_,_,_,_,_,_,_,_=>none
 |k+1,a0,b0,c0,d0,e0,g0,j0,n0=>if d0<c0 then(if 0≤d0 then(if d0<(b0.length:Int)then(if(a0.length:Int)=2 then(if 0<(a0.length:Int)then(if(rdOf ByteArray.empty a0 0).toList =(rdOf ByteArray.empty b0 d0).toList then(if 1<(a0.length:Int)then((spec_l1Digits.f k (rdOf ByteArray.empty a0 1)).bind fun p0=>(spec_DeskLine.j1 k a0 (rdOf ByteArray.empty b0 d0) b0 c0 d0 (decide (p0≥0)) e0 g0 j0 n0))else(none))else(spec_DeskLine.j1 k a0 (rdOf ByteArray.empty b0 d0) b0 c0 d0 false e0 g0 j0 n0))else(none))else(spec_DeskLine.j1 k a0 (rdOf ByteArray.empty b0 d0) b0 c0 d0 false e0 g0 j0 n0))else(none))else(none))else(some (j0,n0,(⟨#[119,104,97,116]⟩:ByteArray)))
def spec_DeskLine.j1:Nat→List ByteArray→ByteArray→List ByteArray→Int→Int→Bool→List Int→List (List Int)→List Int→List (List Int)→Option (List Int×(List (List Int))×ByteArray)
 |0,_,_,_,_,_,_,_,_,_,_=>none
 |k+1,a0,q0,b0,c0,d0,r0,e0,g0,j0,n0=>if r0=true then(if 1<(a0.length:Int)then((spec_l1Digits.f k (rdOf ByteArray.empty a0 1)).bind fun s0=>((spec_l12Ask.f k e0 q0 s0).bind fun t0=>(some (j0,n0,t0))))else(none))else(spec_DeskLine.l0 k a0 b0 c0 (wrap64 (d0+1)) e0 g0 j0 n0)
end

def spec_DeskLine.f (k:Nat) (a0:List Int) (b0:List (List Int)) (c0:ByteArray):Option (List Int×(List (List Int))×ByteArray):=(spec_DeskOk.f k a0 b0).bind fun d0=>(if d0=true then((spec_l12Copy.f k a0 b0).bind fun e0=>((spec_ReadDeed.f k c0).bind fun g0=>(if g0.2.2.2=true then((spec_DeskDo.f k a0 b0 g0.1 g0.2.1 g0.2.2.1).bind fun j0=>(if j0.2.2=true then(some (j0.1,j0.2.1,(⟨#[111,107]⟩:ByteArray)))else(some (j0.1,j0.2.1,(⟨#[110,111,116]⟩:ByteArray)))))else(if c0.toList=([102,105,114,115,116]:List UInt8)then(if 8≤(a0.length:Int)then((spec_l12Row.f k (a0.take 8)).bind fun n0=>(some (e0.1,e0.2,n0)))else(none))else(if c0.toList=([109,117,108,116,105,112,108,105,99,97,116,105,118,101]:List UInt8)then((spec_MultiplicativeOk.f k a0).bind fun p0=>((spec_l12Yes.f p0).bind fun q0=>(some (e0.1,e0.2,q0))))else(if c0.toList=([102,117,108,108]:List UInt8)then((spec_FullyOk.f k a0).bind fun r0=>((spec_l12Yes.f r0).bind fun s0=>(some (e0.1,e0.2,s0))))else((spec_l1Cut.f k c0 32).bind fun t0=>((some (([(⟨#[97,116]⟩:ByteArray),(⟨#[112,114,105,109,101,115]⟩:ByteArray),(⟨#[100,105,118,105,115,111,114,115]⟩:ByteArray),(⟨#[115,117,109]⟩:ByteArray),(⟨#[107,105,110,100]⟩:ByteArray),(⟨#[119,97,121]⟩:ByteArray),(⟨#[97,112,97,114,116]⟩:ByteArray),(⟨#[115,113,117,97,114,101,115]⟩:ByteArray)]:List ByteArray):List ByteArray)).bind fun v0=>(spec_DeskLine.l0 k t0 v0 (v0.length:Int) 0 a0 b0 e0.1 e0.2)))))))))else(some (([]:List Int),([]:List (List Int)),(⟨#[]⟩:ByteArray))))
def spec_DeskLine.T22:Bool×List (List Nat×List Nat):=(true,[([],[]),([],[]),([1],[1]),([],[]),([],[]),([4],[4]),([5],[5]),([6],[6]),([2,3,7,7],[2,3,7]),([0,8,0],[0]),([8,9,0,1,2,3,4,5,6,7,8,9],[8])])
def spec_DeskLine.B22:List Nat:=[0,0,2,0,0,16,48,112,254,511,1023]
theorem spec_DeskLine.tab22:rtab .any (opsOf Tryz.f9 22)=spec_DeskLine.T22:=by kernel_rfl
theorem spec_DeskLine.bits22:waitsOk spec_DeskLine.T22.2 spec_DeskLine.B22=true:=by kernel_rfl
theorem spec_DeskLine.calls (k:Nat) (a0:Option Addr) (b0:Nat) (c0:List Int) (d0:Option Addr) (e0:Nat) (g0:List (List Int)) (j0:ByteArray) (n0:List Int) (p0:List (List Int)) (q0:ByteArray) (w:World) (r0:Kd.C (Kd.int .i64) w a0 c0.length c0) (s0:c0.length≤b0) (t0:Kd.C (Kd.slice 3 (Kd.int .i64)) w d0 g0.length g0) (v0:g0.length≤e0) (h:spec_DeskLine.f k c0 g0 j0=some (n0,p0,q0)):
  Calls Tryz.prog 9 #[.agg #[.slice a0 c0.length b0,.slice d0 g0.length e0],.string j0] w fun e w'=>∃v0_ v1_:Value,e= .returned (.tuple #[.agg #[v0_,v1_],.string q0])∧Kd.R (Kd.int .i64) 3 w' w.heap.size (fun _=>True) v0_ n0∧Kd.Q (Kd.slice 3 (Kd.int .i64)) 22 w' w.heap.size (fun k_=>some k_≠(v0_:Value).ownBlock) v1_ p0∧Below w.heap.size w w':=by
 have w0:=Tryz.underlying27;have x0:=Tryz.underlying55;have y0:=qa r0;have A0:=qa s0;clear r0 s0;have B0:=qa t0;have C0:=qa v0;clear t0 v0;have HB:=qa (Below.refl w.heap.size w);have H:=h;unfold spec_DeskLine.f at H;clear h;replace H:=qb H;obtain⟨D0,E0,H⟩:=H;replace H:=qc H;obtain⟨rfl,H⟩|⟨rfl,H⟩:=H
 ·replace H:=qb H;obtain⟨⟨G0,J0⟩,K0,H⟩:=H;(try dsimp only at H);replace H:=qb H;obtain⟨⟨L0,M0,N0,P0⟩,Q0,H⟩:=H;(try dsimp only at H);replace H:=qc H;obtain⟨rfl,H⟩|⟨rfl,H⟩:=H
  ·replace H:=qb H;obtain⟨⟨R0,U0,V0⟩,W0,H⟩:=H;(try dsimp only at H);replace H:=qc H;obtain⟨rfl,H⟩|⟨rfl,H⟩:=H
   ·simp only[Option.some.injEq,Prod.mk.injEq]at H;obtain⟨rfl,rfl,rfl⟩:=H
    go_enter Tryz.func9,Tryz.ntmps9
    go_wp2_with(first|(refine bx 2 #[.slice a0 c0.length b0,.slice d0 g0.length e0] 27 ?_;intro X0 hg Y0 hbox hb;have a1:=qa (hbox);have b1:=gw hg;have c1:=gw hg;replace HB:=bs hb;clear hb hbox hg)|(refine bx 4 #[.slice none 0 0,.slice none 0 0] 27 ?_;intro d1 hg e1 hbox hb;have g1:=qa (hbox);have l1:=gw hg;have n1:=gw hg;replace HB:=bs hb;have p1:=qnl hg a1;have q1:=qng hg a1;replace a1:=qbb a1 hb;clear hb hbox hg;have r1:=p1.out;have s1:=q1.out;obtain⟨t1,v1,w1,x1⟩:=qk2 a1)|(refine gb 15 Tryz.func20 (spec_DeskOk.calls k _ _ c0 _ _ g0 true _ (cx (Kd.C_below y0.out HB.out)) A0.out (cx (Kd.C_below B0.out HB.out)) C0.out E0.out) fun y1 hb=>?_;replace a1:=qbb a1 hb;replace g1:=qbb g1 hb;replace HB:=bs hb;obtain⟨A1,B1,C1,D1⟩:=qk2 a1)|(refine gol (some 19) Tryz.func40 #[.agg #[.slice a0 c0.length b0,.slice d0 g0.length e0]] ?_;(with_reducible refine(spec_l12Copy.calls k _ _ c0 _ _ g0 G0 J0 _ ?E1 ?G1 ?J1 ?K1 K0.out).mono ?_);(case E1=>exact cx (Kd.C_below y0.out HB.out));(case G1=>exact A0.out);(case J1=>exact cx (Kd.C_below B0.out HB.out));(case K1=>exact C0.out);rintro e L1 ⟨M1,N1,rfl,P1,Q1,hb⟩;refine⟨_,rfl,?_⟩;have R1:=qa (Kd.R_lower P1 (below_size (bl)));have U1:=qa (Kd.S_lower Q1 (below_size (bl)));replace a1:=qbb a1 hb;replace g1:=qbb g1 hb;replace HB:=bs hb)|(refine bx 6 #[.slice none 0 0,.slice none 0 0] 27 ?_;intro V1 hg W1 hbox hb;replace R1:=qa (Kd.R_below (kR R1) hb);replace U1:=qa (Kd.S_below (kS U1) hb);have X1:=qa (hbox);have Y1:=gw hg;have a2:=gw hg;replace HB:=bs hb;have b2:=qnl hg a1;have c2:=qng hg a1;replace a1:=qbb a1 hb;have d2:=qnl hg g1;have e2:=qng hg g1;replace g1:=qbb g1 hb;clear hb hbox hg;obtain⟨g2,j2,rfl⟩:=Kd.R_slice R1.out;have l2:=c2.out;have n2:=b2.out;have p2:=e2.out;have q2:=d2.out;obtain⟨r2,s2,t2,v2⟩:=qk2 X1;obtain⟨w2,x2,rfl⟩:=Kd.S_slice U1.out)|(refine gb 22 Tryz.func41 (spec_ReadDeed.calls k j0 L0 M0 N0 true _ Q0.out) fun y2 hb=>?_;replace R1:=qa (Kd.R_below (kFR R1 X1 (fun _ h_=>h_.1)) hb);replace U1:=qa (Kd.S_below (kFS U1 X1 (fun _ h_=>h_.1)) hb);replace a1:=qbb a1 hb;replace g1:=qbb g1 hb;replace X1:=qa (blk_below (g:=V1) (o:= .cells #[.slice g2 G0.length j2,.slice w2 J0.length x2] 27 (0,0)) (kP X1) hb);replace HB:=bs hb)|(refine bx 7 #[.int .i64 0,.int .i64 0,.int .i64 0] 55 ?_;intro A2 hg B2 hbox hb;replace R1:=qa (Kd.R_below (kR R1) hb);replace U1:=qa (Kd.S_below (kS U1) hb);have C2:=qa (hbox);have D2:=gw hg;have E2:=gw hg;replace HB:=bs hb;have G2:=qnl hg a1;have J2:=qng hg a1;replace a1:=qbb a1 hb;have K2:=qnl hg g1;have L2:=qng hg g1;replace g1:=qbb g1 hb;have M2:=qnl hg X1;have N2:=qng hg X1;replace X1:=qbb X1 hb;clear hb hbox hg;have P2:=J2.out;have Q2:=G2.out;have R2:=L2.out;have U2:=K2.out;have V2:=N2.out;have W2:=M2.out;obtain⟨X2,Y2,a3,b3,c3,d3⟩:=qk3 C2;obtain⟨e3,g3,j3,l3⟩:=qk2 a1)|(refine gol (some 29) Tryz.func42 #[.agg #[.slice a0 c0.length b0,.slice d0 g0.length e0],.agg #[.int .i64 L0,.int .i64 M0,.int .i64 N0]] ?_;(with_reducible refine(spec_DeskDo.calls k _ _ c0 _ _ g0 L0 M0 N0 R0 U0 true _ ?E1 ?G1 ?J1 ?K1 W0.out).mono ?_);(case E1=>exact Kd.C_below y0.out (bl));(case G1=>exact A0.out);(case J1=>exact Kd.C_below B0.out (bl));(case K1=>exact C0.out);rintro e n3 ⟨p3,q3,rfl,P1,Q1,hb⟩;refine⟨_,rfl,?_⟩;have r3:=qa (Kd.R_lower (Kd.R_new' P1 (Kd.R_lt (kFR R1 C2 (fun _ h_=>h_.1)))) (below_size (bl)));have s3:=qa (Kd.Q_lower (Kd.Q_new' (Kd.Q_new' Q1 (Kd.R_lt (kFR R1 C2 (fun _ h_=>h_.1)))) (Kd.S_lt (kFS U1 C2 (fun _ h_=>h_.1)))) (below_size (bl)));replace R1:=qa (Kd.R_elder' (kFR R1 C2 (fun _ h_=>h_.1)) (Kd.R_base P1) hb);replace U1:=qa (Kd.S_mono (Kd.S_told (Kd.S_told (Kd.S_old (kFS U1 C2 (fun _ h_=>h_.1)) hb) (Kd.R_base P1)) (Kd.Q_base Q1)) (fun _ h_=>h_.1));replace a1:=qbb a1 hb;replace g1:=qbb g1 hb;replace X1:=qbb X1 hb;replace C2:=qa (blk_below (g:=A2) (o:= .cells #[.int .i64 L0,.int .i64 M0,.int .i64 N0] 55 (0,0)) (kP C2) hb);replace HB:=bs hb)|(refine bx 9 #[.slice none 0 0,.slice none 0 0] 27 ?_;intro t3 hg v3 hbox hb;replace R1:=qa (Kd.R_below (kR R1) hb);replace U1:=qa (Kd.S_below (kS U1) hb);replace r3:=qa (Kd.R_below (kR r3) hb);replace s3:=qa (Kd.Q_below (kQ s3) hb);have w3:=qa (hbox);have x3:=gw hg;have y3:=gw hg;replace HB:=bs hb;have A3:=qnl hg a1;have B3:=qng hg a1;replace a1:=qbb a1 hb;have C3:=qnl hg g1;have D3:=qng hg g1;replace g1:=qbb g1 hb;have E3:=qnl hg X1;have G3:=qng hg X1;replace X1:=qbb X1 hb;have J3:=qnl hg C2;have K3:=qng hg C2;replace C2:=qbb C2 hb;clear hb hbox hg;obtain⟨L3,M3,rfl⟩:=Kd.R_slice r3.out;have N3:=B3.out;have P3:=A3.out;have Q3:=D3.out;have R3:=C3.out;have U3:=G3.out;have V3:=E3.out;have W3:=K3.out;have X3:=J3.out;obtain⟨Y3,a4,b4,c4⟩:=qk2 w3;obtain⟨d4,e4,g4,_⟩:=Kd.Q_slice s3.out;subst g4;obtain⟨j4,l4,n4,p4⟩:=qk2 g1))
    refine bodyPost_ret (results_ct rfl _ _ d1 27 #[.slice L3 R0.length M3,.slice d4 U0.length e4] (0,0) _ rfl (by(with_reducible repeat(first|refine blk_drewN ?_ _|refine blk_drew ?_|refine blk_alloc ?_ _));refine blk_put (cs:=#[.slice L3 R0.length M3,.slice none 0 0]) ?_ 1 _ rfl;(with_reducible repeat(first|refine blk_drewN ?_ _|refine blk_drew ?_|refine blk_alloc ?_ _));refine blk_put (cs:=#[.slice none 0 0,.slice none 0 0]) ?_ 0 _ rfl;(with_reducible repeat(first|refine blk_drewN ?_ _|refine blk_drew ?_|refine blk_alloc ?_ _));refine blk_far ?_ C3.out _;(with_reducible repeat(first|refine blk_drewN ?_ _|refine blk_drew ?_|refine blk_alloc ?_ _));refine blk_far ?_ C3.out _;(with_reducible repeat(first|refine blk_drewN ?_ _|refine blk_drew ?_|refine blk_alloc ?_ _));exact g1.out) Tryz.underlying27 rfl kr_) rfl ?_;exact⟨_,_,er,kGR r3.out w3 g1 (fun _ hk=>trivial),kGQ s3.out w3 g1 (fun _ hk=>hk.1.1.1.1),bl⟩
   ·simp only[Option.some.injEq,Prod.mk.injEq]at H;obtain⟨rfl,rfl,rfl⟩:=H
    go_enter Tryz.func9,Tryz.ntmps9
    go_wp2_with(first|(refine bx 2 #[.slice a0 c0.length b0,.slice d0 g0.length e0] 27 ?_;intro X0 hg q4 hbox hb;have a1:=qa (hbox);have b1:=gw hg;have c1:=gw hg;replace HB:=bs hb;clear hb hbox hg)|(refine bx 4 #[.slice none 0 0,.slice none 0 0] 27 ?_;intro d1 hg r4 hbox hb;have g1:=qa (hbox);have l1:=gw hg;have n1:=gw hg;replace HB:=bs hb;have p1:=qnl hg a1;have q1:=qng hg a1;replace a1:=qbb a1 hb;clear hb hbox hg;have s4:=p1.out;have t4:=q1.out;obtain⟨v4,w4,x4,y4⟩:=qk2 a1)|(refine gb 15 Tryz.func20 (spec_DeskOk.calls k _ _ c0 _ _ g0 true _ (cx (Kd.C_below y0.out HB.out)) A0.out (cx (Kd.C_below B0.out HB.out)) C0.out E0.out) fun A4 hb=>?_;replace a1:=qbb a1 hb;replace g1:=qbb g1 hb;replace HB:=bs hb;obtain⟨B4,C4,D4,E4⟩:=qk2 a1)|(refine gol (some 19) Tryz.func40 #[.agg #[.slice a0 c0.length b0,.slice d0 g0.length e0]] ?_;(with_reducible refine(spec_l12Copy.calls k _ _ c0 _ _ g0 G0 J0 _ ?E1 ?G1 ?J1 ?K1 K0.out).mono ?_);(case E1=>exact cx (Kd.C_below y0.out HB.out));(case G1=>exact A0.out);(case J1=>exact cx (Kd.C_below B0.out HB.out));(case K1=>exact C0.out);rintro e G4 ⟨M1,N1,rfl,P1,Q1,hb⟩;refine⟨_,rfl,?_⟩;have R1:=qa (Kd.R_lower P1 (below_size (bl)));have U1:=qa (Kd.S_lower Q1 (below_size (bl)));replace a1:=qbb a1 hb;replace g1:=qbb g1 hb;replace HB:=bs hb)|(refine bx 6 #[.slice none 0 0,.slice none 0 0] 27 ?_;intro V1 hg J4 hbox hb;replace R1:=qa (Kd.R_below (kR R1) hb);replace U1:=qa (Kd.S_below (kS U1) hb);have X1:=qa (hbox);have Y1:=gw hg;have a2:=gw hg;replace HB:=bs hb;have b2:=qnl hg a1;have c2:=qng hg a1;replace a1:=qbb a1 hb;have d2:=qnl hg g1;have e2:=qng hg g1;replace g1:=qbb g1 hb;clear hb hbox hg;obtain⟨K4,L4,rfl⟩:=Kd.R_slice R1.out;have M4:=c2.out;have N4:=b2.out;have P4:=e2.out;have Q4:=d2.out;obtain⟨R4,U4,V4,W4⟩:=qk2 X1;obtain⟨X4,Y4,rfl⟩:=Kd.S_slice U1.out)|(refine gb 22 Tryz.func41 (spec_ReadDeed.calls k j0 L0 M0 N0 true _ Q0.out) fun a5 hb=>?_;replace R1:=qa (Kd.R_below (kFR R1 X1 (fun _ h_=>h_.1)) hb);replace U1:=qa (Kd.S_below (kFS U1 X1 (fun _ h_=>h_.1)) hb);replace a1:=qbb a1 hb;replace g1:=qbb g1 hb;replace X1:=qa (blk_below (g:=V1) (o:= .cells #[.slice K4 G0.length L4,.slice X4 J0.length Y4] 27 (0,0)) (kP X1) hb);replace HB:=bs hb)|(refine bx 7 #[.int .i64 0,.int .i64 0,.int .i64 0] 55 ?_;intro A2 hg b5 hbox hb;replace R1:=qa (Kd.R_below (kR R1) hb);replace U1:=qa (Kd.S_below (kS U1) hb);have C2:=qa (hbox);have D2:=gw hg;have E2:=gw hg;replace HB:=bs hb;have G2:=qnl hg a1;have J2:=qng hg a1;replace a1:=qbb a1 hb;have K2:=qnl hg g1;have L2:=qng hg g1;replace g1:=qbb g1 hb;have M2:=qnl hg X1;have N2:=qng hg X1;replace X1:=qbb X1 hb;clear hb hbox hg;have c5:=J2.out;have d5:=G2.out;have e5:=L2.out;have g5:=K2.out;have j5:=N2.out;have l5:=M2.out;obtain⟨n5,p5,q5,r5,s5,t5⟩:=qk3 C2;obtain⟨v5,w5,x5,y5⟩:=qk2 a1)|(refine gol (some 29) Tryz.func42 #[.agg #[.slice a0 c0.length b0,.slice d0 g0.length e0],.agg #[.int .i64 L0,.int .i64 M0,.int .i64 N0]] ?_;(with_reducible refine(spec_DeskDo.calls k _ _ c0 _ _ g0 L0 M0 N0 R0 U0 false _ ?E1 ?G1 ?J1 ?K1 W0.out).mono ?_);(case E1=>exact Kd.C_below y0.out (bl));(case G1=>exact A0.out);(case J1=>exact Kd.C_below B0.out (bl));(case K1=>exact C0.out);rintro e A5 ⟨p3,q3,rfl,P1,Q1,hb⟩;refine⟨_,rfl,?_⟩;have r3:=qa (Kd.R_lower (Kd.R_new' P1 (Kd.R_lt (kFR R1 C2 (fun _ h_=>h_.1)))) (below_size (bl)));have s3:=qa (Kd.Q_lower (Kd.Q_new' (Kd.Q_new' Q1 (Kd.R_lt (kFR R1 C2 (fun _ h_=>h_.1)))) (Kd.S_lt (kFS U1 C2 (fun _ h_=>h_.1)))) (below_size (bl)));replace R1:=qa (Kd.R_elder' (kFR R1 C2 (fun _ h_=>h_.1)) (Kd.R_base P1) hb);replace U1:=qa (Kd.S_mono (Kd.S_told (Kd.S_told (Kd.S_old (kFS U1 C2 (fun _ h_=>h_.1)) hb) (Kd.R_base P1)) (Kd.Q_base Q1)) (fun _ h_=>h_.1));replace a1:=qbb a1 hb;replace g1:=qbb g1 hb;replace X1:=qbb X1 hb;replace C2:=qa (blk_below (g:=A2) (o:= .cells #[.int .i64 L0,.int .i64 M0,.int .i64 N0] 55 (0,0)) (kP C2) hb);replace HB:=bs hb)|(refine bx 9 #[.slice none 0 0,.slice none 0 0] 27 ?_;intro t3 hg B5 hbox hb;replace R1:=qa (Kd.R_below (kR R1) hb);replace U1:=qa (Kd.S_below (kS U1) hb);replace r3:=qa (Kd.R_below (kR r3) hb);replace s3:=qa (Kd.Q_below (kQ s3) hb);have w3:=qa (hbox);have x3:=gw hg;have y3:=gw hg;replace HB:=bs hb;have A3:=qnl hg a1;have B3:=qng hg a1;replace a1:=qbb a1 hb;have C3:=qnl hg g1;have D3:=qng hg g1;replace g1:=qbb g1 hb;have E3:=qnl hg X1;have G3:=qng hg X1;replace X1:=qbb X1 hb;have J3:=qnl hg C2;have K3:=qng hg C2;replace C2:=qbb C2 hb;clear hb hbox hg;obtain⟨C5,D5,rfl⟩:=Kd.R_slice r3.out;have E5:=B3.out;have G5:=A3.out;have J5:=D3.out;have K5:=C3.out;have L5:=G3.out;have M5:=E3.out;have N5:=K3.out;have P5:=J3.out;obtain⟨Q5,R5,U5,V5⟩:=qk2 w3;obtain⟨W5,X5,Y5,_⟩:=Kd.Q_slice s3.out;subst Y5;obtain⟨a6,b6,c6,d6⟩:=qk2 g1))
    refine bodyPost_ret (results_ct rfl _ _ d1 27 #[.slice C5 R0.length D5,.slice W5 U0.length X5] (0,0) _ rfl (by(with_reducible repeat(first|refine blk_drewN ?_ _|refine blk_drew ?_|refine blk_alloc ?_ _));refine blk_put (cs:=#[.slice C5 R0.length D5,.slice none 0 0]) ?_ 1 _ rfl;(with_reducible repeat(first|refine blk_drewN ?_ _|refine blk_drew ?_|refine blk_alloc ?_ _));refine blk_put (cs:=#[.slice none 0 0,.slice none 0 0]) ?_ 0 _ rfl;(with_reducible repeat(first|refine blk_drewN ?_ _|refine blk_drew ?_|refine blk_alloc ?_ _));refine blk_far ?_ C3.out _;(with_reducible repeat(first|refine blk_drewN ?_ _|refine blk_drew ?_|refine blk_alloc ?_ _));refine blk_far ?_ C3.out _;(with_reducible repeat(first|refine blk_drewN ?_ _|refine blk_drew ?_|refine blk_alloc ?_ _));exact g1.out) Tryz.underlying27 rfl kr_) rfl ?_;exact⟨_,_,er,kGR r3.out w3 g1 (fun _ hk=>trivial),kGQ s3.out w3 g1 (fun _ hk=>hk.1.1.1.1),bl⟩
  ·replace H:=qq H;obtain⟨e6,g6,H⟩|⟨j6,e6,g6,H⟩:=H
   ·replace H:=qn H;obtain⟨l6,H⟩:=H;have n6:=eq_true l6;have p6:decide (8≤(c0.length:Int))=true:=decide_eq_true l6;clear l6;replace H:=qb H;obtain⟨q6,r6,H⟩:=H;simp only[Option.some.injEq,Prod.mk.injEq]at H;obtain⟨rfl,rfl,rfl⟩:=H
    go_enter Tryz.func9,Tryz.ntmps9
    try go_wp2_with(first|(refine bx 2 #[.slice a0 c0.length b0,.slice d0 g0.length e0] 27 ?_;intro X0 hg s6 hbox hb;have a1:=qa (hbox);have b1:=gw hg;have c1:=gw hg;replace HB:=bs hb;clear hb hbox hg)|(refine bx 4 #[.slice none 0 0,.slice none 0 0] 27 ?_;intro d1 hg t6 hbox hb;have g1:=qa (hbox);have l1:=gw hg;have n1:=gw hg;replace HB:=bs hb;have p1:=qnl hg a1;have q1:=qng hg a1;replace a1:=qbb a1 hb;clear hb hbox hg;have v6:=p1.out;have w6:=q1.out;obtain⟨x6,y6,A6,B6⟩:=qk2 a1)|(refine gb 15 Tryz.func20 (spec_DeskOk.calls k _ _ c0 _ _ g0 true _ (cx (Kd.C_below y0.out HB.out)) A0.out (cx (Kd.C_below B0.out HB.out)) C0.out E0.out) fun C6 hb=>?_;replace a1:=qbb a1 hb;replace g1:=qbb g1 hb;replace HB:=bs hb;obtain⟨D6,E6,G6,J6⟩:=qk2 a1)|(refine gol (some 19) Tryz.func40 #[.agg #[.slice a0 c0.length b0,.slice d0 g0.length e0]] ?_;(with_reducible refine(spec_l12Copy.calls k _ _ c0 _ _ g0 G0 J0 _ ?E1 ?G1 ?J1 ?K1 K0.out).mono ?_);(case E1=>exact cx (Kd.C_below y0.out HB.out));(case G1=>exact A0.out);(case J1=>exact cx (Kd.C_below B0.out HB.out));(case K1=>exact C0.out);rintro e K6 ⟨M1,N1,rfl,P1,Q1,hb⟩;refine⟨_,rfl,?_⟩;have R1:=qa (Kd.R_lower P1 (below_size (bl)));have U1:=qa (Kd.S_lower Q1 (below_size (bl)));replace a1:=qbb a1 hb;replace g1:=qbb g1 hb;replace HB:=bs hb)|(refine bx 6 #[.slice none 0 0,.slice none 0 0] 27 ?_;intro V1 hg L6 hbox hb;replace R1:=qa (Kd.R_below (kR R1) hb);replace U1:=qa (Kd.S_below (kS U1) hb);have X1:=qa (hbox);have Y1:=gw hg;have a2:=gw hg;replace HB:=bs hb;have b2:=qnl hg a1;have c2:=qng hg a1;replace a1:=qbb a1 hb;have d2:=qnl hg g1;have e2:=qng hg g1;replace g1:=qbb g1 hb;clear hb hbox hg;obtain⟨M6,N6,rfl⟩:=Kd.R_slice R1.out;have P6:=c2.out;have Q6:=b2.out;have R6:=e2.out;have U6:=d2.out;obtain⟨V6,W6,X6,Y6⟩:=qk2 X1;obtain⟨a7,b7,rfl⟩:=Kd.S_slice U1.out)|(refine gb 22 Tryz.func41 (spec_ReadDeed.calls k j0 L0 M0 N0 false _ Q0.out) fun c7 hb=>?_;replace R1:=qa (Kd.R_below (kFR R1 X1 (fun _ h_=>h_.1)) hb);replace U1:=qa (Kd.S_below (kFS U1 X1 (fun _ h_=>h_.1)) hb);replace a1:=qbb a1 hb;replace g1:=qbb g1 hb;replace X1:=qa (blk_below (g:=V1) (o:= .cells #[.slice M6 G0.length N6,.slice a7 J0.length b7] 27 (0,0)) (kP X1) hb);replace HB:=bs hb)|(refine bx 7 #[.int .i64 0,.int .i64 0,.int .i64 0] 55 ?_;intro A2 hg d7 hbox hb;replace R1:=qa (Kd.R_below (kR R1) hb);replace U1:=qa (Kd.S_below (kS U1) hb);have C2:=qa (hbox);have D2:=gw hg;have E2:=gw hg;replace HB:=bs hb;have G2:=qnl hg a1;have J2:=qng hg a1;replace a1:=qbb a1 hb;have K2:=qnl hg g1;have L2:=qng hg g1;replace g1:=qbb g1 hb;have M2:=qnl hg X1;have N2:=qng hg X1;replace X1:=qbb X1 hb;clear hb hbox hg;have e7:=J2.out;have g7:=G2.out;have j7:=L2.out;have l7:=K2.out;have n7:=N2.out;have p7:=M2.out;obtain⟨q7,r7,s7,t7,v7,w7⟩:=qk3 C2))
    have n0_:Aside0 (Kd.R (Kd.int .i64) 3 (((d7.setCell ⟨A2,0,none⟩ (.int .i64 L0)).setCell ⟨A2,1,none⟩ (.int .i64 M0)).setCell ⟨A2,2,none⟩ (.int .i64 N0)) w.heap.size (fun _=>True) (.slice M6 G0.length N6) G0):=⟨kFR R1 C2 (fun _ hk=>trivial)⟩;have n1_:Aside0 (Kd.S (Kd.slice 3 (Kd.int .i64)) 22 (((d7.setCell ⟨A2,0,none⟩ (.int .i64 L0)).setCell ⟨A2,1,none⟩ (.int .i64 M0)).setCell ⟨A2,2,none⟩ (.int .i64 N0)) w.heap.size (fun k_=>some k_≠(.slice M6 G0.length N6:Value).ownBlock) (.slice a7 J0.length b7) J0):=⟨kFS U1 C2 (fun _ hk=>hk.1)⟩;have n2_:Aside0 ((((d7.setCell ⟨A2,0,none⟩ (.int .i64 L0)).setCell ⟨A2,1,none⟩ (.int .i64 M0)).setCell ⟨A2,2,none⟩ (.int .i64 N0)).heap[X0]? =some (.cells #[.slice a0 c0.length b0,.slice d0 g0.length e0] 27 (0,0))):=⟨kb a1⟩;have n3_:Aside0 ((((d7.setCell ⟨A2,0,none⟩ (.int .i64 L0)).setCell ⟨A2,1,none⟩ (.int .i64 M0)).setCell ⟨A2,2,none⟩ (.int .i64 N0)).heap[d1]? =some (.cells #[.slice none 0 0,.slice none 0 0] 27 (0,0))):=⟨kb g1⟩;have n4_:Aside0 ((((d7.setCell ⟨A2,0,none⟩ (.int .i64 L0)).setCell ⟨A2,1,none⟩ (.int .i64 M0)).setCell ⟨A2,2,none⟩ (.int .i64 N0)).heap[V1]? =some (.cells #[.slice M6 G0.length N6,.slice a7 J0.length b7] 27 (0,0))):=⟨kb X1⟩;have n5_:Aside0 ((((d7.setCell ⟨A2,0,none⟩ (.int .i64 L0)).setCell ⟨A2,1,none⟩ (.int .i64 M0)).setCell ⟨A2,2,none⟩ (.int .i64 N0)).heap[A2]? =some (.cells #[.int .i64 L0,.int .i64 M0,.int .i64 N0] 55 (0,0))):=⟨kP C2⟩;have n6_:Aside0 (Below w.heap.size w (((d7.setCell ⟨A2,0,none⟩ (.int .i64 L0)).setCell ⟨A2,1,none⟩ (.int .i64 M0)).setCell ⟨A2,2,none⟩ (.int .i64 N0))):=⟨bl⟩;(try clear R1);(try clear U1);(try clear a1);(try clear g1);(try clear X1);(try clear C2);(try clear HB);generalize (((d7.setCell ⟨A2,0,none⟩ (.int .i64 L0)).setCell ⟨A2,1,none⟩ (.int .i64 M0)).setCell ⟨A2,2,none⟩ (.int .i64 N0))=x7 at n0_ n1_ n2_ n3_ n4_ n5_ n6_ ⊢;have R1:=n0_;have U1:=n1_;have a1:=n2_;have g1:=n3_;have X1:=n4_;have C2:=n5_;have HB:=n6_;clear n0_ n1_ n2_ n3_ n4_ n5_ n6_;replace R1:=qa (Kd.R_drew R1.out);replace U1:=qa (Kd.S_drew U1.out);replace a1:=qa (blk_drew a1.out);replace g1:=qa (blk_drew g1.out);replace X1:=qa (blk_drew X1.out);replace C2:=qa (blk_drew C2.out);replace HB:=qa (below_drew1 HB.out);obtain⟨i094,y7,_,A7,_⟩:=info_parts info3;obtain⟨B7,hA94,hC94⟩:=print_take_of (P:=Tryz.prog) (Value.int .i64) 0 22 3 .i64 Tryz.underlying22 y7 A7 a0 b0 c0 8 ko_ (qo) A0.out;have C7:=qa (Kd.C_of_reads (h1:=fun _=>rfl) (hA94 _ (Kd.reads_of_C y0.out)));have D7:=qa hC94;clear hA94 hC94 y7 A7;refine start_ (n:=7) (S:=fun w'=>w'.cell? ⟨V1,0,none⟩=some (.slice M6 G0.length N6)∧w'.cell? ⟨V1,1,none⟩=some (.slice a7 J0.length b7)∧w'.cell? ⟨X0,0,none⟩=some (.slice a0 c0.length b0)∧w'.cell? ⟨X0,1,none⟩=some (.slice d0 g0.length e0)) (ds:=[]) _ kr_ rfl rfl ⟨(blk_cell X1.out 0).trans rfl,(blk_cell X1.out 1).trans rfl,(blk_cell a1.out 0).trans rfl,(blk_cell a1.out 1).trans rfl⟩ (fun hHeld=>?_);generalize x7.drew=E7 at R1 U1 a1 g1 X1 C2 HB C7 hHeld ⊢;refine pq 1 40 (bz 7 2) kr_ ?_;refine tk 0 39 (bz 7 3) hHeld kr_ ?_;refine tk 2 41 (bz 7 7) hHeld kr_ ?_;refine pq 3 42 (bz 7 15) kr_ ?_;(refine o1 4 (some 43) (bz 7 31) kr_ fun K hK=>?_);refine goes_ Tryz.func43 kr_ rfl #[.slice a0 (c0.take 8).length b0] (by rfl) rfl rfl z49_ ?_
    with_reducible refine(spec_l12Row.calls k _ _ (c0.take 8) q6 _ ?E1 ?G1 r6.out).mono ?_
    (case E1=>exact cx (Kd.C_below C7.out HB.out));(case G1=>exact D7.out);rintro e G7 ⟨rfl,hb⟩;refine⟨_,rfl,?_⟩;replace R1:=qa (Kd.R_below (kR R1) hb);replace U1:=qa (Kd.S_below (kS U1) hb);replace a1:=qbb a1 hb;replace g1:=qbb g1 hb;replace X1:=qbb X1 hb;replace C2:=qbb C2 hb;replace HB:=bs hb;(try clear hb);(try clear J7);(try clear hk);(try clear hi);refine hK.out _ _ ⟨(blk_cell X1.out 0).trans rfl,(blk_cell X1.out 1).trans rfl,(blk_cell a1.out 0).trans rfl,(blk_cell a1.out 1).trans rfl⟩ (fun hHeld=>?_);clear hK K;refine nm 43 ?_;(refine o1 5 none (bz 7 63) kr_ fun K hK=>?_);have K7:G7.cell? ⟨d1,0,none⟩=some (.slice none 0 0):=(blk_cell g1.out 0).trans rfl;have L7:=blk_frozen g1.out 0;have M7:=p1.out;have N7:=e2.out;have P7:=L2.out;have Q7:=q1.out;have R7:=d2.out;have U7:=K2.out;have V7:G7.cell? ⟨d1,1,none⟩=some (.slice none 0 0):=(blk_cell g1.out 1).trans rfl;have W7:=blk_frozen g1.out 1;have X7:=p1.out;have Y7:=e2.out;have a8:=L2.out;have b8:=q1.out;have c8:=d2.out;have d8:=K2.out;refine skip_ (w1:=?_) (by rfl) rfl ?_ ?_;rotate_left
    ·go_simp
     rfl
    refine hK.out _ _ ⟨((cell_far (p:=⟨d1,_,none⟩) e2.out _).trans (((cell_far (p:=⟨d1,_,none⟩) e2.out _).trans (hHeld.1)))),((cell_far (p:=⟨d1,_,none⟩) e2.out _).trans (((cell_far (p:=⟨d1,_,none⟩) e2.out _).trans (hHeld.2.1)))),((cell_far (p:=⟨d1,_,none⟩) p1.out _).trans (((cell_far (p:=⟨d1,_,none⟩) p1.out _).trans (hHeld.2.2.1)))),((cell_far (p:=⟨d1,_,none⟩) p1.out _).trans (((cell_far (p:=⟨d1,_,none⟩) p1.out _).trans (hHeld.2.2.2))))⟩ (fun hHeld=>?_);clear hK K;refine pq 6 5 (bz 7 127) kr_ ?_;refine done_ kr_ ?_
    try go_wp2
    refine bodyPost_ret (results_ct rfl _ _ d1 27 #[.slice M6 G0.length N6,.slice a7 J0.length b7] (0,0) _ rfl (kP g1) Tryz.underlying27 rfl kr_) rfl ?_;exact⟨_,_,er,kFR R1 g1 (fun _ hk=>trivial),Kd.Q_of_R ((Kd.S_R (kFS U1 g1 (fun _ hk=>hk.1)))),bl⟩
   ·replace H:=qq H;obtain⟨e8,g8,H⟩|⟨j8,e8,g8,H⟩:=H
    ·replace H:=qb H;obtain⟨l8,n8,H⟩:=H;replace H:=qb H;obtain⟨p8,q8,H⟩:=H;simp only[Option.some.injEq,Prod.mk.injEq]at H;obtain⟨rfl,rfl,rfl⟩:=H
     go_enter Tryz.func9,Tryz.ntmps9
     try go_wp2_with(first|(refine bx 2 #[.slice a0 c0.length b0,.slice d0 g0.length e0] 27 ?_;intro X0 hg r8 hbox hb;have a1:=qa (hbox);have b1:=gw hg;have c1:=gw hg;replace HB:=bs hb;clear hb hbox hg)|(refine bx 4 #[.slice none 0 0,.slice none 0 0] 27 ?_;intro d1 hg s8 hbox hb;have g1:=qa (hbox);have l1:=gw hg;have n1:=gw hg;replace HB:=bs hb;have p1:=qnl hg a1;have q1:=qng hg a1;replace a1:=qbb a1 hb;clear hb hbox hg;have t8:=p1.out;have v8:=q1.out;obtain⟨w8,x8,y8,A8⟩:=qk2 a1)|(refine gb 15 Tryz.func20 (spec_DeskOk.calls k _ _ c0 _ _ g0 true _ (cx (Kd.C_below y0.out HB.out)) A0.out (cx (Kd.C_below B0.out HB.out)) C0.out E0.out) fun B8 hb=>?_;replace a1:=qbb a1 hb;replace g1:=qbb g1 hb;replace HB:=bs hb;obtain⟨C8,D8,E8,G8⟩:=qk2 a1)|(refine gol (some 19) Tryz.func40 #[.agg #[.slice a0 c0.length b0,.slice d0 g0.length e0]] ?_;(with_reducible refine(spec_l12Copy.calls k _ _ c0 _ _ g0 G0 J0 _ ?E1 ?G1 ?J1 ?K1 K0.out).mono ?_);(case E1=>exact cx (Kd.C_below y0.out HB.out));(case G1=>exact A0.out);(case J1=>exact cx (Kd.C_below B0.out HB.out));(case K1=>exact C0.out);rintro e J8 ⟨M1,N1,rfl,P1,Q1,hb⟩;refine⟨_,rfl,?_⟩;have R1:=qa (Kd.R_lower P1 (below_size (bl)));have U1:=qa (Kd.S_lower Q1 (below_size (bl)));replace a1:=qbb a1 hb;replace g1:=qbb g1 hb;replace HB:=bs hb)|(refine bx 6 #[.slice none 0 0,.slice none 0 0] 27 ?_;intro V1 hg K8 hbox hb;replace R1:=qa (Kd.R_below (kR R1) hb);replace U1:=qa (Kd.S_below (kS U1) hb);have X1:=qa (hbox);have Y1:=gw hg;have a2:=gw hg;replace HB:=bs hb;have b2:=qnl hg a1;have c2:=qng hg a1;replace a1:=qbb a1 hb;have d2:=qnl hg g1;have e2:=qng hg g1;replace g1:=qbb g1 hb;clear hb hbox hg;obtain⟨L8,M8,rfl⟩:=Kd.R_slice R1.out;have N8:=c2.out;have P8:=b2.out;have Q8:=e2.out;have R8:=d2.out;obtain⟨U8,V8,W8,X8⟩:=qk2 X1;obtain⟨Y8,a9,rfl⟩:=Kd.S_slice U1.out)|(refine gb 22 Tryz.func41 (spec_ReadDeed.calls k j0 L0 M0 N0 false _ Q0.out) fun b9 hb=>?_;replace R1:=qa (Kd.R_below (kFR R1 X1 (fun _ h_=>h_.1)) hb);replace U1:=qa (Kd.S_below (kFS U1 X1 (fun _ h_=>h_.1)) hb);replace a1:=qbb a1 hb;replace g1:=qbb g1 hb;replace X1:=qa (blk_below (g:=V1) (o:= .cells #[.slice L8 G0.length M8,.slice Y8 J0.length a9] 27 (0,0)) (kP X1) hb);replace HB:=bs hb)|(refine bx 7 #[.int .i64 0,.int .i64 0,.int .i64 0] 55 ?_;intro A2 hg c9 hbox hb;replace R1:=qa (Kd.R_below (kR R1) hb);replace U1:=qa (Kd.S_below (kS U1) hb);have C2:=qa (hbox);have D2:=gw hg;have E2:=gw hg;replace HB:=bs hb;have G2:=qnl hg a1;have J2:=qng hg a1;replace a1:=qbb a1 hb;have K2:=qnl hg g1;have L2:=qng hg g1;replace g1:=qbb g1 hb;have M2:=qnl hg X1;have N2:=qng hg X1;replace X1:=qbb X1 hb;clear hb hbox hg;have d9:=J2.out;have e9:=G2.out;have g9:=L2.out;have j9:=K2.out;have l9:=N2.out;have n9:=M2.out;obtain⟨p9,q9,r9,s9,t9,v9⟩:=qk3 C2))
     have n0_:Aside0 (Kd.R (Kd.int .i64) 3 (((c9.setCell ⟨A2,0,none⟩ (.int .i64 L0)).setCell ⟨A2,1,none⟩ (.int .i64 M0)).setCell ⟨A2,2,none⟩ (.int .i64 N0)) w.heap.size (fun _=>True) (.slice L8 G0.length M8) G0):=⟨kFR R1 C2 (fun _ hk=>trivial)⟩;have n1_:Aside0 (Kd.S (Kd.slice 3 (Kd.int .i64)) 22 (((c9.setCell ⟨A2,0,none⟩ (.int .i64 L0)).setCell ⟨A2,1,none⟩ (.int .i64 M0)).setCell ⟨A2,2,none⟩ (.int .i64 N0)) w.heap.size (fun k_=>some k_≠(.slice L8 G0.length M8:Value).ownBlock) (.slice Y8 J0.length a9) J0):=⟨kFS U1 C2 (fun _ hk=>hk.1)⟩;have n2_:Aside0 ((((c9.setCell ⟨A2,0,none⟩ (.int .i64 L0)).setCell ⟨A2,1,none⟩ (.int .i64 M0)).setCell ⟨A2,2,none⟩ (.int .i64 N0)).heap[X0]? =some (.cells #[.slice a0 c0.length b0,.slice d0 g0.length e0] 27 (0,0))):=⟨kb a1⟩;have n3_:Aside0 ((((c9.setCell ⟨A2,0,none⟩ (.int .i64 L0)).setCell ⟨A2,1,none⟩ (.int .i64 M0)).setCell ⟨A2,2,none⟩ (.int .i64 N0)).heap[d1]? =some (.cells #[.slice none 0 0,.slice none 0 0] 27 (0,0))):=⟨kb g1⟩;have n4_:Aside0 ((((c9.setCell ⟨A2,0,none⟩ (.int .i64 L0)).setCell ⟨A2,1,none⟩ (.int .i64 M0)).setCell ⟨A2,2,none⟩ (.int .i64 N0)).heap[V1]? =some (.cells #[.slice L8 G0.length M8,.slice Y8 J0.length a9] 27 (0,0))):=⟨kb X1⟩;have n5_:Aside0 ((((c9.setCell ⟨A2,0,none⟩ (.int .i64 L0)).setCell ⟨A2,1,none⟩ (.int .i64 M0)).setCell ⟨A2,2,none⟩ (.int .i64 N0)).heap[A2]? =some (.cells #[.int .i64 L0,.int .i64 M0,.int .i64 N0] 55 (0,0))):=⟨kP C2⟩;have n6_:Aside0 (Below w.heap.size w (((c9.setCell ⟨A2,0,none⟩ (.int .i64 L0)).setCell ⟨A2,1,none⟩ (.int .i64 M0)).setCell ⟨A2,2,none⟩ (.int .i64 N0))):=⟨bl⟩;(try clear R1);(try clear U1);(try clear a1);(try clear g1);(try clear X1);(try clear C2);(try clear HB);generalize (((c9.setCell ⟨A2,0,none⟩ (.int .i64 L0)).setCell ⟨A2,1,none⟩ (.int .i64 M0)).setCell ⟨A2,2,none⟩ (.int .i64 N0))=w9 at n0_ n1_ n2_ n3_ n4_ n5_ n6_ ⊢;have R1:=n0_;have U1:=n1_;have a1:=n2_;have g1:=n3_;have X1:=n4_;have C2:=n5_;have HB:=n6_;clear n0_ n1_ n2_ n3_ n4_ n5_ n6_;replace R1:=qa (Kd.R_drew R1.out);replace U1:=qa (Kd.S_drew U1.out);replace a1:=qa (blk_drew a1.out);replace g1:=qa (blk_drew g1.out);replace X1:=qa (blk_drew X1.out);replace C2:=qa (blk_drew C2.out);replace HB:=qa (below_drew1 HB.out);refine start_ (n:=7) (S:=fun w'=>w'.cell? ⟨V1,0,none⟩=some (.slice L8 G0.length M8)∧w'.cell? ⟨V1,1,none⟩=some (.slice Y8 J0.length a9)∧w'.cell? ⟨X0,0,none⟩=some (.slice a0 c0.length b0)∧w'.cell? ⟨X0,1,none⟩=some (.slice d0 g0.length e0)) (ds:=[]) _ kr_ rfl rfl ⟨(blk_cell X1.out 0).trans rfl,(blk_cell X1.out 1).trans rfl,(blk_cell a1.out 0).trans rfl,(blk_cell a1.out 1).trans rfl⟩ (fun hHeld=>?_);generalize w9.drew=x9 at R1 U1 a1 g1 X1 C2 HB hHeld ⊢;refine pq 1 47 (bz 7 2) kr_ ?_;refine tk 0 46 (bz 7 3) hHeld kr_ ?_;refine tk 2 48 (bz 7 7) hHeld kr_ ?_;(refine o1 3 (some 49) (bz 7 15) kr_ fun K hK=>?_);(refine gsd Tryz.func45 (spec_MultiplicativeOk.calls k _ _ c0 l8 _ (cx (Kd.C_below y0.out HB.out)) A0.out n8.out) fun nd=>?_);refine hK.out _ _ ⟨(blk_cell X1.out 0).trans rfl,(blk_cell X1.out 1).trans rfl,(blk_cell a1.out 0).trans rfl,(blk_cell a1.out 1).trans rfl⟩ (fun hHeld=>?_);clear hK K;refine nm 49 ?_;(refine o1 4 (some 50) (bz 7 31) kr_ fun K hK=>?_);(refine gsd Tryz.func44 (spec_l12Yes.calls l8 p8 _ q8.out) fun nd=>?_);refine hK.out _ _ ⟨(blk_cell X1.out 0).trans rfl,(blk_cell X1.out 1).trans rfl,(blk_cell a1.out 0).trans rfl,(blk_cell a1.out 1).trans rfl⟩ (fun hHeld=>?_);clear hK K;refine nm 50 ?_;(refine o1 5 none (bz 7 63) kr_ fun K hK=>?_);have y9:x9.cell? ⟨d1,0,none⟩=some (.slice none 0 0):=(blk_cell g1.out 0).trans rfl;have A9:=blk_frozen g1.out 0;have B9:=p1.out;have C9:=e2.out;have D9:=L2.out;have E9:=q1.out;have G9:=d2.out;have J9:=K2.out;have K9:x9.cell? ⟨d1,1,none⟩=some (.slice none 0 0):=(blk_cell g1.out 1).trans rfl;have L9:=blk_frozen g1.out 1;have M9:=p1.out;have N9:=e2.out;have P9:=L2.out;have Q9:=q1.out;have R9:=d2.out;have U9:=K2.out;refine skip_ (w1:=?_) (by rfl) rfl ?_ ?_;rotate_left
     ·go_simp
      rfl
     refine hK.out _ _ ⟨((cell_far (p:=⟨d1,_,none⟩) e2.out _).trans (((cell_far (p:=⟨d1,_,none⟩) e2.out _).trans (hHeld.1)))),((cell_far (p:=⟨d1,_,none⟩) e2.out _).trans (((cell_far (p:=⟨d1,_,none⟩) e2.out _).trans (hHeld.2.1)))),((cell_far (p:=⟨d1,_,none⟩) p1.out _).trans (((cell_far (p:=⟨d1,_,none⟩) p1.out _).trans (hHeld.2.2.1)))),((cell_far (p:=⟨d1,_,none⟩) p1.out _).trans (((cell_far (p:=⟨d1,_,none⟩) p1.out _).trans (hHeld.2.2.2))))⟩ (fun hHeld=>?_);clear hK K;refine pq 6 5 (bz 7 127) kr_ ?_;refine done_ kr_ ?_
     try go_wp2
     refine bodyPost_ret (results_ct rfl _ _ d1 27 #[.slice L8 G0.length M8,.slice Y8 J0.length a9] (0,0) _ rfl (kP g1) Tryz.underlying27 rfl kr_) rfl ?_;exact⟨_,_,er,kFR R1 g1 (fun _ hk=>trivial),Kd.Q_of_R ((Kd.S_R (kFS U1 g1 (fun _ hk=>hk.1)))),bl⟩
    ·replace H:=qq H;obtain⟨V9,W9,H⟩|⟨X9,V9,W9,H⟩:=H
     ·replace H:=qb H;obtain⟨Y9,a10,H⟩:=H;replace H:=qb H;obtain⟨b10,c10,H⟩:=H;simp only[Option.some.injEq,Prod.mk.injEq]at H;obtain⟨rfl,rfl,rfl⟩:=H
      go_enter Tryz.func9,Tryz.ntmps9
      try go_wp2_with(first|(refine bx 2 #[.slice a0 c0.length b0,.slice d0 g0.length e0] 27 ?_;intro X0 hg d10 hbox hb;have a1:=qa (hbox);have b1:=gw hg;have c1:=gw hg;replace HB:=bs hb;clear hb hbox hg)|(refine bx 4 #[.slice none 0 0,.slice none 0 0] 27 ?_;intro d1 hg e10 hbox hb;have g1:=qa (hbox);have l1:=gw hg;have n1:=gw hg;replace HB:=bs hb;have p1:=qnl hg a1;have q1:=qng hg a1;replace a1:=qbb a1 hb;clear hb hbox hg;have g10:=p1.out;have j10:=q1.out;obtain⟨l10,n10,p10,q10⟩:=qk2 a1)|(refine gb 15 Tryz.func20 (spec_DeskOk.calls k _ _ c0 _ _ g0 true _ (cx (Kd.C_below y0.out HB.out)) A0.out (cx (Kd.C_below B0.out HB.out)) C0.out E0.out) fun r10 hb=>?_;replace a1:=qbb a1 hb;replace g1:=qbb g1 hb;replace HB:=bs hb;obtain⟨s10,t10,v10,w10⟩:=qk2 a1)|(refine gol (some 19) Tryz.func40 #[.agg #[.slice a0 c0.length b0,.slice d0 g0.length e0]] ?_;(with_reducible refine(spec_l12Copy.calls k _ _ c0 _ _ g0 G0 J0 _ ?E1 ?G1 ?J1 ?K1 K0.out).mono ?_);(case E1=>exact cx (Kd.C_below y0.out HB.out));(case G1=>exact A0.out);(case J1=>exact cx (Kd.C_below B0.out HB.out));(case K1=>exact C0.out);rintro e x10 ⟨M1,N1,rfl,P1,Q1,hb⟩;refine⟨_,rfl,?_⟩;have R1:=qa (Kd.R_lower P1 (below_size (bl)));have U1:=qa (Kd.S_lower Q1 (below_size (bl)));replace a1:=qbb a1 hb;replace g1:=qbb g1 hb;replace HB:=bs hb)|(refine bx 6 #[.slice none 0 0,.slice none 0 0] 27 ?_;intro V1 hg y10 hbox hb;replace R1:=qa (Kd.R_below (kR R1) hb);replace U1:=qa (Kd.S_below (kS U1) hb);have X1:=qa (hbox);have Y1:=gw hg;have a2:=gw hg;replace HB:=bs hb;have b2:=qnl hg a1;have c2:=qng hg a1;replace a1:=qbb a1 hb;have d2:=qnl hg g1;have e2:=qng hg g1;replace g1:=qbb g1 hb;clear hb hbox hg;obtain⟨A10,B10,rfl⟩:=Kd.R_slice R1.out;have C10:=c2.out;have D10:=b2.out;have E10:=e2.out;have G10:=d2.out;obtain⟨J10,K10,L10,M10⟩:=qk2 X1;obtain⟨N10,P10,rfl⟩:=Kd.S_slice U1.out)|(refine gb 22 Tryz.func41 (spec_ReadDeed.calls k j0 L0 M0 N0 false _ Q0.out) fun Q10 hb=>?_;replace R1:=qa (Kd.R_below (kFR R1 X1 (fun _ h_=>h_.1)) hb);replace U1:=qa (Kd.S_below (kFS U1 X1 (fun _ h_=>h_.1)) hb);replace a1:=qbb a1 hb;replace g1:=qbb g1 hb;replace X1:=qa (blk_below (g:=V1) (o:= .cells #[.slice A10 G0.length B10,.slice N10 J0.length P10] 27 (0,0)) (kP X1) hb);replace HB:=bs hb)|(refine bx 7 #[.int .i64 0,.int .i64 0,.int .i64 0] 55 ?_;intro A2 hg R10 hbox hb;replace R1:=qa (Kd.R_below (kR R1) hb);replace U1:=qa (Kd.S_below (kS U1) hb);have C2:=qa (hbox);have D2:=gw hg;have E2:=gw hg;replace HB:=bs hb;have G2:=qnl hg a1;have J2:=qng hg a1;replace a1:=qbb a1 hb;have K2:=qnl hg g1;have L2:=qng hg g1;replace g1:=qbb g1 hb;have M2:=qnl hg X1;have N2:=qng hg X1;replace X1:=qbb X1 hb;clear hb hbox hg;have U10:=J2.out;have V10:=G2.out;have W10:=L2.out;have X10:=K2.out;have Y10:=N2.out;have a11:=M2.out;obtain⟨b11,c11,d11,e11,g11,j11⟩:=qk3 C2))
      have n0_:Aside0 (Kd.R (Kd.int .i64) 3 (((R10.setCell ⟨A2,0,none⟩ (.int .i64 L0)).setCell ⟨A2,1,none⟩ (.int .i64 M0)).setCell ⟨A2,2,none⟩ (.int .i64 N0)) w.heap.size (fun _=>True) (.slice A10 G0.length B10) G0):=⟨kFR R1 C2 (fun _ hk=>trivial)⟩;have n1_:Aside0 (Kd.S (Kd.slice 3 (Kd.int .i64)) 22 (((R10.setCell ⟨A2,0,none⟩ (.int .i64 L0)).setCell ⟨A2,1,none⟩ (.int .i64 M0)).setCell ⟨A2,2,none⟩ (.int .i64 N0)) w.heap.size (fun k_=>some k_≠(.slice A10 G0.length B10:Value).ownBlock) (.slice N10 J0.length P10) J0):=⟨kFS U1 C2 (fun _ hk=>hk.1)⟩;have n2_:Aside0 ((((R10.setCell ⟨A2,0,none⟩ (.int .i64 L0)).setCell ⟨A2,1,none⟩ (.int .i64 M0)).setCell ⟨A2,2,none⟩ (.int .i64 N0)).heap[X0]? =some (.cells #[.slice a0 c0.length b0,.slice d0 g0.length e0] 27 (0,0))):=⟨kb a1⟩;have n3_:Aside0 ((((R10.setCell ⟨A2,0,none⟩ (.int .i64 L0)).setCell ⟨A2,1,none⟩ (.int .i64 M0)).setCell ⟨A2,2,none⟩ (.int .i64 N0)).heap[d1]? =some (.cells #[.slice none 0 0,.slice none 0 0] 27 (0,0))):=⟨kb g1⟩;have n4_:Aside0 ((((R10.setCell ⟨A2,0,none⟩ (.int .i64 L0)).setCell ⟨A2,1,none⟩ (.int .i64 M0)).setCell ⟨A2,2,none⟩ (.int .i64 N0)).heap[V1]? =some (.cells #[.slice A10 G0.length B10,.slice N10 J0.length P10] 27 (0,0))):=⟨kb X1⟩;have n5_:Aside0 ((((R10.setCell ⟨A2,0,none⟩ (.int .i64 L0)).setCell ⟨A2,1,none⟩ (.int .i64 M0)).setCell ⟨A2,2,none⟩ (.int .i64 N0)).heap[A2]? =some (.cells #[.int .i64 L0,.int .i64 M0,.int .i64 N0] 55 (0,0))):=⟨kP C2⟩;have n6_:Aside0 (Below w.heap.size w (((R10.setCell ⟨A2,0,none⟩ (.int .i64 L0)).setCell ⟨A2,1,none⟩ (.int .i64 M0)).setCell ⟨A2,2,none⟩ (.int .i64 N0))):=⟨bl⟩;(try clear R1);(try clear U1);(try clear a1);(try clear g1);(try clear X1);(try clear C2);(try clear HB);generalize (((R10.setCell ⟨A2,0,none⟩ (.int .i64 L0)).setCell ⟨A2,1,none⟩ (.int .i64 M0)).setCell ⟨A2,2,none⟩ (.int .i64 N0))=l11 at n0_ n1_ n2_ n3_ n4_ n5_ n6_ ⊢;have R1:=n0_;have U1:=n1_;have a1:=n2_;have g1:=n3_;have X1:=n4_;have C2:=n5_;have HB:=n6_;clear n0_ n1_ n2_ n3_ n4_ n5_ n6_;replace R1:=qa (Kd.R_drew R1.out);replace U1:=qa (Kd.S_drew U1.out);replace a1:=qa (blk_drew a1.out);replace g1:=qa (blk_drew g1.out);replace X1:=qa (blk_drew X1.out);replace C2:=qa (blk_drew C2.out);replace HB:=qa (below_drew1 HB.out);refine start_ (n:=7) (S:=fun w'=>w'.cell? ⟨V1,0,none⟩=some (.slice A10 G0.length B10)∧w'.cell? ⟨V1,1,none⟩=some (.slice N10 J0.length P10)∧w'.cell? ⟨X0,0,none⟩=some (.slice a0 c0.length b0)∧w'.cell? ⟨X0,1,none⟩=some (.slice d0 g0.length e0)) (ds:=[]) _ kr_ rfl rfl ⟨(blk_cell X1.out 0).trans rfl,(blk_cell X1.out 1).trans rfl,(blk_cell a1.out 0).trans rfl,(blk_cell a1.out 1).trans rfl⟩ (fun hHeld=>?_);generalize l11.drew=n11 at R1 U1 a1 g1 X1 C2 HB hHeld ⊢;refine pq 1 54 (bz 7 2) kr_ ?_;refine tk 0 53 (bz 7 3) hHeld kr_ ?_;refine tk 2 55 (bz 7 7) hHeld kr_ ?_;(refine o1 3 (some 56) (bz 7 15) kr_ fun K hK=>?_);(refine gsd Tryz.func46 (spec_FullyOk.calls k _ _ c0 Y9 _ (cx (Kd.C_below y0.out HB.out)) A0.out a10.out) fun nd=>?_);refine hK.out _ _ ⟨(blk_cell X1.out 0).trans rfl,(blk_cell X1.out 1).trans rfl,(blk_cell a1.out 0).trans rfl,(blk_cell a1.out 1).trans rfl⟩ (fun hHeld=>?_);clear hK K;refine nm 56 ?_;(refine o1 4 (some 57) (bz 7 31) kr_ fun K hK=>?_);(refine gsd Tryz.func44 (spec_l12Yes.calls Y9 b10 _ c10.out) fun nd=>?_);refine hK.out _ _ ⟨(blk_cell X1.out 0).trans rfl,(blk_cell X1.out 1).trans rfl,(blk_cell a1.out 0).trans rfl,(blk_cell a1.out 1).trans rfl⟩ (fun hHeld=>?_);clear hK K;refine nm 57 ?_;(refine o1 5 none (bz 7 63) kr_ fun K hK=>?_);have p11:n11.cell? ⟨d1,0,none⟩=some (.slice none 0 0):=(blk_cell g1.out 0).trans rfl;have q11:=blk_frozen g1.out 0;have r11:=p1.out;have s11:=e2.out;have t11:=L2.out;have v11:=q1.out;have w11:=d2.out;have x11:=K2.out;have y11:n11.cell? ⟨d1,1,none⟩=some (.slice none 0 0):=(blk_cell g1.out 1).trans rfl;have A11:=blk_frozen g1.out 1;have B11:=p1.out;have C11:=e2.out;have D11:=L2.out;have E11:=q1.out;have G11:=d2.out;have J11:=K2.out;refine skip_ (w1:=?_) (by rfl) rfl ?_ ?_;rotate_left
      ·go_simp
       rfl
      refine hK.out _ _ ⟨((cell_far (p:=⟨d1,_,none⟩) e2.out _).trans (((cell_far (p:=⟨d1,_,none⟩) e2.out _).trans (hHeld.1)))),((cell_far (p:=⟨d1,_,none⟩) e2.out _).trans (((cell_far (p:=⟨d1,_,none⟩) e2.out _).trans (hHeld.2.1)))),((cell_far (p:=⟨d1,_,none⟩) p1.out _).trans (((cell_far (p:=⟨d1,_,none⟩) p1.out _).trans (hHeld.2.2.1)))),((cell_far (p:=⟨d1,_,none⟩) p1.out _).trans (((cell_far (p:=⟨d1,_,none⟩) p1.out _).trans (hHeld.2.2.2))))⟩ (fun hHeld=>?_);clear hK K;refine pq 6 5 (bz 7 127) kr_ ?_;refine done_ kr_ ?_
      try go_wp2
      refine bodyPost_ret (results_ct rfl _ _ d1 27 #[.slice A10 G0.length B10,.slice N10 J0.length P10] (0,0) _ rfl (kP g1) Tryz.underlying27 rfl kr_) rfl ?_;exact⟨_,_,er,kFR R1 g1 (fun _ hk=>trivial),Kd.Q_of_R ((Kd.S_R (kFS U1 g1 (fun _ hk=>hk.1)))),bl⟩
     ·replace H:=qb H;obtain⟨K11,L11,H⟩:=H;replace H:=qs H;obtain⟨M11,N11,H⟩:=H;have H':=qa H;clear H
      go_enter Tryz.func9,Tryz.ntmps9
      go_wp2_with(first|(refine bx 2 #[.slice a0 c0.length b0,.slice d0 g0.length e0] 27 ?_;intro X0 hg P11 hbox hb;have a1:=qa (hbox);have b1:=gw hg;have c1:=gw hg;replace HB:=bs hb;clear hb hbox hg)|(refine bx 4 #[.slice none 0 0,.slice none 0 0] 27 ?_;intro d1 hg Q11 hbox hb;have g1:=qa (hbox);have l1:=gw hg;have n1:=gw hg;replace HB:=bs hb;have p1:=qnl hg a1;have q1:=qng hg a1;replace a1:=qbb a1 hb;clear hb hbox hg;have R11:=p1.out;have U11:=q1.out;obtain⟨V11,W11,X11,Y11⟩:=qk2 a1)|(refine gb 15 Tryz.func20 (spec_DeskOk.calls k _ _ c0 _ _ g0 true _ (cx (Kd.C_below y0.out HB.out)) A0.out (cx (Kd.C_below B0.out HB.out)) C0.out E0.out) fun a12 hb=>?_;replace a1:=qbb a1 hb;replace g1:=qbb g1 hb;replace HB:=bs hb;obtain⟨b12,c12,d12,e12⟩:=qk2 a1)|(refine gol (some 19) Tryz.func40 #[.agg #[.slice a0 c0.length b0,.slice d0 g0.length e0]] ?_;(with_reducible refine(spec_l12Copy.calls k _ _ c0 _ _ g0 G0 J0 _ ?E1 ?G1 ?J1 ?K1 K0.out).mono ?_);(case E1=>exact cx (Kd.C_below y0.out HB.out));(case G1=>exact A0.out);(case J1=>exact cx (Kd.C_below B0.out HB.out));(case K1=>exact C0.out);rintro e g12 ⟨M1,N1,rfl,P1,Q1,hb⟩;refine⟨_,rfl,?_⟩;have R1:=qa (Kd.R_lower P1 (below_size (bl)));have U1:=qa (Kd.S_lower Q1 (below_size (bl)));replace a1:=qbb a1 hb;replace g1:=qbb g1 hb;replace HB:=bs hb)|(refine bx 6 #[.slice none 0 0,.slice none 0 0] 27 ?_;intro V1 hg j12 hbox hb;replace R1:=qa (Kd.R_below (kR R1) hb);replace U1:=qa (Kd.S_below (kS U1) hb);have X1:=qa (hbox);have Y1:=gw hg;have a2:=gw hg;replace HB:=bs hb;have b2:=qnl hg a1;have c2:=qng hg a1;replace a1:=qbb a1 hb;have d2:=qnl hg g1;have e2:=qng hg g1;replace g1:=qbb g1 hb;clear hb hbox hg;obtain⟨l12,n12,rfl⟩:=Kd.R_slice R1.out;have p12:=c2.out;have q12:=b2.out;have r12:=e2.out;have s12:=d2.out;obtain⟨t12,v12,w12,x12⟩:=qk2 X1;obtain⟨y12,A12,rfl⟩:=Kd.S_slice U1.out)|(refine gb 22 Tryz.func41 (spec_ReadDeed.calls k j0 L0 M0 N0 false _ Q0.out) fun B12 hb=>?_;replace R1:=qa (Kd.R_below (kFR R1 X1 (fun _ h_=>h_.1)) hb);replace U1:=qa (Kd.S_below (kFS U1 X1 (fun _ h_=>h_.1)) hb);replace a1:=qbb a1 hb;replace g1:=qbb g1 hb;replace X1:=qa (blk_below (g:=V1) (o:= .cells #[.slice l12 G0.length n12,.slice y12 J0.length A12] 27 (0,0)) (kP X1) hb);replace HB:=bs hb)|(refine bx 7 #[.int .i64 0,.int .i64 0,.int .i64 0] 55 ?_;intro A2 hg C12 hbox hb;replace R1:=qa (Kd.R_below (kR R1) hb);replace U1:=qa (Kd.S_below (kS U1) hb);have C2:=qa (hbox);have D2:=gw hg;have E2:=gw hg;replace HB:=bs hb;have G2:=qnl hg a1;have J2:=qng hg a1;replace a1:=qbb a1 hb;have K2:=qnl hg g1;have L2:=qng hg g1;replace g1:=qbb g1 hb;have M2:=qnl hg X1;have N2:=qng hg X1;replace X1:=qbb X1 hb;clear hb hbox hg;have D12:=J2.out;have E12:=G2.out;have G12:=L2.out;have J12:=K2.out;have K12:=N2.out;have L12:=M2.out;obtain⟨M12,N12,P12,Q12,R12,U12⟩:=qk3 C2)|(refine ge_ 59 Tryz.func47 (spec_l1Cut.calls k j0 32 K11 _ L11.out) fun V12 W12 P1 hb=>?_;replace R1:=qa (Kd.R_below (kFR R1 C2 (fun _ h_=>h_.1)) hb);replace U1:=qa (Kd.S_below (kFS U1 C2 (fun _ h_=>h_.1)) hb);have X12:=qa (Kd.R_lower P1 (below_size (bl)));replace a1:=qbb a1 hb;replace g1:=qbb g1 hb;replace X1:=qbb X1 hb;replace C2:=qa (blk_below (g:=A2) (o:= .cells #[.int .i64 L0,.int .i64 M0,.int .i64 N0] 55 (0,0)) (kP C2) hb);replace HB:=bs hb)|(refine rls 9 60 N11.out fun Y12 a13 b13 hb=>?_;replace R1:=qa (Kd.R_below (kR R1) hb);replace U1:=qa (Kd.S_below (kS U1) hb);have c13:=qa (Kd.R_lower (Kd.R_new' b13 (Kd.R_lt (kR X12))) (below_size (bl)));replace X12:=qa (Kd.R_elder' (kR X12) (Kd.R_base b13) hb);replace a1:=qbb a1 hb;replace g1:=qbb g1 hb;replace X1:=qbb X1 hb;replace C2:=qbb C2 hb;replace HB:=bs hb;clear hb b13;obtain⟨d13,e13,rfl⟩:=Kd.R_slice c13.out))
      go_loopg [62] k (fun kq g13 w'=>∃(j13:Int),g13= .int .i64 j13∧Aside0 (spec_DeskLine.l0 kq K11 M11 (M11.length:Int) j13 c0 g0 G0 J0=some (n0,p0,q0))∧Aside0 (kq≤k)∧Aside0 (Kd.R Kd.string 9 w' w.heap.size (fun k_=>some k_≠((.slice d13 M11.length e13):Value).ownBlock) V12 K11)∧Aside0 (Kd.R Kd.string 9 w' w.heap.size (fun k_=>some k_≠(V12:Value).ownBlock) (.slice d13 M11.length e13) M11)∧Aside0 (Kd.R (Kd.int .i64) 3 w' w.heap.size (fun _=>True) (.slice l12 G0.length n12) G0)∧Aside0 (Kd.Q (Kd.slice 3 (Kd.int .i64)) 22 w' w.heap.size (fun k_=>some k_≠((.slice l12 G0.length n12):Value).ownBlock) (.slice y12 J0.length A12) J0)∧Aside0 (w'.heap[X0]? =some (.cells #[(.slice a0 c0.length b0),(.slice d0 g0.length e0)] 27 (0,0)))∧Aside0 (w'.heap[d1]? =some (.cells #[(.slice none 0 0),(.slice none 0 0)] 27 (0,0)))∧Aside0 (w'.heap[V1]? =some (.cells #[(.slice l12 G0.length n12),(.slice y12 J0.length A12)] 27 (0,0)))∧Aside0 (w'.heap[A2]? =some (.cells #[.int .i64 L0,.int .i64 M0,.int .i64 N0] 55 (0,0)))∧Aside0 (Below w.heap.size w w'))
      case atStart=>exact⟨(0),(sd),H',⟨Nat.le_refl _⟩,⟨by(with_reducible repeat(first|apply Kd.R_alloc|apply Kd.R_drewN|apply Kd.R_drew));exact Kd.R_mono X12.out (fun _ hk=>hk.2)⟩,⟨by(with_reducible repeat(first|apply Kd.R_alloc|apply Kd.R_drewN|apply Kd.R_drew));exact Kd.R_mono c13.out (fun _ hk=>hk.2)⟩,⟨kR R1⟩,⟨Kd.Q_of_R ((Kd.S_R (kS U1)))⟩,⟨bk⟩,⟨bk⟩,⟨bk⟩,⟨bk⟩,⟨bl⟩⟩
      case round=>
       clear H';obtain⟨j13,rfl,HA,HK1,l13,n13,p13,q13,a1,g1,X1,C2,HB⟩:=hrel;obtain⟨k1,rfl,H⟩:=kz gk HA;clear HA;simp only[spec_DeskLine.l0]at H;replace H:=qe H;obtain⟨r13,H⟩|⟨r13,H⟩:=H
       ·replace H:=qd H;obtain⟨s13,H⟩:=H;replace H:=qd H;obtain⟨t13,H⟩:=H;have v13:=qa H;clear H;obtain⟨w13,⟨⟩,x13,y13,A13⟩:=as_ (Kd.R_reads' n13.out).2.2 j13
        go_upto_region 21 with(fail)
        go_cut [82] (fun B13 wc=>∃(kq:Nat) (C13:Bool),B13= .bool C13∧Aside0 (spec_DeskLine.j1 kq K11 (rdOf ByteArray.empty M11 j13) M11 (M11.length:Int) j13 C13 c0 g0 G0 J0=some (n0,p0,q0))∧Aside0 (kq≤k1)∧Aside0 (Kd.R Kd.string 9 wc w.heap.size (fun k_=>some k_≠((.slice (some w13) M11.length e13):Value).ownBlock) V12 K11)∧Aside0 (Kd.R Kd.string 9 wc w.heap.size (fun k_=>some k_≠(V12:Value).ownBlock) (.slice (some w13) M11.length e13) M11)∧Aside0 (Kd.R (Kd.int .i64) 3 wc w.heap.size (fun _=>True) (.slice l12 G0.length n12) G0)∧Aside0 (Kd.Q (Kd.slice 3 (Kd.int .i64)) 22 wc w.heap.size (fun k_=>some k_≠((.slice l12 G0.length n12):Value).ownBlock) (.slice y12 J0.length A12) J0)∧Aside0 (wc.heap[X0]? =some (.cells #[(.slice a0 c0.length b0),(.slice d0 g0.length e0)] 27 (0,0)))∧Aside0 (wc.heap[d1]? =some (.cells #[(.slice none 0 0),(.slice none 0 0)] 27 (0,0)))∧Aside0 (wc.heap[V1]? =some (.cells #[(.slice l12 G0.length n12),(.slice y12 J0.length A12)] 27 (0,0)))∧Aside0 (wc.heap[A2]? =some (.cells #[.int .i64 L0,.int .i64 M0,.int .i64 N0] 55 (0,0)))∧Aside0 (Below w.heap.size w wc))
        case first=>
         have H:=v13.out;clear v13;replace H:=qq H;obtain⟨D13,E13,H⟩|⟨G13,D13,E13,H⟩:=H
         ·(first|rw[D13]|(simp only[i64_w,i32_w];rw[D13])|skip);replace H:=qL 0 H;obtain⟨J13,K13,H⟩:=H;replace H:=qq H;obtain⟨L13,M13,H⟩|⟨N13,L13,M13,H⟩:=H
          ·replace H:=qL 1 H;obtain⟨P13,Q13,H⟩:=H;replace H:=qb H;obtain⟨R13,U13,H⟩:=H;have H':=qa H;clear H;obtain⟨V13,W13,rfl⟩:=Kd.R_slice l13.out;obtain⟨X13,⟨⟩,Y13,qi883,a14,b14⟩:=asn 0 (Kd.R_reads' l13.out).2.2 0;(try rw[Addr.add_zero']at Y13);have c14:0≤(1:Int):=ko_;have d14:1<(K11.length:Int):=qo;obtain⟨e14,g14,j14⟩:=Kd.at_string (Kd.R_reads' l13.out).2.2 1 c14 d14;obtain rfl:X13=e14:=(by injection g14);(try simp only[show(1:Int).toNat =1 from rfl,Nat.reduceMul,Nat.reduceEqDiff,Go.Addr.add,↓reduceIte]at j14);have qi884:(1<K11.length)=True:=eq_true ko_;(try rw[show((1:Int)).toNat =1 from rfl]at j14);replace c14:=eq_true c14;replace d14:=eq_true d14
           go_wp2_with(first|(go_at_call 48;(with_reducible refine gm (spec_l1Digits.calls k1 (rdOf ByteArray.empty K11 1) R13 _ U13.out) fun nd=>?_)))
           go_meet
           case rel=>exact⟨_,(decide (R13≥0)),(sd),H',⟨z12_⟩,⟨kR l13⟩,⟨kR n13⟩,⟨kR p13⟩,⟨kQ q13⟩,⟨bk⟩,⟨bk⟩,⟨bk⟩,⟨bk⟩,⟨bl⟩⟩
          ·have H':=qa H;clear H;obtain⟨l14,n14,rfl⟩:=Kd.R_slice l13.out;obtain⟨X13,⟨⟩,Y13,qi883,a14,b14⟩:=asn 0 (Kd.R_reads' l13.out).2.2 0;(try rw[Addr.add_zero']at Y13);go_wp2;go_meet
           case rel=>exact⟨_,(false),(sd),H',⟨z12_⟩,⟨kR l13⟩,⟨kR n13⟩,⟨kR p13⟩,⟨kQ q13⟩,⟨bk⟩,⟨bk⟩,⟨bk⟩,⟨bk⟩,⟨bl⟩⟩
         ·(first|rw[D13]|(simp only[i64_w,i32_w];rw[D13])|skip);have H':=qa H;clear H;obtain⟨p14,q14,rfl⟩:=Kd.R_slice l13.out;go_wp2;go_meet
          case rel=>exact⟨_,(false),(sd),H',⟨z12_⟩,⟨kR l13⟩,⟨kR n13⟩,⟨kR p13⟩,⟨kQ q13⟩,⟨bk⟩,⟨bk⟩,⟨bk⟩,⟨bk⟩,⟨bl⟩⟩
        case rest=>
         clear v13;obtain⟨kq,C13,rfl,HA,r14,l13,n13,p13,q13,a1,g1,X1,C2,HB⟩:=hcut;obtain⟨s14,rfl,H⟩:=kz kq HA;clear HA;simp only[spec_DeskLine.j1]at H;replace H:=qc H;obtain⟨rfl,H⟩|⟨rfl,H⟩:=H
         ·replace H:=qL 1 H;obtain⟨t14,v14,H⟩:=H;replace H:=qb H;obtain⟨w14,x14,H⟩:=H;replace H:=qb H;obtain⟨y14,A14,H⟩:=H;simp only[Option.some.injEq,Prod.mk.injEq]at H;obtain⟨rfl,rfl,rfl⟩:=H
          try go_wp2
          replace l13:=qa (Kd.R_drew l13.out);replace n13:=qa (Kd.R_drew n13.out);replace p13:=qa (Kd.R_drew p13.out);replace q13:=qa (Kd.Q_drew q13.out);replace a1:=qa (blk_drew a1.out);replace g1:=qa (blk_drew g1.out);replace X1:=qa (blk_drew X1.out);replace C2:=qa (blk_drew C2.out);replace HB:=qa (below_drew1 HB.out);obtain⟨B14,C14,D14⟩:=Kd.R_slice l13.out;(first|subst D14|(injection D14 with f1_ f2_ f3_;have f4_:=f1_.symm;have f5_:=f3_.symm;clear f1_ f2_ f3_;subst f4_;subst f5_));have E14:0≤(1:Int):=ko_;have G14:1<(K11.length:Int):=qo;obtain⟨J14,K14,L14⟩:=Kd.at_string (Kd.R_reads' l13.out).2.2 1 E14 G14;cases K14;have hz_:=Kd.R_ne l13.out g1.out kd_;(have hne_:∀(o_:Nat) (s_:Option Nat),(⟨J14.block,o_,s_⟩:Addr).block ≠d1:=fun _ _ e_=>hz_ (by rw[←show J14.block=d1 from e_];rfl));(try simp only[show(1:Int).toNat =1 from rfl,Nat.reduceMul,Nat.reduceEqDiff,Go.Addr.add,↓reduceIte]at L14);have qi886:(1<K11.length)=True:=eq_true ko_;(try rw[show((1:Int)).toNat =1 from rfl]at L14);replace E14:=eq_true E14;replace G14:=eq_true G14;refine start_ (n:=11) (S:=fun w'=>w'.cell? ⟨V1,0,none⟩=some (.slice l12 G0.length n12)∧w'.cell? ⟨V1,1,none⟩=some (.slice y12 J0.length A12)∧w'.cell? ⟨X0,0,none⟩=some (.slice a0 c0.length b0)∧w'.cell? ⟨X0,1,none⟩=some (.slice d0 g0.length e0)∧w'.cell? ⟨J14.block,J14.off+1,none⟩=some (.string (rdOf ByteArray.empty K11 1))) (ds:=[]) _ kr_ rfl rfl ⟨(blk_cell X1.out 0).trans rfl,(blk_cell X1.out 1).trans rfl,(blk_cell a1.out 0).trans rfl,(blk_cell a1.out 1).trans rfl,L14⟩ (fun hHeld=>?_);refine with_tabW spec_DeskLine.tab22 spec_DeskLine.bits22 (fun HT_ HW_=>?_);generalize wc.drew=M14 at l13 n13 p13 q13 a1 g1 X1 C2 HB L14 hHeld ⊢;refine pur 1 84 (bz 11 2) HT_ ?_;refine pur 3 86 (bz 11 10) HT_ ?_;refine pur 4 87 (bz 11 26) HT_ ?_;refine pur 5 88 (bz 11 58) HT_ ?_;refine tk 0 83 (bz 11 59) hHeld (take_ofW HT_.out HW_.out kr_) ?_;refine tk 2 85 (bz 11 63) hHeld (take_ofW HT_.out HW_.out kr_) ?_;refine tk 6 89 (bz 11 127) hHeld (take_ofW HT_.out HW_.out kr_) ?_;(refine o1 7 (some 90) (bz 11 255) (one_of HT_.out kr_) fun K hK=>?_);(refine gsd Tryz.func48 (spec_l1Digits.calls s14 (rdOf ByteArray.empty K11 1) w14 _ x14.out) fun nd=>?_);refine hK.out _ _ ⟨(blk_cell X1.out 0).trans rfl,(blk_cell X1.out 1).trans rfl,(blk_cell a1.out 0).trans rfl,(blk_cell a1.out 1).trans rfl,hHeld.2.2.2.2⟩ (fun hHeld=>?_);clear hK K;refine nm 90 ?_;(refine o1 8 (some 91) (bz 11 511) (one_of HT_.out kr_) fun K hK=>?_);refine goes_ Tryz.func49 kr_ rfl #[.slice a0 c0.length b0,.string (rdOf ByteArray.empty M11 j13),.int .i64 w14] (by rfl) rfl rfl am ?_
          with_reducible refine(spec_l12Ask.calls s14 _ _ c0 (rdOf ByteArray.empty M11 j13) w14 y14 _ ?E1 ?G1 A14.out).mono ?_
          (case E1=>exact cx (Kd.C_below y0.out (bl)));(case G1=>exact A0.out);rintro e N14 ⟨rfl,hb⟩;have HS4_:=(hb.cell (World.block_lt_of_cell? _ _ (hHeld.2.2.2.2))).trans (hHeld.2.2.2.2);refine⟨_,rfl,?_⟩;replace l13:=qa (Kd.R_below (kR l13) hb);replace n13:=qa (Kd.R_below (kR n13) hb);replace p13:=qa (Kd.R_below (kR p13) hb);replace q13:=qa (Kd.Q_below (kQ q13) hb);replace a1:=qbb a1 hb;replace g1:=qbb g1 hb;replace X1:=qbb X1 hb;replace C2:=qbb C2 hb;replace HB:=bs hb;(try clear hb);(try clear J7);(try clear hk);(try clear hi);refine hK.out _ _ ⟨(blk_cell X1.out 0).trans rfl,(blk_cell X1.out 1).trans rfl,(blk_cell a1.out 0).trans rfl,(blk_cell a1.out 1).trans rfl,HS4_⟩ (fun hHeld=>?_);clear hK K;refine nm 91 ?_;(refine o1 9 none (bz 11 1023) (one_of HT_.out kr_) fun K hK=>?_);have P14:N14.cell? ⟨d1,0,none⟩=some (.slice none 0 0):=(blk_cell g1.out 0).trans rfl;have Q14:=blk_frozen g1.out 0;have R14:=p1.out;have U14:=e2.out;have V14:=L2.out;have W14:=q1.out;have X14:=d2.out;have Y14:=K2.out;have a15:N14.cell? ⟨d1,1,none⟩=some (.slice none 0 0):=(blk_cell g1.out 1).trans rfl;have b15:=blk_frozen g1.out 1;have c15:=p1.out;have d15:=e2.out;have e15:=L2.out;have g15:=q1.out;have j15:=d2.out;have l15:=K2.out;refine skip_ (w1:=?_) (by rfl) rfl ?_ ?_;rotate_left
          ·go_simp
           rfl
          refine hK.out _ _ ⟨((cell_far (p:=⟨d1,_,none⟩) e2.out _).trans (((cell_far (p:=⟨d1,_,none⟩) e2.out _).trans (hHeld.1)))),((cell_far (p:=⟨d1,_,none⟩) e2.out _).trans (((cell_far (p:=⟨d1,_,none⟩) e2.out _).trans (hHeld.2.1)))),((cell_far (p:=⟨d1,_,none⟩) p1.out _).trans (((cell_far (p:=⟨d1,_,none⟩) p1.out _).trans (hHeld.2.2.1)))),((cell_far (p:=⟨d1,_,none⟩) p1.out _).trans (((cell_far (p:=⟨d1,_,none⟩) p1.out _).trans (hHeld.2.2.2.1)))),((cell_far (p:=⟨d1,_,none⟩) (hne_ _ _) _).trans (((cell_far (p:=⟨d1,_,none⟩) (hne_ _ _) _).trans (hHeld.2.2.2.2))))⟩ (fun hHeld=>?_);clear hK K;refine pur 10 5 (bz 11 2047) HT_ ?_;refine done_ (done_of HT_.out kr_) ?_
          try go_wp2
          refine bodyPost_ret (results_ct rfl _ _ d1 27 #[.slice l12 G0.length n12,.slice y12 J0.length A12] (0,0) _ rfl (kP g1) Tryz.underlying27 rfl kr_) rfl ?_;exact⟨_,_,er,kFR p13 g1 (fun _ hk=>trivial),kFQ q13 g1 (fun _ hk=>hk.1),bl⟩
         ·have H':=qa H;clear H;go_wp2
          go_roundg s14
          case measure=>have:=HK1.out;have:=r14.out;omega
          case rel=>exact⟨(wrap64 (j13+1)),(sd),H',⟨by have:=HK1.out;have:=r14.out;omega⟩,⟨kR l13⟩,⟨kR n13⟩,⟨kR p13⟩,⟨kQ q13⟩,⟨bk⟩,⟨bk⟩,⟨bk⟩,⟨bk⟩,⟨bl⟩⟩
       ·simp only[Option.some.injEq,Prod.mk.injEq]at H;obtain⟨rfl,rfl,rfl⟩:=H;have n15:=c2.out;have p15:=b2.out;have q15:=e2.out;have r15:=d2.out;have s15:=M2.out;have t15:=N2.out;obtain⟨v15,w15,x15,y15⟩:=qk2 X1;have A15:=q1.out;have B15:=p1.out;have C15:=K2.out;have D15:=L2.out;obtain⟨E15,G15,J15,K15⟩:=qk2 g1;go_wp2;refine bodyPost_ret (results_ct rfl _ _ d1 27 #[.slice l12 G0.length n12,.slice y12 J0.length A12] (0,0) _ rfl (kP g1) Tryz.underlying27 rfl kr_) rfl ?_;exact⟨_,_,er,kFR p13 g1 (fun _ hk=>trivial),kFQ q13 g1 (fun _ hk=>hk.1),bl⟩
 ·simp only[Option.some.injEq,Prod.mk.injEq]at H;obtain⟨rfl,rfl,rfl⟩:=H
  go_enter Tryz.func9,Tryz.ntmps9
  go_wp2_with(first|(refine bx 2 #[.slice a0 c0.length b0,.slice d0 g0.length e0] 27 ?_;intro X0 hg L15 hbox hb;have a1:=qa (hbox);have b1:=gw hg;have c1:=gw hg;replace HB:=bs hb;clear hb hbox hg)|(refine bx 4 #[.slice none 0 0,.slice none 0 0] 27 ?_;intro d1 hg M15 hbox hb;have g1:=qa (hbox);have l1:=gw hg;have n1:=gw hg;replace HB:=bs hb;have p1:=qnl hg a1;have q1:=qng hg a1;replace a1:=qbb a1 hb;clear hb hbox hg;have N15:=p1.out;have P15:=q1.out;obtain⟨Q15,R15,U15,V15⟩:=qk2 a1)|(refine gb 15 Tryz.func20 (spec_DeskOk.calls k _ _ c0 _ _ g0 false _ (cx (Kd.C_below y0.out HB.out)) A0.out (cx (Kd.C_below B0.out HB.out)) C0.out E0.out) fun W15 hb=>?_;replace a1:=qbb a1 hb;replace g1:=qbb g1 hb;replace HB:=bs hb;obtain⟨X15,Y15,a16,b16⟩:=qk2 g1))
  refine bodyPost_ret (results_ct rfl _ _ d1 27 #[.slice none 0 0,.slice none 0 0] (0,0) _ rfl (kP g1) Tryz.underlying27 rfl kr_) rfl ?_;exact⟨_,_,er,z2_,Kd.Q_of_R ((Kd.S_R z14_)),bl⟩
end Go.Proofs.YtdmlkjjlgkdnlaaGreatDoor.PFnExactDeskSay
