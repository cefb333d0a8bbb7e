import Derived.Test.YtdmlkjjlgkdnlaaGreatDoorWMore
import Derived.Test.YtdmlkjjlgkdnlaaGreatDoorWRepsOne
import Derived.Test.YtdmlkjjlgkdnlaaGreatDoorWZeros
import Derived.Test.YtdmlkjjlgkdnlaaGreatDoorWTab
namespace Go.Proofs.YtdmlkjjlgkdnlaaGreatDoorW.PrintWords
open Go.RowKit
section
variable {α β γ:Type} {r:α}
abbrev LI := List Int
abbrev LL := List (List Int)
abbrev LB := List ByteArray
abbrev OA := Option Addr
abbrev BA := ByteArray
theorem qn {c:Prop} [Decidable c] {t e:Option α} (h:(if c then t else e)=some r) (he:¬(e=some r):=by simp):c/\t=some r:=by
 by_cases k:c
 .rw[if_pos k]at h;exact⟨k,h⟩
 .rw[if_neg k]at h;exact absurd h he
theorem qd {c:Prop} [Decidable c] {t e:Option α} (h:(if c then t else e)=some r) (he:¬(e=some r):=by simp):decide c=true/\t=some r:=⟨decide_eq_true (qn h he).1,(qn h he).2⟩
theorem qe {c:Prop} [Decidable c] {t e:Option α} (h:(if c then t else e)=some r):(decide c=true/\t=some r)\/(decide c=false/\e=some r):=by
 by_cases k:c
 .rw[if_pos k]at h;exact .inl ⟨decide_eq_true k,h⟩
 .rw[if_neg k]at h;exact .inr ⟨decide_eq_false k,h⟩
theorem qq {γ:Type} [BEq γ] [LawfulBEq γ] {a b:γ} [Decidable (a=b)] {t e:Option α} (h:(if a=b then t else e)=some r):((a==b)=true/\(a != b)=false/\t=some r)\/(¬a=b/\(a==b)=false/\(a != b)=true/\e=some r):=by
 by_cases k:a=b
 .rw[if_pos k]at h;exact .inl ⟨beq_iff_eq.mpr k,bne_eq_false_iff_eq.mpr k,h⟩
 .rw[if_neg k]at h;exact .inr ⟨k,beq_eq_false_iff_ne.mpr k,bne_iff_ne.mpr k,h⟩
theorem qt {a b:Option α} (h:(if true=true then a else b)=some r):a=some r:=by rw[if_pos rfl]at h;exact h
theorem qf {a b:Option α} (h:(if false=true then a else b)=some r):b=some r:=by rw[if_neg (by decide)]at h;exact h
theorem qb {x:Option β} {f:β->Option α} (h:x.bind f=some r):∃t,Aside0 (x=some t)/\f t=some r:=by
 obtain⟨t,h1,h2⟩:=Option.bind_eq_some_iff.mp h
 exact⟨t,⟨h1⟩,h2⟩
theorem qs {a:β} {f:β->Option α} (h:(some a).bind f=some r):∃y,Aside0 (y=a)/\f y=some r:=⟨a,⟨rfl⟩,h⟩
theorem qo {p:Prop} [Decidable p] (h:decide p=true:=by first|(with_reducible assumption)|assumption):p:=of_decide_eq_true h
end
section
variable {w w1:World} {g t:Nat} {a b c d:Value}
theorem qk2 (h:Aside0 (w.heap[g]? =some (.cells #[a,b] t (0,0)))):w.cell? ⟨g,0,none⟩=some a/\w.cell? ⟨g,1,none⟩=some b/\w.frozen? ⟨g,0,none⟩=false/\w.frozen? ⟨g,1,none⟩=false:=⟨(Ip h.out 0).trans rfl,(Ip h.out 1).trans rfl,Cn h.out 0,Cn h.out 1⟩
theorem qk3 (h:Aside0 (w.heap[g]? =some (.cells #[a,b,c] t (0,0)))):w.cell? ⟨g,0,none⟩=some a/\w.cell? ⟨g,1,none⟩=some b/\w.cell? ⟨g,2,none⟩=some c/\w.frozen? ⟨g,0,none⟩=false/\w.frozen? ⟨g,1,none⟩=false/\w.frozen? ⟨g,2,none⟩=false:=⟨(Ip h.out 0).trans rfl,(Ip h.out 1).trans rfl,(Ip h.out 2).trans rfl,Cn h.out 0,Cn h.out 1,Cn h.out 2⟩
end
theorem mz {p:Prop} (h:p:=by repeat' first|(with_reducible first|exact LeO.refl _|exact LeO.none _|exact ih0 .. |exact ih1 .. |exact ih2 .. |exact ih3 .. |exact ih4 .. |exact ih5 .. |exact ih6 .. |exact ih7 .. |exact ih8 .. |exact ih9 .. |exact m0 .. |exact m1 .. |exact m2 .. |exact m3 .. |exact m4 .. |exact m5 .. |exact m6 .. |exact m7 .. |exact m8 .. |exact m9 .. |exact m10 .. |exact m11 .. |exact m12 .. |exact m13 .. |exact m14 .. |exact m15 .. |refine LeO.ite ?_ ?_|refine LeO.bind ?_ (fun _=>?_))|first|exact ih0 .. |exact ih1 .. |exact ih2 .. |exact ih3 .. |exact ih4 .. |exact ih5 .. |exact ih6 .. |exact ih7 .. |exact m0 .. |exact m1 .. |exact m2 .. |exact m3 .. |exact m4 .. |exact m5 .. |exact m6 .. |exact m7 .. |exact m8 .. |exact m9 .. |exact m10 .. |exact m11 .. |exact LeO.none _|refine LeO.ite ?_ ?_|refine LeO.bind ?_ (fun _=>?_)):p:=h
theorem bl {p:Prop} (h:p:=by repeat(first|(with_reducible first|exact HB.out|apply Fg|apply Fe|apply Dd|refine Fw ?_ (Aside0.out (by assumption))|refine Fw ?_ (Aa.ge (Aside0.out (by assumption))))|exact HB.out)):p:=h
theorem bk {p:Prop} (h:p:=by(with_reducible repeat(first|refine Bb ?_ _|refine Ak ?_|refine Aw ?_ _));exact Aside0.out (by assumption)):p:=h
theorem kR {q p:Prop} (x_:Aside0 q) (h:q->p:=by intro h_;(with_reducible repeat(first|apply Kd.Ih|apply Kd.Hv|apply Kd.Fp));exact h_):p:=h x_.out
theorem kQ {q p:Prop} (x_:Aside0 q) (h:q->p:=by intro h_;(with_reducible repeat(first|apply Kd.Km|apply Kd.Kl|apply Kd.Gp));exact h_):p:=h x_.out
theorem kS {q p:Prop} (x_:Aside0 q) (h:q->p:=by intro h_;(with_reducible repeat(first|apply Kd.S_alloc|apply Kd.S_drewN|apply Kd.S_drew));exact h_):p:=h x_.out
theorem dn {p:Prop} (h:p:=by first|exact⟨rfl,_,World.drewN_drewN _ _ _⟩|exact⟨rfl,_,Eq.trans (World.drewN_drewN _ _ _) (congrArg (World.drewN _) (Nat.add_assoc _ _ _))⟩):p:=h
theorem dr {p:Prop} (h:p:=by repeat(first|exact Drawn0.refl _|apply Drawn0.step)):p:=h
theorem kP {q p:Prop} (x_:Aside0 q) (h:q->p:=by intro h_;(repeat(first|exact h_|(with_reducible first|refine Bb ?_ _|refine Ak ?_|refine Aw ?_ _|refine Fs ?_ (Aside0.out (by assumption)) _)|apply Fy));all_goals rfl):p:=h x_.out
theorem kfR {α:Type} {d:Kd α} {e base g i:Nat} {w:World} {ok:Nat->Prop} {v u:Value} {xs:List α} (h:Kd.R d e w base (fun k=>ok k/\k≠g) v xs):Kd.R d e (w.setCell ⟨g,i,none⟩ u) base (fun k=>ok k/\k≠g) v xs:=Kd.Is (p:=⟨g,i,none⟩) h (fun _ hk=>hk.2) u
theorem kgR {α:Type} {d:Kd α} {e base g g' i:Nat} {w:World} {ok:Nat->Prop} {v u:Value} {xs:List α} (h:Kd.R d e w base (fun k=>(ok k/\k≠g)/\k≠g') v xs):Kd.R d e (w.setCell ⟨g,i,none⟩ u) base (fun k=>(ok k/\k≠g)/\k≠g') v xs:=Kd.Is (p:=⟨g,i,none⟩) h (fun _ hk=>hk.1.2) u
theorem kFR {α:Type} {d:Kd α} {e base g t:Nat} {w W:World} {ok ok':Nat->Prop} {v:Value} {xs:List α} {cs:Array Value} (x_:Aside0 (Kd.R d e w base ok v xs)) (b_:Aside0 (w.heap[g]? =some (.cells cs t (0,0)))) (hm:∀k,ok k/\k≠g->ok' k) (h:Kd.R d e w base (fun k=>ok k/\k≠g) v xs->Kd.R d e W base (fun k=>ok k/\k≠g) v xs:=by intro h_;repeat(first|(with_reducible first|exact h_|apply Kd.Ih|apply Kd.Hv|apply Kd.Fp|apply kfR)|exact h_)) (ht:∀q,q∈e::d.E->q≠t:=by decide):Kd.R d e W base ok' v xs:=Kd.Cq (h (Kd.Ig x_.out b_.out ht)) hm
theorem kGR {α:Type} {d:Kd α} {e base g g' t t':Nat} {w W:World} {ok ok':Nat->Prop} {v:Value} {xs:List α} {cs cs':Array Value} (x_:Kd.R d e w base ok v xs) (b_:Aside0 (w.heap[g]? =some (.cells cs t (0,0)))) (c_:Aside0 (w.heap[g']? =some (.cells cs' t' (0,0)))) (hm:∀k,(ok k/\k≠g)/\k≠g'->ok' k) (h:Kd.R d e w base (fun k=>(ok k/\k≠g)/\k≠g') v xs->Kd.R d e W base (fun k=>(ok k/\k≠g)/\k≠g') v xs:=by intro h_;repeat(first|(with_reducible first|exact h_|apply Kd.Ih|apply Kd.Hv|apply Kd.Fp|apply kfR|apply kgR)|exact h_)) (ht:∀q,q∈e::d.E->q≠t:=by decide) (ht':∀q,q∈e::d.E->q≠t':=by decide):Kd.R d e W base ok' v xs:=Kd.Cq (h (Kd.Ig (Kd.Ig x_ b_.out ht) c_.out ht')) hm
theorem kfQ {α:Type} {d:Kd α} {e base g i:Nat} {w:World} {ok:Nat->Prop} {v u:Value} {xs:List α} (h:Kd.Q d e w base (fun k=>ok k/\k≠g) v xs):Kd.Q d e (w.setCell ⟨g,i,none⟩ u) base (fun k=>ok k/\k≠g) v xs:=Kd.Ks (p:=⟨g,i,none⟩) h (fun _ hk=>hk.2) u
theorem kgQ {α:Type} {d:Kd α} {e base g g' i:Nat} {w:World} {ok:Nat->Prop} {v u:Value} {xs:List α} (h:Kd.Q d e w base (fun k=>(ok k/\k≠g)/\k≠g') v xs):Kd.Q d e (w.setCell ⟨g,i,none⟩ u) base (fun k=>(ok k/\k≠g)/\k≠g') v xs:=Kd.Ks (p:=⟨g,i,none⟩) h (fun _ hk=>hk.1.2) u
theorem kFQ {α:Type} {d:Kd α} {e base g t:Nat} {w W:World} {ok ok':Nat->Prop} {v:Value} {xs:List α} {cs:Array Value} (x_:Aside0 (Kd.Q d e w base ok v xs)) (b_:Aside0 (w.heap[g]? =some (.cells cs t (0,0)))) (hm:∀k,ok k/\k≠g->ok' k) (h:Kd.Q d e w base (fun k=>ok k/\k≠g) v xs->Kd.Q d e W base (fun k=>ok k/\k≠g) v xs:=by intro h_;repeat(first|(with_reducible first|exact h_|apply Kd.Km|apply Kd.Kl|apply Kd.Gp|apply kfQ)|exact h_)) (ht:∀q,q∈e::d.E->q≠t:=by decide):Kd.Q d e W base ok' v xs:=Kd.Dt (h (Kd.Jz x_.out b_.out ht)) hm
theorem kGQ {α:Type} {d:Kd α} {e base g g' t t':Nat} {w W:World} {ok ok':Nat->Prop} {v:Value} {xs:List α} {cs cs':Array Value} (x_:Kd.Q d e w base ok v xs) (b_:Aside0 (w.heap[g]? =some (.cells cs t (0,0)))) (c_:Aside0 (w.heap[g']? =some (.cells cs' t' (0,0)))) (hm:∀k,(ok k/\k≠g)/\k≠g'->ok' k) (h:Kd.Q d e w base (fun k=>(ok k/\k≠g)/\k≠g') v xs->Kd.Q d e W base (fun k=>(ok k/\k≠g)/\k≠g') v xs:=by intro h_;repeat(first|(with_reducible first|exact h_|apply Kd.Km|apply Kd.Kl|apply Kd.Gp|apply kfQ|apply kgQ)|exact h_)) (ht:∀q,q∈e::d.E->q≠t:=by decide) (ht':∀q,q∈e::d.E->q≠t':=by decide):Kd.Q d e W base ok' v xs:=Kd.Dt (h (Kd.Jz (Kd.Jz x_ b_.out ht) c_.out ht')) hm
theorem kfS {α:Type} {d:Kd α} {e base g i:Nat} {w:World} {ok:Nat->Prop} {v u:Value} {xs:List α} (h:Kd.S d e w base (fun k=>ok k/\k≠g) v xs):Kd.S d e (w.setCell ⟨g,i,none⟩ u) base (fun k=>ok k/\k≠g) v xs:=Kd.S_far (p:=⟨g,i,none⟩) h (fun _ hk=>hk.2) u
theorem kFS {α:Type} {d:Kd α} {e base g t:Nat} {w W:World} {ok ok':Nat->Prop} {v:Value} {xs:List α} {cs:Array Value} (x_:Aside0 (Kd.S d e w base ok v xs)) (b_:Aside0 (w.heap[g]? =some (.cells cs t (0,0)))) (hm:∀k,ok k/\k≠g->ok' k) (h:Kd.S d e w base (fun k=>ok k/\k≠g) v xs->Kd.S d e W base (fun k=>ok k/\k≠g) v xs:=by intro h_;repeat(first|(with_reducible first|exact h_|apply Kd.S_alloc|apply Kd.S_drewN|apply Kd.S_drew|apply kfS)|exact h_)) (ht:∀q,q∈e::d.E->q≠t:=by decide):Kd.S d e W base ok' v xs:=Kd.S_mono (h (Kd.S_types x_.out b_.out ht)) hm
theorem am {p:Prop} (h:p:=by(try simp only[List.map_toArray,List.map_cons,List.map_nil]);first|done|rfl|(simp only[List.length_drop,List.length_take];rfl)):p:=h
theorem gr {p:Prop} (h:p:=by first|(go_simp;done)|(go_simp;rfl)):p:=h
theorem er {p:Prop} (h:p:=by first|rfl|(simp[Ca,Bz];exact⟨rfl,rfl⟩)|(simp[Ca,Bz] <;> rfl)|(simp[*,Ca,Bz] <;> rfl)):p:=h
theorem sd {p:Prop} (h:p:=by first|rfl|(simp;done)|(simp[*];done)):p:=h
theorem cx {q p:Prop} (x_:q) (h:q->p:=by intro h_;iterate 8 (first|done|exact h_|(with_reducible refine Kd.C_alloc ?_ _)|(with_reducible refine Kd.C_drewN ?_ _)|(with_reducible refine Kd.C_drew ?_))):p:=h x_
theorem kI {q p:Prop} (x_:Aside0 q) (h:q->p:=by intro h_;repeat(first|exact h_|(with_reducible first|apply Aa.alloc|apply Aa.drewN|apply Aa.drew|apply Aa.set_1|refine Aa.far ?_ (Aside0.out (by assumption)) _))):p:=h x_.out
theorem kK {p:Prop} (h:p:=by repeat(first|(with_reducible first|exact HK.out|apply Ac.set_|apply keep_drewN|apply keep_drew|apply keep_alloc|refine keep_far ?_ (Aside0.out (by assumption)) _)|exact HK.out)):p:=h
theorem gw {w W:World} {g:Nat} (hg:g=W.heap.size) (h:Below w.heap.size w W:=by repeat(first|(with_reducible first|exact HB.out|apply Fg|apply Fe|apply Dd|refine Fw ?_ (Aside0.out (by assumption)))|exact HB.out)):Aside0 (w.heap.size<=g):=⟨by rw[hg];exact Cj h⟩
theorem qa {p:Prop} (h:p):Aside0 p:=⟨h⟩
theorem kb {q p:Prop} (x_:Aside0 q) (h:q->p:=by intro h_;repeat(first|exact h_|(with_reducible first|refine Bb ?_ _|refine Ak ?_|refine Aw ?_ _|refine Fs ?_ (Aside0.out (by assumption)) _))):p:=h x_.out
theorem qbb {W0 W w1:World} {g:Nat} {o:Obj} (x_:Aside0 (W0.heap[g]? =some o)) (hb:Below W.heap.size W w1) (h:W0.heap[g]? =some o->W.heap[g]? =some o:=by intro h_;repeat(first|exact h_|(with_reducible first|refine Bb ?_ _|refine Ak ?_|refine Aw ?_ _|refine Fs ?_ (Aside0.out (by assumption)) _))):Aside0 (w1.heap[g]? =some o):=⟨Fb (h x_.out) hb⟩
theorem qkb {W0 W w1:World} {g g':Nat} {o:Obj} (x_:Aside0 (W0.heap[g']? =some o)) (hk:Ac W w1 g none) (hn:Aside0 (g'≠g)) (h:W0.heap[g']? =some o->W.heap[g']? =some o:=by intro h_;repeat(first|exact h_|(with_reducible first|refine Bb ?_ _|refine Ak ?_|refine Aw ?_ _|refine Fs ?_ (Aside0.out (by assumption)) _))):Aside0 (w1.heap[g']? =some o):=⟨Ac.blk hk (h x_.out) hn.out (by simp)⟩
theorem yh {p:Prop} (h:p:=by first|(rw[hy_];with_reducible exact H)|(have H2_:=(Option.bind_some _ _).symm.trans H;rw[hy_];with_reducible exact H2_)|(have H2_:=(Option.bind_some _ _).symm.trans H;with_reducible exact H2_)|with_reducible exact H|(rw[hy_];exact H)|exact H):p:=h
section
open Go.Proofs.YtdmlkjjlgkdnlaaGreatDoorW.PrintLast
theorem gol {P:Program} {ops:Array Oper} {Q:Exit->Act->World->Prop} {rest:List Oper} {oi:Oper} {a:Act} {w:World} (N:Option Tmp) {f:FuncId} {fn:Func} {as:Array Operand} {ts:Array TypeId} (hf:P.funcs[f]? =some fn) (args:Array Value)
  (h:Calls P f args w fun e w'=>∃v,e= .returned v/\wpList P ops Q rest (a.put N v) w') (hd:oi.dst=N:=by rfl) (hg:oi.guard=none:=by rfl) (hname:(fn.name== "runtime.NumGoroutine")=false:=by kernel_rfl) (hb:fn.body.isSome=true:=by rfl) (hop:oi.op= .call {callee:= .value (.func f),args:=as,argTypes:=ts}:=by rfl) (hargs:as.map a.eval=args:=by(try simp only[List.map_toArray,List.map_cons,List.map_nil]);first|done|rfl|(simp only[List.length_drop,List.length_take];rfl)):wpList P ops Q (oi::rest) a w:=goesL_ N hd hg hf hname hb args hop hargs h
theorem bx {P:Program} {ops:Array Oper} {Q:Exit->Act->World->Prop} {rest:List Oper} {o:Oper} {a:Act} {W:World} (N:Tmp) (cs:Array Value) (t:TypeId) (h:∀g,g=W.heap.size->∀w1,w1.heap[g]? =some (.cells cs t (0,0))->Below W.heap.size W w1->wpList P ops Q rest (a.put o.dst (.pointer (some ⟨g,0,none⟩))) w1) (hd:o.dst=some N:=by rfl) (hgd:o.guard=none:=by rfl)
  (hrun:(execOp a.eval o).run P W= .ok (.value (.pointer (some ⟨W.heap.size,0,none⟩))) (W.alloc (.cells cs t (0,0))):=by first|(go_simp;done)|(go_simp;rfl)):wpList P ops Q (o::rest) a W:=box_event hgd hd hrun h
theorem pur {P:Program} {ops:Array Oper} {Q:Exit->Act->World->Prop} {md:Region.Mode} {S:World->Prop} {ds:List Nat} {T:Bool×List (List Nat×List Nat)} (i n:Nat) {oi:Oper} {v:Value} {fuel:Nat} {l:Array Bool} {a a':Act} {w:World} (l':Array Bool) (hT:Aside0 (rtab md ops=T)) (h:Cd P md ops Q S ds fuel l' a' w) (hi:ops[i]? =some oi:=by rfl) (hN:oi.dst=some n:=by rfl) (hc:anyT T l.toList l'.toList i=true:=by kernel_rfl) (hQ:∀c a w,Q (.panic c) (a.put oi.dst v) w->Q (.panic c) a w:=by exact fun _ _ _ h=>h) (hw:Region.wanted oi (yielded ops a.tmps)=true:=by rfl) (hy:∀w,(execOp a.eval oi).run P w= .ok (.value v) w:=by intro w';go_simp;with_reducible rfl) (ha:a.put (some n) v=a':=by simp only[Act.put,List.setIfInBounds_toArray,List.set_cons_zero,List.set_cons_succ,Bv,Fc];rfl):Cd P md ops Q S ds (fuel+1) l a w:=pure_ l' hi hN (any_of hT.out hc) hQ (.inl ⟨hw,hy⟩) ha h
end
theorem ai {ik:IntKind} {w:World} {A:Option Addr} {n:Nat} {xs:List Int} (h:(Kd.int ik).C w A n xs) (i:Int) (p:0<=i:=by first|exact qo|omega) (q:i<(n:Int):=by first|exact qo|omega):∃ad,A=some ad/\w.cell? (ad.add i.toNat)=some (.int ik (rd xs i))/\(0<=i)=True/\(i<(n:Int))=True:=by
 obtain⟨ad,e,x⟩:=Kd.Fx h i p q
 exact⟨ad,e,x,eq_true p,eq_true q⟩
theorem aj {ik:IntKind} {w:World} {ad:Addr} {n:Nat} {xs:List Int} (h:(Kd.int ik).C w (some ad) n xs) (i:Int) (p:0<=i:=by first|exact qo|omega) (q:i<(n:Int):=by first|exact qo|omega):w.cell? (ad.add i.toNat)=some (.int ik (rd xs i))/\(0<=i)=True/\(i<(n:Int))=True:=by
 obtain⟨_,e,x,p,q⟩:=ai h i p q
 cases e
 exact⟨x,p,q⟩
theorem ain {ik:IntKind} {w:World} {A:Option Addr} {n:Nat} {xs:List Int} (m:Nat) (h:(Kd.int ik).C w A n xs) (i:Int) (hm:i.toNat=m:=by rfl) (p:0<=i:=by first|exact qo|omega) (q:i<(n:Int):=by first|exact qo|omega):∃ad,A=some ad/\w.cell? (ad.add m)=some (.int ik (rd xs i))/\(m<n)=True/\(0<=i)=True/\(i<(n:Int))=True:=by
 obtain⟨ad,e,x⟩:=Kd.Fx h i p q
 exact⟨ad,e,hm▸x,eq_true (by omega),eq_true p,eq_true q⟩
theorem ajn {ik:IntKind} {w:World} {ad:Addr} {n:Nat} {xs:List Int} (m:Nat) (h:(Kd.int ik).C w (some ad) n xs) (i:Int) (hm:i.toNat=m:=by rfl) (p:0<=i:=by first|exact qo|omega) (q:i<(n:Int):=by first|exact qo|omega):w.cell? (ad.add m)=some (.int ik (rd xs i))/\(m<n)=True/\(0<=i)=True/\(i<(n:Int))=True:=by
 obtain⟨_,e,x,r⟩:=ain m h i hm p q
 cases e
 exact⟨x,r⟩
theorem as_ {w:World} {A:Option Addr} {n:Nat} {xs:List ByteArray} (h:Kd.string.C w A n xs) (i:Int) (p:0<=i:=by first|exact qo|omega) (q:i<(n:Int):=by first|exact qo|omega):∃ad,A=some ad/\w.cell? (ad.add i.toNat)=some (.string (rdOf ByteArray.empty xs i))/\(0<=i)=True/\(i<(n:Int))=True:=by
 obtain⟨ad,e,x⟩:=Kd.Hz h i p q
 exact⟨ad,e,x,eq_true p,eq_true q⟩
theorem at_ {w:World} {ad:Addr} {n:Nat} {xs:List ByteArray} (h:Kd.string.C w (some ad) n xs) (i:Int) (p:0<=i:=by first|exact qo|omega) (q:i<(n:Int):=by first|exact qo|omega):w.cell? (ad.add i.toNat)=some (.string (rdOf ByteArray.empty xs i))/\(0<=i)=True/\(i<(n:Int))=True:=by
 obtain⟨_,e,x,p,q⟩:=as_ h i p q
 cases e
 exact⟨x,p,q⟩
theorem asn {w:World} {A:Option Addr} {n:Nat} {xs:List ByteArray} (m:Nat) (h:Kd.string.C w A n xs) (i:Int) (hm:i.toNat=m:=by rfl) (p:0<=i:=by first|exact qo|omega) (q:i<(n:Int):=by first|exact qo|omega):∃ad,A=some ad/\w.cell? (ad.add m)=some (.string (rdOf ByteArray.empty xs i))/\(m<n)=True/\(0<=i)=True/\(i<(n:Int))=True:=by
 obtain⟨ad,e,x,p',q'⟩:=as_ h i p q
 exact⟨ad,e,hm▸x,eq_true (by omega),p',q'⟩
section
variable {α β:Type} {r:α}
theorem qc {b:Bool} {t e:Option α} (h:(if b=true then t else e)=some r):(b=true/\t=some r)\/(b=false/\e=some r):=by
 cases b
 .exact .inr ⟨rfl,qf h⟩
 .exact .inl ⟨rfl,qt h⟩
theorem qN {a b:Nat} {t e:Option α} (h:(if a<=b then t else e)=some r) (he:¬(e=some r):=by simp):a<=b/\(a<=b)=True/\decide (a<=b)=true/\(b<a)=False/\t=some r:=
 have k:=qn h he
 ⟨k.1,eq_true k.1,decide_eq_true k.1,eq_false (Nat.not_lt.2 k.1),k.2⟩
theorem qL (m:Nat) {i:Int} {n:Nat} {t e:Option α} (h:(if i<(n:Int)then t else e)=some r) (he:¬(e=some r):=by simp) (hm:i=(m:Int):=by rfl):decide (i<(n:Int))=true/\decide (m<n)=true/\t=some r:=
 have k:=qn h he
 ⟨decide_eq_true k.1,decide_eq_true (by have:=k.1;omega),k.2⟩
theorem qg {a b:Int} {t e:Option α} (h:(if a>b then t else e)=some r):(decide (b<a)=true/\t=some r)\/(decide (b<a)=false/\e=some r):=qe h
theorem qu {a b:Int} {t e:Option α} (h:(if a>=b then t else e)=some r):(decide (b<=a)=true/\t=some r)\/(decide (b<=a)=false/\e=some r):=qe h
theorem kz {o:Option α} (k:Nat) (h:Aside0 (o=some r)) (z:k=0->o=none:=by intro e_;subst e_;rfl):∃j,k=j+1/\o=some r:=by
 cases k with
 |zero=>exact absurd h.out (by rw[z rfl];simp)
 |succ j=>exact⟨j,rfl,h.out⟩
end
theorem sj {α:Type} {a b:α} (h:some a=some b):a=b:=Option.some.inj h
theorem bs {w W w2:World} (k:Below W.heap.size W w2) (h:Below w.heap.size w W:=by exact bl):Aside0 (Below w.heap.size w w2):=⟨Ir h k⟩
section
open Go.Proofs.YtdmlkjjlgkdnlaaGreatDoorW.PrintLast
variable {P:Program} {ops:Array Oper} {Q:Exit->Act->World->Prop} {rest:List Oper} {oi:Oper} {a:Act} {w:World} {f:FuncId} {fn:Func} {as:Array Operand} {ts:Array TypeId} {args:Array Value}
theorem gd (N:Nat) (hf:P.funcs[f]? =some fn) {v:Value} (c:Calls P f args w fun e w'=>e= .returned v/\Drawn0 w w') (h:∀nd,wpList P ops Q rest (a.put (some N) v) (w.drewN nd)) (hd:oi.dst=some N:=by rfl) (hg:oi.guard=none:=by rfl) (hname:(fn.name== "runtime.NumGoroutine")=false:=by kernel_rfl) (hb:fn.body.isSome=true:=by rfl) (hop:oi.op= .call {callee:= .value (.func f),args:=as,argTypes:=ts}:=by rfl) (hargs:as.map a.eval=args:=by exact am):wpList P ops Q (oi::rest) a w:=
 gol (some N) hf args (c.mono (by rintro e w' ⟨rfl,⟨n,rfl⟩⟩;exact⟨_,rfl,h n⟩)) hd hg hname hb hop hargs
theorem gb (N:Nat) (hf:P.funcs[f]? =some fn) {v:Value} (c:Calls P f args w fun e w'=>e= .returned v/\Below w.heap.size w w') (h:∀w1,Below w.heap.size w w1->wpList P ops Q rest (a.put (some N) v) w1) (hd:oi.dst=some N:=by rfl) (hg:oi.guard=none:=by rfl) (hname:(fn.name== "runtime.NumGoroutine")=false:=by kernel_rfl) (hb:fn.body.isSome=true:=by rfl) (hop:oi.op= .call {callee:= .value (.func f),args:=as,argTypes:=ts}:=by rfl) (hargs:as.map a.eval=args:=by exact am):wpList P ops Q (oi::rest) a w:=
 gol (some N) hf args (c.mono (by rintro e w' ⟨rfl,h1⟩;exact⟨_,rfl,h _ h1⟩)) hd hg hname hb hop hargs
theorem ge_ (N:Nat) (hf:P.funcs[f]? =some fn) {V:Value->Value} {K:Value->World->Prop} (c:Calls P f args w fun e w'=>∃v,e= .returned (V v)/\K v w'/\Below w.heap.size w w') (h:∀v w1,K v w1->Below w.heap.size w w1->wpList P ops Q rest (a.put (some N) (V v)) w1) (hd:oi.dst=some N:=by rfl) (hg:oi.guard=none:=by rfl) (hname:(fn.name== "runtime.NumGoroutine")=false:=by kernel_rfl) (hb:fn.body.isSome=true:=by rfl) (hop:oi.op= .call {callee:= .value (.func f),args:=as,argTypes:=ts}:=by rfl) (hargs:as.map a.eval=args:=by exact am):wpList P ops Q (oi::rest) a w:=
 gol (some N) hf args (c.mono (by rintro e w' ⟨v,rfl,h1,h2⟩;exact⟨_,rfl,h v _ h1 h2⟩)) hd hg hname hb hop hargs
theorem reps_s (W:World) (base:Nat) (ok:Nat->Prop):∀xs:List ByteArray,Reps (Kd.string.M W base ok) Kd.string.sz xs (xs.map Value.string)
 |[]=>Reps.none _ _
 |x::r=>Reps.one (show Kd.M Kd.string _ _ _ x [.string x]from rfl) (reps_s W base ok r)
theorem reps_i (k:IntKind) (W:World) (base:Nat) (ok:Nat->Prop):∀xs:List Int,Reps ((Kd.int k).M W base ok) (Kd.int k).sz xs (xs.map (Value.int k))
 |[]=>Reps.none _ _
 |x::r=>Reps.one (show Kd.M (Kd.int k) _ _ _ x [.int k x]from rfl) (reps_i k W base ok r)
theorem rls (e:Nat) (N:Tmp) {y xs:List ByteArray} (hy:y=xs) (h:∀v1 w1,Kd.R Kd.string e w1 w.heap.size (fun _=>True) v1 y->Below w.heap.size w w1->wpList P ops Q rest (a.put oi.dst v1) w1) (hd:oi.dst=some N:=by rfl) (hg:oi.guard=none:=by rfl) (hm:xs.length<=9223372036854775807:=by simp) (hrun:(execOp a.eval oi).run P w= .ok (.value (.slice (some ⟨w.heap.size,0,none⟩) xs.length xs.length)) (w.alloc (.cells (xs.map Value.string).toArray e)):=by exact gr):wpList P ops Q (oi::rest) a w:=
 Kd.R_lit Kd.string _ e hg hd hrun (reps_s w _ (fun _=>True) xs) (fun _ hk=>hk) trivial (Below.refl _ _) (Nat.le_refl _) hm fun v1 w1 h1 h2 _ _=>h v1 w1 (hy▸h1) h2
theorem rli (k:IntKind) (e:Nat) (N:Tmp) {y xs:List Int} (hy:y=xs) (h:∀v1 w1,Kd.R (Kd.int k) e w1 w.heap.size (fun _=>True) v1 y->Below w.heap.size w w1->wpList P ops Q rest (a.put oi.dst v1) w1) (hd:oi.dst=some N:=by rfl) (hg:oi.guard=none:=by rfl) (hm:xs.length<=9223372036854775807:=by simp) (hrun:(execOp a.eval oi).run P w= .ok (.value (.slice (some ⟨w.heap.size,0,none⟩) xs.length xs.length)) (w.alloc (.cells (xs.map (Value.int k)).toArray e)):=by exact gr):wpList P ops Q (oi::rest) a w:=
 Kd.R_lit (Kd.int k) _ e hg hd hrun (reps_i k w _ (fun _=>True) xs) (fun _ hk=>hk) trivial (Below.refl _ _) (Nat.le_refl _) hm fun v1 w1 h1 h2 _ _=>h v1 w1 (hy▸h1) h2
theorem ko_ {p:Prop} (h:p:=by omega):p:=h
theorem kr_ {p:Prop} (h:p:=by kernel_rfl):p:=h
theorem kd_ {p:Prop} (h:p:=by decide):p:=h
def bz (n m:Nat):Array Bool:=((List.range n).map fun i=>m.testBit i).toArray
section
variable {md:Region.Mode} {S:World->Prop} {ds:List Nat} {fuel:Nat} {l:Array Bool} {a':Act} {v:Value}
theorem nm (n:Nat) (h:Cd P md ops Q S ds fuel l a' w) (ha:a.put (some n) v=a':=by simp only[Act.put,List.setIfInBounds_toArray,List.set_cons_zero,List.set_cons_succ,Bv,Fc];rfl):Cd P md ops Q S ds fuel l (a.put (some n) v) w:=Fa ha h
theorem tk (i n:Nat) (l':Array Bool) (hS:S w) (hc:takeB md ops ds l l' i=true) (h:Cd P md ops Q S ds fuel l' a' w) (hi:ops[i]? =some oi:=by rfl) (hN:oi.dst=some n:=by rfl) (hQ:∀c a w,Q (.panic c) (a.put oi.dst v) w->Q (.panic c) a w:=by exact fun _ _ _ h=>h) (hw:Region.wanted oi (yielded ops a.tmps)=true:=by rfl) (hy:∀w',S w'->(execOp a.eval oi).run P w'= .ok (.value v) w':=by intro w' s_;(repeat(obtain⟨t_,s_⟩:=s_));go_simp;with_reducible rfl) (ha:a.put (some n) v=a':=by simp only[Act.put,List.setIfInBounds_toArray,List.set_cons_zero,List.set_cons_succ,Bv,Fc];rfl):Cd P md ops Q S ds (fuel+1) l a w:=take_ l' hi hN hc hQ (.inl ⟨hw,hy⟩) hS ha h
theorem pq (i n:Nat) (l':Array Bool) (hc:anyB md ops l l' i=true) (h:Cd P md ops Q S ds fuel l' a' w) (hi:ops[i]? =some oi:=by rfl) (hN:oi.dst=some n:=by rfl) (hQ:∀c a w,Q (.panic c) (a.put oi.dst v) w->Q (.panic c) a w:=by exact fun _ _ _ h=>h) (hw:Region.wanted oi (yielded ops a.tmps)=true:=by rfl) (hy:∀w,(execOp a.eval oi).run P w= .ok (.value v) w:=by intro w';go_simp;with_reducible rfl) (ha:a.put (some n) v=a':=by simp only[Act.put,List.setIfInBounds_toArray,List.set_cons_zero,List.set_cons_succ,Bv,Fc];rfl):Cd P md ops Q S ds (fuel+1) l a w:=pure_ l' hi hN hc hQ (.inl ⟨hw,hy⟩) ha h
theorem o1 (i:Nat) (N:Option Tmp) (l':Array Bool) (hc:readyB md ops l l' i=true) (h:∀K:Act->World->Prop,Shut (∀a' w',S w'->(S w'->Cd P md ops Q S ds fuel l' a' w')->K a' w')->if Region.wanted oi (yielded ops a.tmps)=true then Oper.wp P oi a w K Q else K (a.put N undef) w) (hi:ops[i]? =some oi:=by rfl) (hN:oi.dst=N:=by rfl) (hd:i∉ds:=by decide):Cd P md ops Q S ds (fuel+1) l a w:=one_ l' hi hN hc hd h
end
section
variable {N:Option Tmp} {K:Act->World->Prop} {v:Value}
theorem gsd (hf:P.funcs[f]? =some fn) (c:Calls P f args w fun e w'=>e= .returned v/\Drawn0 w w') (h:∀nd,K (a.put N v) (w.drewN nd)) (hname:(fn.name== "runtime.NumGoroutine")=false:=by kernel_rfl) (hb:fn.body.isSome=true:=by rfl) (hw:Region.wanted oi (yielded ops a.tmps)=true:=by rfl) (hN:oi.dst=N:=by rfl) (hop:oi.op= .call {callee:= .value (.func f),args:=as,argTypes:=ts}:=by rfl) (hargs:as.map a.eval=args:=by exact am):if Region.wanted oi (yielded ops a.tmps)=true then Oper.wp P oi a w K Q else K (a.put N undef) w:=
 Gw hf hname hb args hw hN hop hargs (c.mono (by rintro e w' ⟨rfl,⟨n,rfl⟩⟩;exact⟨_,rfl,h n⟩))
theorem gsb (hf:P.funcs[f]? =some fn) (c:Calls P f args w fun e w'=>e= .returned v/\Below w.heap.size w w') (h:∀w1,Below w.heap.size w w1->K (a.put N v) w1) (hname:(fn.name== "runtime.NumGoroutine")=false:=by kernel_rfl) (hb:fn.body.isSome=true:=by rfl) (hw:Region.wanted oi (yielded ops a.tmps)=true:=by rfl) (hN:oi.dst=N:=by rfl) (hop:oi.op= .call {callee:= .value (.func f),args:=as,argTypes:=ts}:=by rfl) (hargs:as.map a.eval=args:=by exact am):if Region.wanted oi (yielded ops a.tmps)=true then Oper.wp P oi a w K Q else K (a.put N undef) w:=
 Gw hf hname hb args hw hN hop hargs (c.mono (by rintro e w' ⟨rfl,h1⟩;exact⟨_,rfl,h _ h1⟩))
theorem gse {V:Value->Value} {R:Value->World->Prop} (hf:P.funcs[f]? =some fn) (c:Calls P f args w fun e w'=>∃v,e= .returned (V v)/\R v w'/\Below w.heap.size w w') (h:∀v w1,R v w1->Below w.heap.size w w1->K (a.put N (V v)) w1) (hname:(fn.name== "runtime.NumGoroutine")=false:=by kernel_rfl) (hb:fn.body.isSome=true:=by rfl) (hw:Region.wanted oi (yielded ops a.tmps)=true:=by rfl) (hN:oi.dst=N:=by rfl) (hop:oi.op= .call {callee:= .value (.func f),args:=as,argTypes:=ts}:=by rfl) (hargs:as.map a.eval=args:=by exact am):if Region.wanted oi (yielded ops a.tmps)=true then Oper.wp P oi a w K Q else K (a.put N undef) w:=
 Gw hf hname hb args hw hN hop hargs (c.mono (by rintro e w' ⟨v,rfl,h1,h2⟩;exact⟨_,rfl,h v _ h1 h2⟩))
end
theorem gm {v:Value} {Q:Ending->World->Prop} (c:Calls P f args w fun e w'=>e= .returned v/\Drawn0 w w') (h:∀nd,Q (.returned v) (w.drewN nd)):Calls P f args w Q:=c.mono (by rintro e w' ⟨rfl,⟨n,rfl⟩⟩;exact h n)
end
abbrev sv {α:Type} (a:Option Addr) (l:List α) (c:Nat):Value:= .slice a l.length c
abbrev N1 (v0:Value) (k:Nat):Prop:=some k≠v0.ownBlock
abbrev N2 (v0 v1:Value) (k:Nat):Prop:=some k≠v0.ownBlock/\some k≠v1.ownBlock
abbrev N3 (v0 v1 v2:Value) (k:Nat):Prop:=some k≠v0.ownBlock/\some k≠v1.ownBlock/\some k≠v2.ownBlock
abbrev N4 (v0 v1 v2 v3:Value) (k:Nat):Prop:=some k≠v0.ownBlock/\some k≠v1.ownBlock/\some k≠v2.ownBlock/\some k≠v3.ownBlock
abbrev N5 (v0 v1 v2 v3 v4:Value) (k:Nat):Prop:=some k≠v0.ownBlock/\some k≠v1.ownBlock/\some k≠v2.ownBlock/\some k≠v3.ownBlock/\some k≠v4.ownBlock
abbrev N6 (v0 v1 v2 v3 v4 v5:Value) (k:Nat):Prop:=some k≠v0.ownBlock/\some k≠v1.ownBlock/\some k≠v2.ownBlock/\some k≠v3.ownBlock/\some k≠v4.ownBlock/\some k≠v5.ownBlock
abbrev N7 (v0 v1 v2 v3 v4 v5 v6:Value) (k:Nat):Prop:=some k≠v0.ownBlock/\some k≠v1.ownBlock/\some k≠v2.ownBlock/\some k≠v3.ownBlock/\some k≠v4.ownBlock/\some k≠v5.ownBlock/\some k≠v6.ownBlock
abbrev N8 (v0 v1 v2 v3 v4 v5 v6 v7:Value) (k:Nat):Prop:=some k≠v0.ownBlock/\some k≠v1.ownBlock/\some k≠v2.ownBlock/\some k≠v3.ownBlock/\some k≠v4.ownBlock/\some k≠v5.ownBlock/\some k≠v6.ownBlock/\some k≠v7.ownBlock
abbrev N9 (v0 v1 v2 v3 v4 v5 v6 v7 v8:Value) (k:Nat):Prop:=some k≠v0.ownBlock/\some k≠v1.ownBlock/\some k≠v2.ownBlock/\some k≠v3.ownBlock/\some k≠v4.ownBlock/\some k≠v5.ownBlock/\some k≠v6.ownBlock/\some k≠v7.ownBlock/\some k≠v8.ownBlock
abbrev N10 (v0 v1 v2 v3 v4 v5 v6 v7 v8 v9:Value) (k:Nat):Prop:=some k≠v0.ownBlock/\some k≠v1.ownBlock/\some k≠v2.ownBlock/\some k≠v3.ownBlock/\some k≠v4.ownBlock/\some k≠v5.ownBlock/\some k≠v6.ownBlock/\some k≠v7.ownBlock/\some k≠v8.ownBlock/\some k≠v9.ownBlock
abbrev N11 (v0 v1 v2 v3 v4 v5 v6 v7 v8 v9 v10:Value) (k:Nat):Prop:=some k≠v0.ownBlock/\some k≠v1.ownBlock/\some k≠v2.ownBlock/\some k≠v3.ownBlock/\some k≠v4.ownBlock/\some k≠v5.ownBlock/\some k≠v6.ownBlock/\some k≠v7.ownBlock/\some k≠v8.ownBlock/\some k≠v9.ownBlock/\some k≠v10.ownBlock
theorem bc {w:World} {g:Nat} {t:TypeId} {cs:Array Value} (x:Aside0 (w.heap[g]? =some (.cells cs t (0,0)))) (i:Nat) {v:Value} (h:cs[i]? =some v:=by rfl):w.cell? ⟨g,i,none⟩=some v:=(Ip x.out i).trans h
theorem cw {q p:Prop} (x_:Aside0 q) (h:q->p:=by intro h_;iterate 8 (first|done|exact h_|(with_reducible refine Kd.C_alloc ?_ _)|(with_reducible refine Kd.C_drewN ?_ _)|(with_reducible refine Kd.C_drew ?_))):p:=h x_.out
theorem sA {l:List Value} {i:Nat} {a:Value}:l.toArray.setIfInBounds i a=(l.set i a).toArray :=by simp
theorem sZ {a b:Value} {l:List Value}:(a::l).set 0 b=b::l:=rfl
theorem sS {a b:Value} {l:List Value} {n:Nat}:(a::l).set (n+1) b=a::l.set n b:=rfl
theorem o2 {p0 p1:Prop} (x0:Aside0 p0) (x1:Aside0 p1):p0/\p1:=⟨x0.out,x1.out⟩
theorem o4 {p0 p1 p2 p3:Prop} (x0:Aside0 p0) (x1:Aside0 p1) (x2:Aside0 p2) (x3:Aside0 p3):p0/\p1/\p2/\p3:=⟨x0.out,x1.out,x2.out,x3.out⟩
theorem o6 {p0 p1 p2 p3 p4 p5:Prop} (x0:Aside0 p0) (x1:Aside0 p1) (x2:Aside0 p2) (x3:Aside0 p3) (x4:Aside0 p4) (x5:Aside0 p5):p0/\p1/\p2/\p3/\p4/\p5:=⟨x0.out,x1.out,x2.out,x3.out,x4.out,x5.out⟩
theorem o8 {p0 p1 p2 p3 p4 p5 p6 p7:Prop} (x0:Aside0 p0) (x1:Aside0 p1) (x2:Aside0 p2) (x3:Aside0 p3) (x4:Aside0 p4) (x5:Aside0 p5) (x6:Aside0 p6) (x7:Aside0 p7):p0/\p1/\p2/\p3/\p4/\p5/\p6/\p7:=⟨x0.out,x1.out,x2.out,x3.out,x4.out,x5.out,x6.out,x7.out⟩
theorem o10 {p0 p1 p2 p3 p4 p5 p6 p7 p8 p9:Prop} (x0:Aside0 p0) (x1:Aside0 p1) (x2:Aside0 p2) (x3:Aside0 p3) (x4:Aside0 p4) (x5:Aside0 p5) (x6:Aside0 p6) (x7:Aside0 p7) (x8:Aside0 p8) (x9:Aside0 p9):p0/\p1/\p2/\p3/\p4/\p5/\p6/\p7/\p8/\p9:=⟨x0.out,x1.out,x2.out,x3.out,x4.out,x5.out,x6.out,x7.out,x8.out,x9.out⟩
theorem o12 {p0 p1 p2 p3 p4 p5 p6 p7 p8 p9 p10 p11:Prop} (x0:Aside0 p0) (x1:Aside0 p1) (x2:Aside0 p2) (x3:Aside0 p3) (x4:Aside0 p4) (x5:Aside0 p5) (x6:Aside0 p6) (x7:Aside0 p7) (x8:Aside0 p8) (x9:Aside0 p9) (x10:Aside0 p10) (x11:Aside0 p11):p0/\p1/\p2/\p3/\p4/\p5/\p6/\p7/\p8/\p9/\p10/\p11:=⟨x0.out,x1.out,x2.out,x3.out,x4.out,x5.out,x6.out,x7.out,x8.out,x9.out,x10.out,x11.out⟩
theorem bR {α:Type} {d:Kd α} {e base:Nat} {W0 W w1:World} {ok:Nat->Prop} {v:Value} {xs:List α} (x:Aside0 (Kd.R d e W0 base ok v xs)) (hb:Below W.heap.size W w1) (h:Kd.R d e W0 base ok v xs->Kd.R d e W base ok v xs:=by intro h_;(with_reducible repeat(first|apply Kd.Ih|apply Kd.Hv|apply Kd.Fp));exact h_):Aside0 (Kd.R d e w1 base ok v xs):=⟨Kd.Ey (h x.out) hb⟩
theorem lR {α:Type} {d:Kd α} {e:Nat} {w W w1:World} {ok:Nat->Prop} {v:Value} {xs:List α} (x:Kd.R d e w1 W.heap.size ok v xs) (h:Below w.heap.size w W:=by exact bl):Aside0 (Kd.R d e w1 w.heap.size ok v xs):=⟨Kd.Gr x (Cj h)⟩
theorem mR {α:Type} {d:Kd α} {e base:Nat} {W0 W:World} {ok ok':Nat->Prop} {v:Value} {xs:List α} (x:Aside0 (Kd.R d e W0 base ok v xs)) (f:∀k,ok k->ok' k) (h:Kd.R d e W0 base ok' v xs->Kd.R d e W base ok' v xs:=by intro h_;(with_reducible repeat(first|apply Kd.Ih|apply Kd.Hv|apply Kd.Fp));exact h_):Kd.R d e W base ok' v xs:=h (Kd.Cq x.out f)
theorem eR {α:Type} {d:Kd α} {e base:Nat} {W0 W w1:World} {ok:Nat->Prop} {v:Value} {xs:List α} {u:Value} (x:Aside0 (Kd.R d e W0 base ok v xs)) (hu:∀k,u.ownBlock=some k->W.heap.size<=k) (hb:Below W.heap.size W w1) (h:Kd.R d e W0 base ok v xs->Kd.R d e W base ok v xs:=by intro h_;(with_reducible repeat(first|apply Kd.Ih|apply Kd.Hv|apply Kd.Fp));exact h_):Aside0 (Kd.R d e w1 base (fun k=>ok k/\some k≠u.ownBlock) v xs):=⟨Kd.Jw (h x.out) hu hb⟩
theorem bQ {α:Type} {d:Kd α} {e base:Nat} {W0 W w1:World} {ok:Nat->Prop} {v:Value} {xs:List α} (x:Aside0 (Kd.Q d e W0 base ok v xs)) (hb:Below W.heap.size W w1) (h:Kd.Q d e W0 base ok v xs->Kd.Q d e W base ok v xs:=by intro h_;(with_reducible repeat(first|apply Kd.Km|apply Kd.Kl|apply Kd.Gp));exact h_):Aside0 (Kd.Q d e w1 base ok v xs):=⟨Kd.Gn (h x.out) hb⟩
theorem lQ {α:Type} {d:Kd α} {e:Nat} {w W w1:World} {ok:Nat->Prop} {v:Value} {xs:List α} (x:Kd.Q d e w1 W.heap.size ok v xs) (h:Below w.heap.size w W:=by exact bl):Aside0 (Kd.Q d e w1 w.heap.size ok v xs):=⟨Kd.Q_lower x (Cj h)⟩
theorem mQ {α:Type} {d:Kd α} {e base:Nat} {W0 W:World} {ok ok':Nat->Prop} {v:Value} {xs:List α} (x:Aside0 (Kd.Q d e W0 base ok v xs)) (f:∀k,ok k->ok' k) (h:Kd.Q d e W0 base ok' v xs->Kd.Q d e W base ok' v xs:=by intro h_;(with_reducible repeat(first|apply Kd.Km|apply Kd.Kl|apply Kd.Gp));exact h_):Kd.Q d e W base ok' v xs:=h (Kd.Dt x.out f)
theorem eQ {α:Type} {d:Kd α} {e base:Nat} {W0 W w1:World} {ok:Nat->Prop} {v:Value} {xs:List α} {u:Value} (x:Aside0 (Kd.Q d e W0 base ok v xs)) (hu:∀k,u.ownBlock=some k->W.heap.size<=k) (hb:Below W.heap.size W w1) (h:Kd.Q d e W0 base ok v xs->Kd.Q d e W base ok v xs:=by intro h_;(with_reducible repeat(first|apply Kd.Km|apply Kd.Kl|apply Kd.Gp));exact h_):Aside0 (Kd.Q d e w1 base (fun k=>ok k/\some k≠u.ownBlock) v xs):=⟨Kd.Q_elder' (h x.out) hu hb⟩
theorem bS {α:Type} {d:Kd α} {e base:Nat} {W0 W w1:World} {ok:Nat->Prop} {v:Value} {xs:List α} (x:Aside0 (Kd.S d e W0 base ok v xs)) (hb:Below W.heap.size W w1) (h:Kd.S d e W0 base ok v xs->Kd.S d e W base ok v xs:=by intro h_;(with_reducible repeat(first|apply Kd.S_alloc|apply Kd.S_drewN|apply Kd.S_drew));exact h_):Aside0 (Kd.S d e w1 base ok v xs):=⟨Kd.Kj (h x.out) hb⟩
theorem lS {α:Type} {d:Kd α} {e:Nat} {w W w1:World} {ok:Nat->Prop} {v:Value} {xs:List α} (x:Kd.S d e w1 W.heap.size ok v xs) (h:Below w.heap.size w W:=by exact bl):Aside0 (Kd.S d e w1 w.heap.size ok v xs):=⟨Kd.S_lower x (Cj h)⟩
theorem mS {α:Type} {d:Kd α} {e base:Nat} {W0 W:World} {ok ok':Nat->Prop} {v:Value} {xs:List α} (x:Aside0 (Kd.S d e W0 base ok v xs)) (f:∀k,ok k->ok' k) (h:Kd.S d e W0 base ok' v xs->Kd.S d e W base ok' v xs:=by intro h_;(with_reducible repeat(first|apply Kd.S_alloc|apply Kd.S_drewN|apply Kd.S_drew));exact h_):Kd.S d e W base ok' v xs:=h (Kd.S_mono x.out f)
abbrev ki:Kd Int:=Kd.int .i64
theorem qnn {W0 W:World} {g g':Nat} {o:Obj} (hg:g'=W.heap.size) (x_:Aside0 (W0.heap[g]? =some o)) (h:W0.heap[g]? =some o->W.heap[g]? =some o:=by intro h_;repeat(first|exact h_|(with_reducible first|refine Bb ?_ _|refine Ak ?_|refine Aw ?_ _|refine Fs ?_ (Aside0.out (by assumption)) _))):Aside0 (g≠g')/\Aside0 (g'≠g):=⟨⟨by rw[hg];exact Nat.ne_of_lt (blk_lt (h x_.out))⟩,⟨by rw[hg];exact Nat.ne_of_gt (blk_lt (h x_.out))⟩⟩
theorem tQ {α:Type} {d:Kd α} {e base:Nat} {W0 W w1:World} {ok:Nat->Prop} {v u1 u2:Value} {xs:List α} (x:Aside0 (Kd.Q d e W0 base ok v xs)) (h1:∀k,u1.ownBlock=some k->W.heap.size<=k) (h2:∀k,u2.ownBlock=some k->W.heap.size<=k) (hb:Below W.heap.size W w1) (h:Kd.Q d e W0 base ok v xs->Kd.Q d e W base ok v xs:=by intro h_;(with_reducible repeat(first|apply Kd.Km|apply Kd.Kl|apply Kd.Gp));exact h_):Aside0 (Kd.Q d e w1 base (fun k=>(ok k/\some k≠u1.ownBlock)/\some k≠u2.ownBlock) v xs):=⟨Kd.Dt (Kd.Hw (Kd.Hw (Kd.Q_old (h x.out) hb) h1) h2) (fun _ h_=>h_.1)⟩
theorem z1_ {p:Prop} (h:p:=by first|(simp only[Fu,Act.put,sA,sZ,sS];done)|(simp only[Fu,Act.put,sA,sZ,sS];rfl)):p:=h
theorem z2_ {p:Prop} (h:p:=by first|exact Kd.R_nil _ _ _ _ _|exact Kd.N_nil _ _ _ _ _|exact Kd.V_nil _ _ _ _ _|exact Kd.Q_nil _ _ _ _ _|exact Kd.S_nil _ _ _ _ _):p:=h
theorem z3_ {p:Prop} (h:p:=by(with_reducible repeat(first|apply Kd.Ih|apply Kd.Hv|apply Kd.Fp));exact(Kd.Cq (Kd.Cq (Kd.Is (p:=⟨q2,1,none⟩) (Kd.Is (p:=⟨q2,0,none⟩) (Kd.Is (p:=⟨M3,1,none⟩) (Kd.Is (p:=⟨M3,0,none⟩) (Kd.Ig (Kd.Ig E1.out Q3.out (by decide)) s2.out (by decide)) (fun _ hk=>hk.1.2) (.slice c4 b3.length d4)) (fun _ hk=>hk.1.2) (.slice g4 c3.length j4)) (fun _ hk=>hk.2) (.slice c4 b3.length d4)) (fun _ hk=>hk.2) (.slice g4 c3.length j4)) (fun _ h_=>h_.1)) (fun _ h_=>h_.1))):p:=h
theorem z4_ {p:Prop} (h:p:=by(with_reducible repeat(first|apply Kd.Ih|apply Kd.Hv|apply Kd.Fp));exact(Kd.Cq (Kd.Cq (Kd.Is (p:=⟨N0,1,none⟩) (Kd.Is (p:=⟨N0,0,none⟩) (Kd.Is (p:=⟨E3,1,none⟩) (Kd.Is (p:=⟨E3,0,none⟩) (Kd.Ig (Kd.Ig L2.out J3.out (by decide)) Q0.out (by decide)) (fun _ hk=>hk.1.2) (.slice Q3 U2.length R3)) (fun _ hk=>hk.1.2) (.slice Y3 V2.length a4)) (fun _ hk=>hk.2) (.slice Q3 U2.length R3)) (fun _ hk=>hk.2) (.slice Y3 V2.length a4)) (fun _ h_=>h_.1)) (fun _ h_=>h_.1))):p:=h
theorem z5_ {p:Prop} (h:p:=by first|exact Kd.S_nil _ _ _ _ _|exact Kd.N_nil _ _ _ _ _|exact Kd.V_nil _ _ _ _ _|exact Kd.Q_nil _ _ _ _ _|exact Kd.R_nil _ _ _ _ _):p:=h
theorem z6_ {p:Prop} (h:p:=by have:=HK1.out;first|omega|exact Nat.le_refl _):p:=h
theorem z7_ {p:Prop} (h:p:=by first|exact Nat.ne_of_lt (Nat.lt_of_lt_of_le (by have:=World.block_lt_of_cell? _ _ B3;first|rwa [add_block]at this|exact this) R3.out)|(rw[add_block];exact Nat.ne_of_lt (Nat.lt_of_lt_of_le (by have:=World.block_lt_of_cell? _ _ B3;first|rwa [add_block]at this|exact this) R3.out))|(show(Addr.add _ _).block ≠_;rw[add_block];exact Nat.ne_of_lt (Nat.lt_of_lt_of_le (by have:=World.block_lt_of_cell? _ _ B3;first|rwa [add_block]at this|exact this) R3.out))|(dsimp only;exact Nat.ne_of_lt (Nat.lt_of_lt_of_le (by have:=World.block_lt_of_cell? _ _ B3;first|rwa [add_block]at this|exact this) R3.out))):p:=h
theorem z8_ {p:Prop} (h:p:=by repeat(first|apply Fg|apply Fe|apply Dd|exact Below.refl w.heap.size w)):p:=h
theorem z9_ {p:Prop} (h:p:=by(with_reducible repeat(first|apply Kd.Ih|apply Kd.Hv|apply Kd.Fp));exact(Q_HO770 h0_)):p:=h
theorem z10_ {p:Prop} (h:p:=by(with_reducible repeat(first|apply Kd.Ih|apply Kd.Hv|apply Kd.Fp));exact(Q_HO746 h0_)):p:=h
theorem z11_ {p:Prop} (h:p:=by repeat(first|apply Fg|apply Fe|apply Dd|exact Below.refl _ _)):p:=h
theorem z12_ {p:Prop} (h:p:=by have:=d4.out;first|omega|exact Nat.le_refl _):p:=h
theorem z13_ {p:Prop} (h:p:=by repeat(first|(with_reducible first|exact HBW.out|apply Fg|apply Fe|apply Dd)|exact HBW.out)):p:=h
theorem z14_ {p:Prop} (h:p:=by(try simp only[List.map_toArray,List.map_cons,List.map_nil]);first|done|(rw[show(c0.take 8).length =8 from(by rw[List.length_take];have h_:(8:Int)<=(c0.length:Int):=qo;omega)] <;> rfl)|rfl|(simp only[List.length_drop,List.length_take];rfl)):p:=h
theorem z15_ {p:Prop} (h:p:=by first|rfl|(simp[Ca,Bz];exact⟨rfl,rfl⟩)|(simp[Ca,Bz] <;> rfl)|(simp only[<-q1,<-P2];first|rfl|(simp[Ca,Bz] <;> rfl))|(simp[*,Ca,Bz] <;> rfl)):p:=h
theorem z16_ {p:Prop} (h:p:=by have:=E0.out;have:=HK2.out;have:=HK3.out;omega):p:=h
theorem z17_ {p:Prop} (h:p:=by(with_reducible repeat(first|apply Kd.Ih|apply Kd.Hv|apply Kd.Fp));exact HO.out):p:=h
theorem z18_ {p:Prop} (h:p:=by repeat(first|(with_reducible exact L0.out)|(with_reducible refine Kd.C_alloc ?_ _)|(with_reducible refine Kd.C_drewN ?_ _)|(with_reducible refine Kd.C_drew ?_)|exact L0.out)):p:=h
theorem z19_ {p:Prop} (h:p:=by first|rfl|(simp only[Bv];done)|(simp[Bv];done)):p:=h
end Go.Proofs.YtdmlkjjlgkdnlaaGreatDoorW.PrintWords
