import Derived.Test.YtdmlkjjlgkdnlaaGreatDoorWMore
import Derived.Test.YtdmlkjjlgkdnlaaGreatDoorWRepsOne
import Derived.Test.YtdmlkjjlgkdnlaaGreatDoorWZeros
import Derived.Test.YtdmlkjjlgkdnlaaGreatDoorWTab
namespace Go.Proofs.YtdmlkjjlgkdnlaaGreatDoorW.PrintWords
open Go.RowKit
section
variable {α β γ:Type} {r:α}
theorem qn {c:Prop} [Decidable c] {t e:Option α} (h:(if c then t else e)=some r) (he:¬(e=some r):=by simp):c∧t=some r:=by
 by_cases k:c
 ·rw[if_pos k]at h;exact⟨k,h⟩
 ·rw[if_neg k]at h;exact absurd h he
theorem qd {c:Prop} [Decidable c] {t e:Option α} (h:(if c then t else e)=some r) (he:¬(e=some r):=by simp):decide c=true∧t=some r:=⟨decide_eq_true (qn h he).1,(qn h he).2⟩
theorem qe {c:Prop} [Decidable c] {t e:Option α} (h:(if c then t else e)=some r):(decide c=true∧t=some r)∨(decide c=false∧e=some r):=by
 by_cases k:c
 ·rw[if_pos k]at h;exact .inl ⟨decide_eq_true k,h⟩
 ·rw[if_neg k]at h;exact .inr ⟨decide_eq_false k,h⟩
theorem qq {γ:Type} [BEq γ] [LawfulBEq γ] {a b:γ} [Decidable (a=b)] {t e:Option α} (h:(if a=b then t else e)=some r):((a==b)=true∧(a != b)=false∧t=some r)∨(¬a=b∧(a==b)=false∧(a != b)=true∧e=some r):=by
 by_cases k:a=b
 ·rw[if_pos k]at h;exact .inl ⟨beq_iff_eq.mpr k,bne_eq_false_iff_eq.mpr k,h⟩
 ·rw[if_neg k]at h;exact .inr ⟨k,beq_eq_false_iff_ne.mpr k,bne_iff_ne.mpr k,h⟩
theorem qt {a b:Option α} (h:(if true=true then a else b)=some r):a=some r:=by rw[if_pos rfl]at h;exact h
theorem qf {a b:Option α} (h:(if false=true then a else b)=some r):b=some r:=by rw[if_neg (by decide)]at h;exact h
theorem qb {x:Option β} {f:β→Option α} (h:x.bind f=some r):∃t,Aside0 (x=some t)∧f t=some r:=by
 obtain⟨t,h1,h2⟩:=Option.bind_eq_some_iff.mp h
 exact⟨t,⟨h1⟩,h2⟩
theorem qs {a:β} {f:β→Option α} (h:(some a).bind f=some r):∃y,Aside0 (y=a)∧f y=some r:=⟨a,⟨rfl⟩,h⟩
theorem qo {p:Prop} [Decidable p] (h:decide p=true:=by first|(with_reducible assumption)|assumption):p:=of_decide_eq_true h
end
section
variable {w w1:World} {g t:Nat} {a b c d:Value}
theorem qk2 (h:Aside0 (w.heap[g]? =some (.cells #[a,b] t (0,0)))):w.cell? ⟨g,0,none⟩=some a∧w.cell? ⟨g,1,none⟩=some b∧w.frozen? ⟨g,0,none⟩=false∧w.frozen? ⟨g,1,none⟩=false:=⟨(blk_cell h.out 0).trans rfl,(blk_cell h.out 1).trans rfl,blk_frozen h.out 0,blk_frozen h.out 1⟩
theorem qk3 (h:Aside0 (w.heap[g]? =some (.cells #[a,b,c] t (0,0)))):w.cell? ⟨g,0,none⟩=some a∧w.cell? ⟨g,1,none⟩=some b∧w.cell? ⟨g,2,none⟩=some c∧w.frozen? ⟨g,0,none⟩=false∧w.frozen? ⟨g,1,none⟩=false∧w.frozen? ⟨g,2,none⟩=false:=⟨(blk_cell h.out 0).trans rfl,(blk_cell h.out 1).trans rfl,(blk_cell h.out 2).trans rfl,blk_frozen h.out 0,blk_frozen h.out 1,blk_frozen h.out 2⟩
end
theorem mz {p:Prop} (h:p:=by repeat' first|(with_reducible first|exact LeO.refl _|exact LeO.none _|exact ih0 .. |exact ih1 .. |exact ih2 .. |exact ih3 .. |exact ih4 .. |exact ih5 .. |exact ih6 .. |exact ih7 .. |exact ih8 .. |exact ih9 .. |exact m0 .. |exact m1 .. |exact m2 .. |exact m3 .. |exact m4 .. |exact m5 .. |exact m6 .. |exact m7 .. |exact m8 .. |exact m9 .. |exact m10 .. |exact m11 .. |exact m12 .. |exact m13 .. |exact m14 .. |exact m15 .. |refine LeO.ite ?_ ?_|refine LeO.bind ?_ (fun _=>?_))|first|exact ih0 .. |exact ih1 .. |exact ih2 .. |exact ih3 .. |exact ih4 .. |exact ih5 .. |exact ih6 .. |exact ih7 .. |exact m0 .. |exact m1 .. |exact m2 .. |exact m3 .. |exact m4 .. |exact m5 .. |exact m6 .. |exact m7 .. |exact m8 .. |exact m9 .. |exact m10 .. |exact m11 .. |exact LeO.none _|refine LeO.ite ?_ ?_|refine LeO.bind ?_ (fun _=>?_)):p:=h
theorem bl {p:Prop} (h:p:=by repeat(first|(with_reducible first|exact HB.out|apply below_alloc|apply pw_below_drewN|apply below_drew1|refine below_set ?_ (Aside0.out (by assumption))|refine below_set ?_ (IsS81.ge (Aside0.out (by assumption))))|exact HB.out)):p:=h
theorem bk {p:Prop} (h:p:=by first|(with_reducible exact Aside0.out (by assumption))|((with_reducible repeat(first|refine blk_drewN ?_ _|refine blk_drew ?_|refine blk_alloc ?_ _));exact Aside0.out (by assumption))):p:=h
theorem kR {q p:Prop} (x_:Aside0 q) (h:q→p:=by intro h_;(with_reducible repeat(first|apply Kd.R_alloc|apply Kd.R_drewN|apply Kd.R_drew));exact h_):p:=h x_.out
theorem kQ {q p:Prop} (x_:Aside0 q) (h:q→p:=by intro h_;(with_reducible repeat(first|apply Kd.Q_alloc|apply Kd.Q_drewN|apply Kd.Q_drew));exact h_):p:=h x_.out
theorem kS {q p:Prop} (x_:Aside0 q) (h:q→p:=by intro h_;(with_reducible repeat(first|apply Kd.S_alloc|apply Kd.S_drewN|apply Kd.S_drew));exact h_):p:=h x_.out
theorem dn {p:Prop} (h:p:=by first|exact⟨rfl,_,World.drewN_drewN _ _ _⟩|exact⟨rfl,_,Eq.trans (World.drewN_drewN _ _ _) (congrArg (World.drewN _) (Nat.add_assoc _ _ _))⟩):p:=h
theorem dr {p:Prop} (h:p:=by repeat(first|exact Drawn0.refl _|apply Drawn0.step)):p:=h
theorem kP {q p:Prop} (x_:Aside0 q) (h:q→p:=by intro h_;(repeat(first|exact h_|(with_reducible first|refine blk_drewN ?_ _|refine blk_drew ?_|refine blk_alloc ?_ _|refine blk_far ?_ (Aside0.out (by assumption)) _)|apply blk_put));all_goals rfl):p:=h x_.out
theorem kfR {α:Type} {d:Kd α} {e base g i:Nat} {w:World} {ok:Nat→Prop} {v u:Value} {xs:List α} (h:Kd.R d e w base (fun k=>ok k∧k≠g) v xs):Kd.R d e (w.setCell ⟨g,i,none⟩ u) base (fun k=>ok k∧k≠g) v xs:=Kd.R_far (p:=⟨g,i,none⟩) h (fun _ hk=>hk.2) u
theorem kgR {α:Type} {d:Kd α} {e base g g' i:Nat} {w:World} {ok:Nat→Prop} {v u:Value} {xs:List α} (h:Kd.R d e w base (fun k=>(ok k∧k≠g)∧k≠g') v xs):Kd.R d e (w.setCell ⟨g,i,none⟩ u) base (fun k=>(ok k∧k≠g)∧k≠g') v xs:=Kd.R_far (p:=⟨g,i,none⟩) h (fun _ hk=>hk.1.2) u
theorem kFR {α:Type} {d:Kd α} {e base g t:Nat} {w W:World} {ok ok':Nat→Prop} {v:Value} {xs:List α} {cs:Array Value} (x_:Aside0 (Kd.R d e w base ok v xs)) (b_:Aside0 (w.heap[g]? =some (.cells cs t (0,0)))) (hm:∀k,ok k∧k≠g→ok' k) (h:Kd.R d e w base (fun k=>ok k∧k≠g) v xs→Kd.R d e W base (fun k=>ok k∧k≠g) v xs:=by intro h_;repeat(first|(with_reducible first|exact h_|apply Kd.R_alloc|apply Kd.R_drewN|apply Kd.R_drew|apply kfR)|exact h_)) (ht:∀q,q∈e::d.E→q≠t:=by decide):Kd.R d e W base ok' v xs:=Kd.R_mono (h (Kd.R_types x_.out b_.out ht)) hm
theorem kGR {α:Type} {d:Kd α} {e base g g' t t':Nat} {w W:World} {ok ok':Nat→Prop} {v:Value} {xs:List α} {cs cs':Array Value} (x_:Kd.R d e w base ok v xs) (b_:Aside0 (w.heap[g]? =some (.cells cs t (0,0)))) (c_:Aside0 (w.heap[g']? =some (.cells cs' t' (0,0)))) (hm:∀k,(ok k∧k≠g)∧k≠g'→ok' k) (h:Kd.R d e w base (fun k=>(ok k∧k≠g)∧k≠g') v xs→Kd.R d e W base (fun k=>(ok k∧k≠g)∧k≠g') v xs:=by intro h_;repeat(first|(with_reducible first|exact h_|apply Kd.R_alloc|apply Kd.R_drewN|apply Kd.R_drew|apply kfR|apply kgR)|exact h_)) (ht:∀q,q∈e::d.E→q≠t:=by decide) (ht':∀q,q∈e::d.E→q≠t':=by decide):Kd.R d e W base ok' v xs:=Kd.R_mono (h (Kd.R_types (Kd.R_types x_ b_.out ht) c_.out ht')) hm
theorem kfQ {α:Type} {d:Kd α} {e base g i:Nat} {w:World} {ok:Nat→Prop} {v u:Value} {xs:List α} (h:Kd.Q d e w base (fun k=>ok k∧k≠g) v xs):Kd.Q d e (w.setCell ⟨g,i,none⟩ u) base (fun k=>ok k∧k≠g) v xs:=Kd.Q_far (p:=⟨g,i,none⟩) h (fun _ hk=>hk.2) u
theorem kgQ {α:Type} {d:Kd α} {e base g g' i:Nat} {w:World} {ok:Nat→Prop} {v u:Value} {xs:List α} (h:Kd.Q d e w base (fun k=>(ok k∧k≠g)∧k≠g') v xs):Kd.Q d e (w.setCell ⟨g,i,none⟩ u) base (fun k=>(ok k∧k≠g)∧k≠g') v xs:=Kd.Q_far (p:=⟨g,i,none⟩) h (fun _ hk=>hk.1.2) u
theorem kFQ {α:Type} {d:Kd α} {e base g t:Nat} {w W:World} {ok ok':Nat→Prop} {v:Value} {xs:List α} {cs:Array Value} (x_:Aside0 (Kd.Q d e w base ok v xs)) (b_:Aside0 (w.heap[g]? =some (.cells cs t (0,0)))) (hm:∀k,ok k∧k≠g→ok' k) (h:Kd.Q d e w base (fun k=>ok k∧k≠g) v xs→Kd.Q d e W base (fun k=>ok k∧k≠g) v xs:=by intro h_;repeat(first|(with_reducible first|exact h_|apply Kd.Q_alloc|apply Kd.Q_drewN|apply Kd.Q_drew|apply kfQ)|exact h_)) (ht:∀q,q∈e::d.E→q≠t:=by decide):Kd.Q d e W base ok' v xs:=Kd.Q_mono (h (Kd.Q_types x_.out b_.out ht)) hm
theorem kGQ {α:Type} {d:Kd α} {e base g g' t t':Nat} {w W:World} {ok ok':Nat→Prop} {v:Value} {xs:List α} {cs cs':Array Value} (x_:Kd.Q d e w base ok v xs) (b_:Aside0 (w.heap[g]? =some (.cells cs t (0,0)))) (c_:Aside0 (w.heap[g']? =some (.cells cs' t' (0,0)))) (hm:∀k,(ok k∧k≠g)∧k≠g'→ok' k) (h:Kd.Q d e w base (fun k=>(ok k∧k≠g)∧k≠g') v xs→Kd.Q d e W base (fun k=>(ok k∧k≠g)∧k≠g') v xs:=by intro h_;repeat(first|(with_reducible first|exact h_|apply Kd.Q_alloc|apply Kd.Q_drewN|apply Kd.Q_drew|apply kfQ|apply kgQ)|exact h_)) (ht:∀q,q∈e::d.E→q≠t:=by decide) (ht':∀q,q∈e::d.E→q≠t':=by decide):Kd.Q d e W base ok' v xs:=Kd.Q_mono (h (Kd.Q_types (Kd.Q_types x_ b_.out ht) c_.out ht')) hm
theorem kfS {α:Type} {d:Kd α} {e base g i:Nat} {w:World} {ok:Nat→Prop} {v u:Value} {xs:List α} (h:Kd.S d e w base (fun k=>ok k∧k≠g) v xs):Kd.S d e (w.setCell ⟨g,i,none⟩ u) base (fun k=>ok k∧k≠g) v xs:=Kd.S_far (p:=⟨g,i,none⟩) h (fun _ hk=>hk.2) u
theorem kgS {α:Type} {d:Kd α} {e base g g' i:Nat} {w:World} {ok:Nat→Prop} {v u:Value} {xs:List α} (h:Kd.S d e w base (fun k=>(ok k∧k≠g)∧k≠g') v xs):Kd.S d e (w.setCell ⟨g,i,none⟩ u) base (fun k=>(ok k∧k≠g)∧k≠g') v xs:=Kd.S_far (p:=⟨g,i,none⟩) h (fun _ hk=>hk.1.2) u
theorem kFS {α:Type} {d:Kd α} {e base g t:Nat} {w W:World} {ok ok':Nat→Prop} {v:Value} {xs:List α} {cs:Array Value} (x_:Aside0 (Kd.S d e w base ok v xs)) (b_:Aside0 (w.heap[g]? =some (.cells cs t (0,0)))) (hm:∀k,ok k∧k≠g→ok' k) (h:Kd.S d e w base (fun k=>ok k∧k≠g) v xs→Kd.S d e W base (fun k=>ok k∧k≠g) v xs:=by intro h_;repeat(first|(with_reducible first|exact h_|apply Kd.S_alloc|apply Kd.S_drewN|apply Kd.S_drew|apply kfS)|exact h_)) (ht:∀q,q∈e::d.E→q≠t:=by decide):Kd.S d e W base ok' v xs:=Kd.S_mono (h (Kd.S_types x_.out b_.out ht)) hm
theorem kGS {α:Type} {d:Kd α} {e base g g' t t':Nat} {w W:World} {ok ok':Nat→Prop} {v:Value} {xs:List α} {cs cs':Array Value} (x_:Kd.S d e w base ok v xs) (b_:Aside0 (w.heap[g]? =some (.cells cs t (0,0)))) (c_:Aside0 (w.heap[g']? =some (.cells cs' t' (0,0)))) (hm:∀k,(ok k∧k≠g)∧k≠g'→ok' k) (h:Kd.S d e w base (fun k=>(ok k∧k≠g)∧k≠g') v xs→Kd.S d e W base (fun k=>(ok k∧k≠g)∧k≠g') v xs:=by intro h_;repeat(first|(with_reducible first|exact h_|apply Kd.S_alloc|apply Kd.S_drewN|apply Kd.S_drew|apply kfS|apply kgS)|exact h_)) (ht:∀q,q∈e::d.E→q≠t:=by decide) (ht':∀q,q∈e::d.E→q≠t':=by decide):Kd.S d e W base ok' v xs:=Kd.S_mono (h (Kd.S_types (Kd.S_types x_ b_.out ht) c_.out ht')) hm
theorem kZ {q p:Prop} (x_:Aside0 q) (h:q→p:=by intro h_;(with_reducible repeat(first|apply Kd.Z_alloc|apply Kd.Z_drewN|apply Kd.Z_drew));exact h_):p:=h x_.out
theorem kRA {q p:Prop} (x_:Aside0 q) (h:q→p:=by intro h_;(with_reducible repeat(first|apply Kd.RA_alloc|apply Kd.RA_drewN|apply Kd.RA_drew));exact h_):p:=h x_.out
theorem kQA {q p:Prop} (x_:Aside0 q) (h:q→p:=by intro h_;(with_reducible repeat(first|apply Kd.QA_alloc|apply Kd.QA_drewN|apply Kd.QA_drew));exact h_):p:=h x_.out
theorem kSA {q p:Prop} (x_:Aside0 q) (h:q→p:=by intro h_;(with_reducible repeat(first|apply Kd.SA_alloc|apply Kd.SA_drewN|apply Kd.SA_drew));exact h_):p:=h x_.out
theorem kZA {q p:Prop} (x_:Aside0 q) (h:q→p:=by intro h_;(with_reducible repeat(first|apply Kd.ZA_alloc|apply Kd.ZA_drewN|apply Kd.ZA_drew));exact h_):p:=h x_.out
theorem am {p:Prop} (h:p:=by(try simp only[List.map_toArray,List.map_cons,List.map_nil]);first|done|rfl|(simp only[List.length_drop,List.length_take];rfl)):p:=h
theorem gr {p:Prop} (h:p:=by first|(go_simp;done)|(go_simp;rfl)):p:=h
theorem er {p:Prop} (h:p:=by first|rfl|(simp[errW_none,errW_some];exact⟨rfl,rfl⟩)|(simp[errW_none,errW_some] <;> rfl)|(simp[*,errW_none,errW_some] <;> rfl)):p:=h
theorem sd {p:Prop} (h:p:=by first|rfl|(simp;done)|(simp[*];done)):p:=h
theorem cx {q p:Prop} (x_:q) (h:q→p:=by intro h_;iterate 8 (first|done|exact h_|(with_reducible refine Kd.C_alloc ?_ _)|(with_reducible refine Kd.C_drewN ?_ _)|(with_reducible refine Kd.C_drew ?_))):p:=h x_
theorem gw {w W:World} {g:Nat} (hg:g=W.heap.size) (h:Below w.heap.size w W:=by repeat(first|(with_reducible first|exact HB.out|apply below_alloc|apply pw_below_drewN|apply below_drew1|refine below_set ?_ (Aside0.out (by assumption)))|exact HB.out)):Aside0 (w.heap.size≤g):=⟨by rw[hg];exact below_size h⟩
theorem qa {p:Prop} (h:p):Aside0 p:=⟨h⟩
theorem kb {q p:Prop} (x_:Aside0 q) (h:q→p:=by intro h_;repeat(first|exact h_|(with_reducible first|refine blk_drewN ?_ _|refine blk_drew ?_|refine blk_alloc ?_ _|refine blk_far ?_ (Aside0.out (by assumption)) _))):p:=h x_.out
theorem qbb {W0 W w1:World} {g:Nat} {o:Obj} (x_:Aside0 (W0.heap[g]? =some o)) (hb:Below W.heap.size W w1) (h:W0.heap[g]? =some o→W.heap[g]? =some o:=by intro h_;repeat(first|exact h_|(with_reducible first|refine blk_drewN ?_ _|refine blk_drew ?_|refine blk_alloc ?_ _|refine blk_far ?_ (Aside0.out (by assumption)) _))):Aside0 (w1.heap[g]? =some o):=⟨blk_below (h x_.out) hb⟩
theorem qnl {W0 W:World} {g g':Nat} {o:Obj} (hg:g'=W.heap.size) (x_:Aside0 (W0.heap[g]? =some o)) (h:W0.heap[g]? =some o→W.heap[g]? =some o:=by intro h_;repeat(first|exact h_|(with_reducible first|refine blk_drewN ?_ _|refine blk_drew ?_|refine blk_alloc ?_ _|refine blk_far ?_ (Aside0.out (by assumption)) _))):Aside0 (g≠g'):=⟨by rw[hg];exact Nat.ne_of_lt (blk_lt (h x_.out))⟩
theorem qng {W0 W:World} {g g':Nat} {o:Obj} (hg:g'=W.heap.size) (x_:Aside0 (W0.heap[g]? =some o)) (h:W0.heap[g]? =some o→W.heap[g]? =some o:=by intro h_;repeat(first|exact h_|(with_reducible first|refine blk_drewN ?_ _|refine blk_drew ?_|refine blk_alloc ?_ _|refine blk_far ?_ (Aside0.out (by assumption)) _))):Aside0 (g'≠g):=⟨by rw[hg];exact Nat.ne_of_gt (blk_lt (h x_.out))⟩
theorem yh {p:Prop} (h:p:=by first|(rw[hy_];with_reducible exact H)|(have H2_:=(Option.bind_some _ _).symm.trans H;rw[hy_];with_reducible exact H2_)|(have H2_:=(Option.bind_some _ _).symm.trans H;with_reducible exact H2_)|with_reducible exact H|(rw[hy_];exact H)|exact H):p:=h
section
open Go.Proofs.YtdmlkjjlgkdnlaaGreatDoorW.PrintLast
theorem gol {P:Program} {ops:Array Oper} {Q:Exit→Act→World→Prop} {rest:List Oper} {oi:Oper} {a:Act} {w:World} (N:Option Tmp) {f:FuncId} {fn:Func} {as:Array Operand} {ts:Array TypeId} (hf:P.funcs[f]? =some fn) (args:Array Value)
  (h:Calls P f args w fun e w'=>∃v,e= .returned v∧wpList P ops Q rest (a.put N v) w') (hd:oi.dst=N:=by rfl) (hg:oi.guard=none:=by rfl) (hname:(fn.name== "runtime.NumGoroutine")=false:=by kernel_rfl) (hb:fn.body.isSome=true:=by rfl) (hop:oi.op= .call {callee:= .value (.func f),args:=as,argTypes:=ts}:=by rfl) (hargs:as.map a.eval=args:=by(try simp only[List.map_toArray,List.map_cons,List.map_nil]);first|done|rfl|(simp only[List.length_drop,List.length_take];rfl)):wpList P ops Q (oi::rest) a w:=goesL_ N hd hg hf hname hb args hop hargs h
theorem bx {P:Program} {ops:Array Oper} {Q:Exit→Act→World→Prop} {rest:List Oper} {o:Oper} {a:Act} {W:World} (N:Tmp) (cs:Array Value) (t:TypeId) (h:∀g,g=W.heap.size→∀w1,w1.heap[g]? =some (.cells cs t (0,0))→Below W.heap.size W w1→wpList P ops Q rest (a.put o.dst (.pointer (some ⟨g,0,none⟩))) w1) (hd:o.dst=some N:=by rfl) (hgd:o.guard=none:=by rfl)
  (hrun:(execOp a.eval o).run P W= .ok (.value (.pointer (some ⟨W.heap.size,0,none⟩))) (W.alloc (.cells cs t (0,0))):=by first|(go_simp;done)|(go_simp;rfl)):wpList P ops Q (o::rest) a W:=box_event hgd hd hrun h
theorem pur {P:Program} {ops:Array Oper} {Q:Exit→Act→World→Prop} {md:Region.Mode} {S:World→Prop} {ds:List Nat} {T:Bool×List (List Nat×List Nat)} (i n:Nat) {oi:Oper} {v:Value} {fuel:Nat} {l:Array Bool} {a a':Act} {w:World} (l':Array Bool) (hT:Aside0 (rtab md ops=T)) (h:wpAnyLast P md ops Q S ds fuel l' a' w) (hi:ops[i]? =some oi:=by rfl) (hN:oi.dst=some n:=by rfl) (hc:anyT T l.toList l'.toList i=true:=by kernel_rfl) (hQ:∀c a w,Q (.panic c) (a.put oi.dst v) w→Q (.panic c) a w:=by exact fun _ _ _ h=>h) (hw:Region.wanted oi (yielded ops a.tmps)=true:=by rfl) (hy:∀w,(execOp a.eval oi).run P w= .ok (.value v) w:=by intro w';go_simp;with_reducible rfl) (ha:a.put (some n) v=a':=by simp only[Act.put,List.setIfInBounds_toArray,List.set_cons_zero,List.set_cons_succ,i64_w,i32_w];rfl):wpAnyLast P md ops Q S ds (fuel+1) l a w:=pure_ l' hi hN (any_of hT.out hc) hQ (.inl ⟨hw,hy⟩) ha h
end
theorem ai {ik:IntKind} {w:World} {A:Option Addr} {n:Nat} {xs:List Int} (h:(Kd.int ik).C w A n xs) (i:Int) (p:0≤i:=by first|exact qo|omega) (q:i<(n:Int):=by first|exact qo|omega):∃ad,A=some ad∧w.cell? (ad.add i.toNat)=some (.int ik (rd xs i))∧(0≤i)=True∧(i<(n:Int))=True:=by
 obtain⟨ad,e,x⟩:=Kd.at_int h i p q
 exact⟨ad,e,x,eq_true p,eq_true q⟩
theorem aj {ik:IntKind} {w:World} {ad:Addr} {n:Nat} {xs:List Int} (h:(Kd.int ik).C w (some ad) n xs) (i:Int) (p:0≤i:=by first|exact qo|omega) (q:i<(n:Int):=by first|exact qo|omega):w.cell? (ad.add i.toNat)=some (.int ik (rd xs i))∧(0≤i)=True∧(i<(n:Int))=True:=by
 obtain⟨_,e,x,p,q⟩:=ai h i p q
 cases e
 exact⟨x,p,q⟩
theorem ain {ik:IntKind} {w:World} {A:Option Addr} {n:Nat} {xs:List Int} (m:Nat) (h:(Kd.int ik).C w A n xs) (i:Int) (hm:i.toNat=m:=by rfl) (p:0≤i:=by first|exact qo|omega) (q:i<(n:Int):=by first|exact qo|omega):∃ad,A=some ad∧w.cell? (ad.add m)=some (.int ik (rd xs i))∧(m<n)=True∧(0≤i)=True∧(i<(n:Int))=True:=by
 obtain⟨ad,e,x⟩:=Kd.at_int h i p q
 exact⟨ad,e,hm▸x,eq_true (by omega),eq_true p,eq_true q⟩
theorem ajn {ik:IntKind} {w:World} {ad:Addr} {n:Nat} {xs:List Int} (m:Nat) (h:(Kd.int ik).C w (some ad) n xs) (i:Int) (hm:i.toNat=m:=by rfl) (p:0≤i:=by first|exact qo|omega) (q:i<(n:Int):=by first|exact qo|omega):w.cell? (ad.add m)=some (.int ik (rd xs i))∧(m<n)=True∧(0≤i)=True∧(i<(n:Int))=True:=by
 obtain⟨_,e,x,r⟩:=ain m h i hm p q
 cases e
 exact⟨x,r⟩
theorem as_ {w:World} {A:Option Addr} {n:Nat} {xs:List ByteArray} (h:Kd.string.C w A n xs) (i:Int) (p:0≤i:=by first|exact qo|omega) (q:i<(n:Int):=by first|exact qo|omega):∃ad,A=some ad∧w.cell? (ad.add i.toNat)=some (.string (rdOf ByteArray.empty xs i))∧(0≤i)=True∧(i<(n:Int))=True:=by
 obtain⟨ad,e,x⟩:=Kd.at_string h i p q
 exact⟨ad,e,x,eq_true p,eq_true q⟩
theorem at_ {w:World} {ad:Addr} {n:Nat} {xs:List ByteArray} (h:Kd.string.C w (some ad) n xs) (i:Int) (p:0≤i:=by first|exact qo|omega) (q:i<(n:Int):=by first|exact qo|omega):w.cell? (ad.add i.toNat)=some (.string (rdOf ByteArray.empty xs i))∧(0≤i)=True∧(i<(n:Int))=True:=by
 obtain⟨_,e,x,p,q⟩:=as_ h i p q
 cases e
 exact⟨x,p,q⟩
theorem asn {w:World} {A:Option Addr} {n:Nat} {xs:List ByteArray} (m:Nat) (h:Kd.string.C w A n xs) (i:Int) (hm:i.toNat=m:=by rfl) (p:0≤i:=by first|exact qo|omega) (q:i<(n:Int):=by first|exact qo|omega):∃ad,A=some ad∧w.cell? (ad.add m)=some (.string (rdOf ByteArray.empty xs i))∧(m<n)=True∧(0≤i)=True∧(i<(n:Int))=True:=by
 obtain⟨ad,e,x,p',q'⟩:=as_ h i p q
 exact⟨ad,e,hm▸x,eq_true (by omega),p',q'⟩
section
variable {α β:Type} {r:α}
theorem qc {b:Bool} {t e:Option α} (h:(if b=true then t else e)=some r):(b=true∧t=some r)∨(b=false∧e=some r):=by
 cases b
 ·exact .inr ⟨rfl,qf h⟩
 ·exact .inl ⟨rfl,qt h⟩
theorem qN {a b:Nat} {t e:Option α} (h:(if a≤b then t else e)=some r) (he:¬(e=some r):=by simp):a≤b∧(a≤b)=True∧decide (a≤b)=true∧(b<a)=False∧t=some r:=
 have k:=qn h he
 ⟨k.1,eq_true k.1,decide_eq_true k.1,eq_false (Nat.not_lt.2 k.1),k.2⟩
theorem qL (m:Nat) {i:Int} {n:Nat} {t e:Option α} (h:(if i<(n:Int)then t else e)=some r) (he:¬(e=some r):=by simp) (hm:i=(m:Int):=by rfl):decide (i<(n:Int))=true∧decide (m<n)=true∧t=some r:=
 have k:=qn h he
 ⟨decide_eq_true k.1,decide_eq_true (by have:=k.1;omega),k.2⟩
theorem qg {a b:Int} {t e:Option α} (h:(if a>b then t else e)=some r):(decide (b<a)=true∧t=some r)∨(decide (b<a)=false∧e=some r):=qe h
theorem qu {a b:Int} {t e:Option α} (h:(if a≥b then t else e)=some r):(decide (b≤a)=true∧t=some r)∨(decide (b≤a)=false∧e=some r):=qe h
theorem kz {o:Option α} (k:Nat) (h:Aside0 (o=some r)) (z:k=0→o=none:=by intro e_;subst e_;rfl):∃j,k=j+1∧o=some r:=by
 cases k with
 |zero=>exact absurd h.out (by rw[z rfl];simp)
 |succ j=>exact⟨j,rfl,h.out⟩
end
theorem sj {α:Type} {a b:α} (h:some a=some b):a=b:=Option.some.inj h
theorem bs {w W w2:World} (k:Below W.heap.size W w2) (h:Below w.heap.size w W:=by exact bl):Aside0 (Below w.heap.size w w2):=⟨below_step h k⟩
section
open Go.Proofs.YtdmlkjjlgkdnlaaGreatDoorW.PrintLast
variable {P:Program} {ops:Array Oper} {Q:Exit→Act→World→Prop} {rest:List Oper} {oi:Oper} {a:Act} {w:World} {f:FuncId} {fn:Func} {as:Array Operand} {ts:Array TypeId} {args:Array Value}
theorem gd (N:Nat) (hf:P.funcs[f]? =some fn) {v:Value} (c:Calls P f args w fun e w'=>e= .returned v∧Drawn0 w w') (h:∀nd,wpList P ops Q rest (a.put (some N) v) (w.drewN nd)) (hd:oi.dst=some N:=by rfl) (hg:oi.guard=none:=by rfl) (hname:(fn.name== "runtime.NumGoroutine")=false:=by kernel_rfl) (hb:fn.body.isSome=true:=by rfl) (hop:oi.op= .call {callee:= .value (.func f),args:=as,argTypes:=ts}:=by rfl) (hargs:as.map a.eval=args:=by exact am):wpList P ops Q (oi::rest) a w:=
 gol (some N) hf args (c.mono (by rintro e w' ⟨rfl,⟨n,rfl⟩⟩;exact⟨_,rfl,h n⟩)) hd hg hname hb hop hargs
theorem gb (N:Nat) (hf:P.funcs[f]? =some fn) {v:Value} (c:Calls P f args w fun e w'=>e= .returned v∧Below w.heap.size w w') (h:∀w1,Below w.heap.size w w1→wpList P ops Q rest (a.put (some N) v) w1) (hd:oi.dst=some N:=by rfl) (hg:oi.guard=none:=by rfl) (hname:(fn.name== "runtime.NumGoroutine")=false:=by kernel_rfl) (hb:fn.body.isSome=true:=by rfl) (hop:oi.op= .call {callee:= .value (.func f),args:=as,argTypes:=ts}:=by rfl) (hargs:as.map a.eval=args:=by exact am):wpList P ops Q (oi::rest) a w:=
 gol (some N) hf args (c.mono (by rintro e w' ⟨rfl,h1⟩;exact⟨_,rfl,h _ h1⟩)) hd hg hname hb hop hargs
theorem ge_ (N:Nat) (hf:P.funcs[f]? =some fn) {V:Value→Value} {K:Value→World→Prop} (c:Calls P f args w fun e w'=>∃v,e= .returned (V v)∧K v w'∧Below w.heap.size w w') (h:∀v w1,K v w1→Below w.heap.size w w1→wpList P ops Q rest (a.put (some N) (V v)) w1) (hd:oi.dst=some N:=by rfl) (hg:oi.guard=none:=by rfl) (hname:(fn.name== "runtime.NumGoroutine")=false:=by kernel_rfl) (hb:fn.body.isSome=true:=by rfl) (hop:oi.op= .call {callee:= .value (.func f),args:=as,argTypes:=ts}:=by rfl) (hargs:as.map a.eval=args:=by exact am):wpList P ops Q (oi::rest) a w:=
 gol (some N) hf args (c.mono (by rintro e w' ⟨v,rfl,h1,h2⟩;exact⟨_,rfl,h v _ h1 h2⟩)) hd hg hname hb hop hargs
theorem reps_s (W:World) (base:Nat) (ok:Nat→Prop):∀xs:List ByteArray,Reps (Kd.string.M W base ok) Kd.string.sz xs (xs.map Value.string)
 |[]=>Reps.none _ _
 |x::r=>Reps.one (show Kd.M Kd.string _ _ _ x [.string x]from rfl) (reps_s W base ok r)
theorem reps_i (k:IntKind) (W:World) (base:Nat) (ok:Nat→Prop):∀xs:List Int,Reps ((Kd.int k).M W base ok) (Kd.int k).sz xs (xs.map (Value.int k))
 |[]=>Reps.none _ _
 |x::r=>Reps.one (show Kd.M (Kd.int k) _ _ _ x [.int k x]from rfl) (reps_i k W base ok r)
theorem rls (e:Nat) (N:Tmp) {y xs:List ByteArray} (hy:y=xs) (h:∀v1 w1,Kd.R Kd.string e w1 w.heap.size (fun _=>True) v1 y→Below w.heap.size w w1→wpList P ops Q rest (a.put oi.dst v1) w1) (hd:oi.dst=some N:=by rfl) (hg:oi.guard=none:=by rfl) (hm:xs.length≤9223372036854775807:=by simp) (hrun:(execOp a.eval oi).run P w= .ok (.value (.slice (some ⟨w.heap.size,0,none⟩) xs.length xs.length)) (w.alloc (.cells (xs.map Value.string).toArray e)):=by exact gr):wpList P ops Q (oi::rest) a w:=
 Kd.R_lit Kd.string _ e hg hd hrun (reps_s w _ (fun _=>True) xs) (fun _ hk=>hk) trivial (Below.refl _ _) (Nat.le_refl _) hm fun v1 w1 h1 h2 _ _=>h v1 w1 (hy▸h1) h2
theorem rli (k:IntKind) (e:Nat) (N:Tmp) {y xs:List Int} (hy:y=xs) (h:∀v1 w1,Kd.R (Kd.int k) e w1 w.heap.size (fun _=>True) v1 y→Below w.heap.size w w1→wpList P ops Q rest (a.put oi.dst v1) w1) (hd:oi.dst=some N:=by rfl) (hg:oi.guard=none:=by rfl) (hm:xs.length≤9223372036854775807:=by simp) (hrun:(execOp a.eval oi).run P w= .ok (.value (.slice (some ⟨w.heap.size,0,none⟩) xs.length xs.length)) (w.alloc (.cells (xs.map (Value.int k)).toArray e)):=by exact gr):wpList P ops Q (oi::rest) a w:=
 Kd.R_lit (Kd.int k) _ e hg hd hrun (reps_i k w _ (fun _=>True) xs) (fun _ hk=>hk) trivial (Below.refl _ _) (Nat.le_refl _) hm fun v1 w1 h1 h2 _ _=>h v1 w1 (hy▸h1) h2
theorem ko_ {p:Prop} (h:p:=by omega):p:=h
theorem kr_ {p:Prop} (h:p:=by kernel_rfl):p:=h
theorem kd_ {p:Prop} (h:p:=by decide):p:=h
def bz (n m:Nat):Array Bool:=((List.range n).map fun i=>m.testBit i).toArray
section
variable {md:Region.Mode} {S:World→Prop} {ds:List Nat} {fuel:Nat} {l:Array Bool} {a':Act} {v:Value}
theorem nm (n:Nat) (h:wpAnyLast P md ops Q S ds fuel l a' w) (ha:a.put (some n) v=a':=by simp only[Act.put,List.setIfInBounds_toArray,List.set_cons_zero,List.set_cons_succ,i64_w,i32_w];rfl):wpAnyLast P md ops Q S ds fuel l (a.put (some n) v) w:=norm_ ha h
theorem tk (i n:Nat) (l':Array Bool) (hS:S w) (hc:takeB md ops ds l l' i=true) (h:wpAnyLast P md ops Q S ds fuel l' a' w) (hi:ops[i]? =some oi:=by rfl) (hN:oi.dst=some n:=by rfl) (hQ:∀c a w,Q (.panic c) (a.put oi.dst v) w→Q (.panic c) a w:=by exact fun _ _ _ h=>h) (hw:Region.wanted oi (yielded ops a.tmps)=true:=by rfl) (hy:∀w',S w'→(execOp a.eval oi).run P w'= .ok (.value v) w':=by intro w' s_;(repeat(obtain⟨t_,s_⟩:=s_));go_simp;with_reducible rfl) (ha:a.put (some n) v=a':=by simp only[Act.put,List.setIfInBounds_toArray,List.set_cons_zero,List.set_cons_succ,i64_w,i32_w];rfl):wpAnyLast P md ops Q S ds (fuel+1) l a w:=take_ l' hi hN hc hQ (.inl ⟨hw,hy⟩) hS ha h
theorem pq (i n:Nat) (l':Array Bool) (hc:anyB md ops l l' i=true) (h:wpAnyLast P md ops Q S ds fuel l' a' w) (hi:ops[i]? =some oi:=by rfl) (hN:oi.dst=some n:=by rfl) (hQ:∀c a w,Q (.panic c) (a.put oi.dst v) w→Q (.panic c) a w:=by exact fun _ _ _ h=>h) (hw:Region.wanted oi (yielded ops a.tmps)=true:=by rfl) (hy:∀w,(execOp a.eval oi).run P w= .ok (.value v) w:=by intro w';go_simp;with_reducible rfl) (ha:a.put (some n) v=a':=by simp only[Act.put,List.setIfInBounds_toArray,List.set_cons_zero,List.set_cons_succ,i64_w,i32_w];rfl):wpAnyLast P md ops Q S ds (fuel+1) l a w:=pure_ l' hi hN hc hQ (.inl ⟨hw,hy⟩) ha h
theorem o1 (i:Nat) (N:Option Tmp) (l':Array Bool) (hc:readyB md ops l l' i=true) (h:∀K:Act→World→Prop,Shut (∀a' w',S w'→(S w'→wpAnyLast P md ops Q S ds fuel l' a' w')→K a' w')→if Region.wanted oi (yielded ops a.tmps)=true then Oper.wp P oi a w K Q else K (a.put N undef) w) (hi:ops[i]? =some oi:=by rfl) (hN:oi.dst=N:=by rfl) (hd:i∉ds:=by decide):wpAnyLast P md ops Q S ds (fuel+1) l a w:=one_ l' hi hN hc hd h
end
section
variable {N:Option Tmp} {K:Act→World→Prop} {v:Value}
theorem gsd (hf:P.funcs[f]? =some fn) (c:Calls P f args w fun e w'=>e= .returned v∧Drawn0 w w') (h:∀nd,K (a.put N v) (w.drewN nd)) (hname:(fn.name== "runtime.NumGoroutine")=false:=by kernel_rfl) (hb:fn.body.isSome=true:=by rfl) (hw:Region.wanted oi (yielded ops a.tmps)=true:=by rfl) (hN:oi.dst=N:=by rfl) (hop:oi.op= .call {callee:= .value (.func f),args:=as,argTypes:=ts}:=by rfl) (hargs:as.map a.eval=args:=by exact am):if Region.wanted oi (yielded ops a.tmps)=true then Oper.wp P oi a w K Q else K (a.put N undef) w:=
 goes_ hf hname hb args hw hN hop hargs (c.mono (by rintro e w' ⟨rfl,⟨n,rfl⟩⟩;exact⟨_,rfl,h n⟩))
theorem gsb (hf:P.funcs[f]? =some fn) (c:Calls P f args w fun e w'=>e= .returned v∧Below w.heap.size w w') (h:∀w1,Below w.heap.size w w1→K (a.put N v) w1) (hname:(fn.name== "runtime.NumGoroutine")=false:=by kernel_rfl) (hb:fn.body.isSome=true:=by rfl) (hw:Region.wanted oi (yielded ops a.tmps)=true:=by rfl) (hN:oi.dst=N:=by rfl) (hop:oi.op= .call {callee:= .value (.func f),args:=as,argTypes:=ts}:=by rfl) (hargs:as.map a.eval=args:=by exact am):if Region.wanted oi (yielded ops a.tmps)=true then Oper.wp P oi a w K Q else K (a.put N undef) w:=
 goes_ hf hname hb args hw hN hop hargs (c.mono (by rintro e w' ⟨rfl,h1⟩;exact⟨_,rfl,h _ h1⟩))
theorem gse {V:Value→Value} {R:Value→World→Prop} (hf:P.funcs[f]? =some fn) (c:Calls P f args w fun e w'=>∃v,e= .returned (V v)∧R v w'∧Below w.heap.size w w') (h:∀v w1,R v w1→Below w.heap.size w w1→K (a.put N (V v)) w1) (hname:(fn.name== "runtime.NumGoroutine")=false:=by kernel_rfl) (hb:fn.body.isSome=true:=by rfl) (hw:Region.wanted oi (yielded ops a.tmps)=true:=by rfl) (hN:oi.dst=N:=by rfl) (hop:oi.op= .call {callee:= .value (.func f),args:=as,argTypes:=ts}:=by rfl) (hargs:as.map a.eval=args:=by exact am):if Region.wanted oi (yielded ops a.tmps)=true then Oper.wp P oi a w K Q else K (a.put N undef) w:=
 goes_ hf hname hb args hw hN hop hargs (c.mono (by rintro e w' ⟨v,rfl,h1,h2⟩;exact⟨_,rfl,h v _ h1 h2⟩))
end
theorem gm {v:Value} {Q:Ending→World→Prop} (c:Calls P f args w fun e w'=>e= .returned v∧Drawn0 w w') (h:∀nd,Q (.returned v) (w.drewN nd)):Calls P f args w Q:=c.mono (by rintro e w' ⟨rfl,⟨n,rfl⟩⟩;exact h n)
end
theorem z1_ {p:Prop} (h:p:=by repeat(first|(with_reducible first|exact HK.out|apply Kept.alloc|apply Kept.drewN|apply Kept.drew)|exact HK.out)):p:=h
theorem z2_ {p:Prop} (h:p:=by first|exact Kd.R_nil _ _ _ _ _|exact Kd.N_nil _ _ _ _ _|exact Kd.V_nil _ _ _ _ _|exact Kd.Q_nil _ _ _ _ _|exact Kd.S_nil _ _ _ _ _):p:=h
theorem z3_ {p:Prop} (h:p:=by(with_reducible repeat(first|apply Kd.R_alloc|apply Kd.R_drewN|apply Kd.R_drew));exact(Kd.R_mono (Kd.R_mono (Kd.R_far (p:=⟨N0,1,none⟩) (Kd.R_far (p:=⟨N0,0,none⟩) (Kd.R_far (p:=⟨V3,1,none⟩) (Kd.R_far (p:=⟨V3,0,none⟩) (Kd.R_types (Kd.R_types X2.out X3.out (by decide)) Q0.out (by decide)) (fun _ hk=>hk.1.2) (.slice g4 e3.length j4)) (fun _ hk=>hk.1.2) (.slice w4 g3.length x4)) (fun _ hk=>hk.2) (.slice g4 e3.length j4)) (fun _ hk=>hk.2) (.slice w4 g3.length x4)) (fun _ h_=>h_.1)) (fun _ h_=>h_.1))):p:=h
theorem z4_ {p:Prop} (h:p:=by(with_reducible repeat(first|apply Kd.R_alloc|apply Kd.R_drewN|apply Kd.R_drew));exact(Kd.R_mono (Kd.R_mono (Kd.R_far (p:=⟨B2,1,none⟩) (Kd.R_far (p:=⟨B2,0,none⟩) (Kd.R_far (p:=⟨e4,1,none⟩) (Kd.R_far (p:=⟨e4,0,none⟩) (Kd.R_types (Kd.R_types N1.out j4.out (by decide)) D2.out (by decide)) (fun _ hk=>hk.1.2) (.slice x4 w3.length y4)) (fun _ hk=>hk.1.2) (.slice B4 x3.length C4)) (fun _ hk=>hk.2) (.slice x4 w3.length y4)) (fun _ hk=>hk.2) (.slice B4 x3.length C4)) (fun _ h_=>h_.1)) (fun _ h_=>h_.1))):p:=h
theorem z5_ {p:Prop} (h:p:=by repeat(first|(with_reducible exact B1.out)|(with_reducible refine Kd.C_alloc ?_ _)|(with_reducible refine Kd.C_drewN ?_ _)|(with_reducible refine Kd.C_drew ?_)|exact B1.out)):p:=h
theorem z6_ {p:Prop} (h:p:=by(with_reducible repeat(first|apply Kd.RA_alloc|apply Kd.RA_drewN|apply Kd.RA_drew));exact(Kd.RA_mono (Kd.RA_far (p:=⟨c12,1,none⟩) (Kd.RA_far (p:=⟨c12,0,none⟩) (Kd.RA_types a7.out e12.out (by decide)) (fun _ hk=>hk.2) (.slice w12 E10.length x12)) (fun _ hk=>hk.2) (.slice P12 G10.length Q12)) (fun _ h_=>h_.1))):p:=h
theorem z7_ {p:Prop} (h:p:=by(with_reducible repeat(first|apply Kd.QA_alloc|apply Kd.QA_drewN|apply Kd.QA_drew));exact(Kd.QA_mono (Kd.QA_far (p:=⟨c12,1,none⟩) (Kd.QA_far (p:=⟨c12,0,none⟩) (Kd.QA_types b7.out e12.out (by decide)) (fun _ hk=>hk.2) (.slice w12 E10.length x12)) (fun _ hk=>hk.2) (.slice P12 G10.length Q12)) (fun _ h_=>h_.1))):p:=h
theorem z8_ {p:Prop} (h:p:=by(with_reducible repeat(first|apply Kd.ZA_alloc|apply Kd.ZA_drewN|apply Kd.ZA_drew));exact(Kd.ZA_mono (Kd.ZA_far (p:=⟨R4,1,none⟩) (Kd.ZA_far (p:=⟨R4,0,none⟩) (Kd.ZA_types P4.out V4.out (by decide)) (fun _ hk=>hk.2) (.slice g5 J1.length j5)) (fun _ hk=>hk.2) (.slice A5 K1.length B5)) (fun _ h_=>h_.1))):p:=h
theorem z9_ {p:Prop} (h:p:=by(with_reducible repeat(first|apply Kd.RA_alloc|apply Kd.RA_drewN|apply Kd.RA_drew));exact(Kd.RA_mono (Kd.RA_far (p:=⟨R4,1,none⟩) (Kd.RA_far (p:=⟨R4,0,none⟩) (Kd.RA_types W2.out V4.out (by decide)) (fun _ hk=>hk.2) (.slice g5 J1.length j5)) (fun _ hk=>hk.2) (.slice A5 K1.length B5)) (fun _ h_=>h_.1))):p:=h
theorem z10_ {p:Prop} (h:p:=by(with_reducible repeat(first|apply Kd.RA_alloc|apply Kd.RA_drewN|apply Kd.RA_drew));exact(Kd.RA_mono (Kd.RA_far (p:=⟨R4,1,none⟩) (Kd.RA_far (p:=⟨R4,0,none⟩) (Kd.RA_types N4.out V4.out (by decide)) (fun _ hk=>hk.2) (.slice g5 J1.length j5)) (fun _ hk=>hk.2) (.slice A5 K1.length B5)) (fun _ h_=>h_.1))):p:=h
theorem z11_ {p:Prop} (h:p:=by(with_reducible repeat(first|apply Kd.QA_alloc|apply Kd.QA_drewN|apply Kd.QA_drew));exact(Kd.QA_mono (Kd.QA_far (p:=⟨R4,1,none⟩) (Kd.QA_far (p:=⟨R4,0,none⟩) (Kd.QA_types X2.out V4.out (by decide)) (fun _ hk=>hk.2) (.slice g5 J1.length j5)) (fun _ hk=>hk.2) (.slice A5 K1.length B5)) (fun _ h_=>h_.1))):p:=h
theorem z12_ {p:Prop} (h:p:=by have:=HK1.out;first|omega|exact Nat.le_refl _):p:=h
theorem z13_ {p:Prop} (h:p:=by repeat(first|(with_reducible exact A1.out)|(with_reducible refine Kd.C_alloc ?_ _)|(with_reducible refine Kd.C_drewN ?_ _)|(with_reducible refine Kd.C_drew ?_)|exact A1.out)):p:=h
theorem z14_ {p:Prop} (h:p:=by first|exact Kd.S_nil _ _ _ _ _|exact Kd.N_nil _ _ _ _ _|exact Kd.V_nil _ _ _ _ _|exact Kd.Q_nil _ _ _ _ _|exact Kd.R_nil _ _ _ _ _):p:=h
theorem z15_ {p:Prop} (h:p:=by(with_reducible repeat(first|apply Kd.R_alloc|apply Kd.R_drewN|apply Kd.R_drew));exact Kd.R_mono Q1.out (fun _ hk=>⟨trivial,hk⟩)):p:=h
theorem z16_ {p:Prop} (h:p:=by(with_reducible repeat(first|apply Kd.RA_alloc|apply Kd.RA_drewN|apply Kd.RA_drew));exact(Kd.RA_mono (Kd.RA_far (p:=⟨a3,1,none⟩) (Kd.RA_far (p:=⟨a3,0,none⟩) (Kd.RA_types W2.out c3.out (by decide)) (fun _ hk=>hk.2) (.slice l3 w1.length n3)) (fun _ hk=>hk.2) (.slice x3 x1.length y3)) (fun _ h_=>h_.1))):p:=h
theorem z17_ {p:Prop} (h:p:=by first|exact Nat.ne_of_lt (Nat.lt_of_lt_of_le (by have:=World.block_lt_of_cell? _ _ V3;first|rwa [add_block]at this|exact this) l4.out)|(rw[add_block];exact Nat.ne_of_lt (Nat.lt_of_lt_of_le (by have:=World.block_lt_of_cell? _ _ V3;first|rwa [add_block]at this|exact this) l4.out))|(show(Addr.add _ _).block ≠_;rw[add_block];exact Nat.ne_of_lt (Nat.lt_of_lt_of_le (by have:=World.block_lt_of_cell? _ _ V3;first|rwa [add_block]at this|exact this) l4.out))|(dsimp only;exact Nat.ne_of_lt (Nat.lt_of_lt_of_le (by have:=World.block_lt_of_cell? _ _ V3;first|rwa [add_block]at this|exact this) l4.out))):p:=h
theorem z18_ {p:Prop} (h:p:=by(with_reducible repeat(first|apply Kd.Z_alloc|apply Kd.Z_drewN|apply Kd.Z_drew));exact Kd.Z_mono E5.out (fun _ hk=>⟨(by simp[Value.ownBlock]),hk⟩)):p:=h
theorem z19_ {p:Prop} (h:p:=by(with_reducible repeat(first|apply Kd.R_alloc|apply Kd.R_drewN|apply Kd.R_drew));exact Kd.R_mono D5.out (fun _ hk=>(by simp[Value.ownBlock]))):p:=h
theorem z20_ {p:Prop} (h:p:=by repeat(first|apply below_alloc|apply pw_below_drewN|apply below_drew1|exact Below.refl w.heap.size w)):p:=h
theorem z21_ {p:Prop} (h:p:=by repeat(first|apply below_alloc|apply pw_below_drewN|apply below_drew1|exact Below.refl _ _)):p:=h
theorem z22_ {p:Prop} (h:p:=by(with_reducible repeat(first|apply Kd.R_alloc|apply Kd.R_drewN|apply Kd.R_drew));exact HL370_0.out):p:=h
theorem z23_ {p:Prop} (h:p:=by(with_reducible repeat(first|apply Kd.R_alloc|apply Kd.R_drewN|apply Kd.R_drew));exact Kd.R_mono D0.out (fun _ hk=>⟨trivial,hk⟩)):p:=h
theorem z24_ {p:Prop} (h:p:=by have:=C5.out;first|omega|exact Nat.le_refl _):p:=h
theorem z25_ {p:Prop} (h:p:=by(with_reducible repeat(first|apply Kd.R_alloc|apply Kd.R_drewN|apply Kd.R_drew));exact Kd.R_mono D5.out (fun _ hk=>hk.2)):p:=h
theorem z26_ {p:Prop} (h:p:=by simp only[putAll,Act.put,List.setIfInBounds_toArray,List.set_cons_zero,List.set_cons_succ]):p:=h
theorem z27_ {p:Prop} (h:p:=by(with_reducible repeat(first|apply Kd.ZA_alloc|apply Kd.ZA_drewN|apply Kd.ZA_drew));exact Kd.ZA_mono g7.out (fun _ hk=>⟨hk.1,⟨hk.2.1,⟨hk.2.2.1,⟨hk.2.2.2.1,hk.2.2.2.2.1⟩⟩⟩⟩)):p:=h
theorem z28_ {p:Prop} (h:p:=by(with_reducible repeat(first|apply Kd.ZA_alloc|apply Kd.ZA_drewN|apply Kd.ZA_drew));exact Kd.ZA_mono d7.out (fun _ hk=>⟨hk.1,⟨hk.2.1,⟨hk.2.2.1,⟨hk.2.2.2.1,hk.2.2.2.2.1⟩⟩⟩⟩)):p:=h
theorem z29_ {p:Prop} (h:p:=by(with_reducible repeat(first|apply Kd.QA_alloc|apply Kd.QA_drewN|apply Kd.QA_drew));exact Kd.QA_mono b7.out (fun _ hk=>⟨hk.1,⟨hk.2.1,⟨hk.2.2.1,⟨hk.2.2.2.1,hk.2.2.2.2.1⟩⟩⟩⟩)):p:=h
theorem z30_ {p:Prop} (h:p:=by repeat(first|(with_reducible exact Q1.out)|(with_reducible refine Kd.C_alloc ?_ _)|(with_reducible refine Kd.C_drewN ?_ _)|(with_reducible refine Kd.C_drew ?_)|exact Q1.out)):p:=h
theorem z31_ {p:Prop} (h:p:=by repeat(first|(with_reducible exact L0.out)|(with_reducible refine Kd.C_alloc ?_ _)|(with_reducible refine Kd.C_drewN ?_ _)|(with_reducible refine Kd.C_drew ?_)|exact L0.out)):p:=h
theorem z32_ {p:Prop} (h:p:=by(with_reducible repeat(first|apply Kd.ZA_alloc|apply Kd.ZA_drewN|apply Kd.ZA_drew));exact(Kd.ZA_mono (Kd.ZA_far (p:=⟨c12,1,none⟩) (Kd.ZA_far (p:=⟨c12,0,none⟩) (Kd.ZA_types g7.out e12.out (by decide)) (fun _ hk=>hk.2) (.slice w12 E10.length x12)) (fun _ hk=>hk.2) (.slice P12 G10.length Q12)) (fun _ h_=>h_.1))):p:=h
theorem z33_ {p:Prop} (h:p:=by(with_reducible repeat(first|apply Kd.ZA_alloc|apply Kd.ZA_drewN|apply Kd.ZA_drew));exact(Kd.ZA_mono (Kd.ZA_far (p:=⟨c12,1,none⟩) (Kd.ZA_far (p:=⟨c12,0,none⟩) (Kd.ZA_types d7.out e12.out (by decide)) (fun _ hk=>hk.2) (.slice w12 E10.length x12)) (fun _ hk=>hk.2) (.slice P12 G10.length Q12)) (fun _ h_=>h_.1))):p:=h
theorem z34_ {p:Prop} (h:p:=by(with_reducible repeat(first|apply Kd.RA_alloc|apply Kd.RA_drewN|apply Kd.RA_drew));exact(Kd.RA_mono (Kd.RA_far (p:=⟨c12,1,none⟩) (Kd.RA_far (p:=⟨c12,0,none⟩) (Kd.RA_types e7.out e12.out (by decide)) (fun _ hk=>hk.2) (.slice w12 E10.length x12)) (fun _ hk=>hk.2) (.slice P12 G10.length Q12)) (fun _ h_=>h_.1))):p:=h
theorem z35_ {p:Prop} (h:p:=by(with_reducible repeat(first|apply Kd.RA_alloc|apply Kd.RA_drewN|apply Kd.RA_drew));exact(Kd.RA_mono (Kd.RA_far (p:=⟨c12,1,none⟩) (Kd.RA_far (p:=⟨c12,0,none⟩) (Kd.RA_types c7.out e12.out (by decide)) (fun _ hk=>hk.2) (.slice w12 E10.length x12)) (fun _ hk=>hk.2) (.slice P12 G10.length Q12)) (fun _ h_=>h_.1))):p:=h
theorem z36_ {p:Prop} (h:p:=by repeat(first|(with_reducible first|exact HK.out|apply Kept.alloc|apply Kept.drewN|apply Kept.drew|refine Kept.setCell ?_ (.inr M0.out) _)|exact HK.out)):p:=h
theorem z37_ {p:Prop} (h:p:=by(with_reducible repeat(first|apply Kd.ZA_alloc|apply Kd.ZA_drewN|apply Kd.ZA_drew));exact(Kd.ZA_mono (Kd.ZA_far (p:=⟨R4,1,none⟩) (Kd.ZA_far (p:=⟨R4,0,none⟩) (Kd.ZA_types M3.out V4.out (by decide)) (fun _ hk=>hk.2) (.slice g5 J1.length j5)) (fun _ hk=>hk.2) (.slice A5 K1.length B5)) (fun _ h_=>h_.1))):p:=h
theorem z38_ {p:Prop} (h:p:=by(with_reducible repeat(first|apply Kd.RA_alloc|apply Kd.RA_drewN|apply Kd.RA_drew));exact(Kd.RA_mono (Kd.RA_far (p:=⟨R4,1,none⟩) (Kd.RA_far (p:=⟨R4,0,none⟩) (Kd.RA_types L3.out V4.out (by decide)) (fun _ hk=>hk.2) (.slice g5 J1.length j5)) (fun _ hk=>hk.2) (.slice A5 K1.length B5)) (fun _ h_=>h_.1))):p:=h
theorem z39_ {p:Prop} (h:p:=by(with_reducible repeat(first|apply Kd.QA_alloc|apply Kd.QA_drewN|apply Kd.QA_drew));exact(Kd.QA_mono (Kd.QA_far (p:=⟨a3,1,none⟩) (Kd.QA_far (p:=⟨a3,0,none⟩) (Kd.QA_types X2.out c3.out (by decide)) (fun _ hk=>hk.2) (.slice l3 w1.length n3)) (fun _ hk=>hk.2) (.slice x3 x1.length y3)) (fun _ h_=>h_.1))):p:=h
theorem z40_ {p:Prop} (h:p:=by(with_reducible repeat(first|apply Kd.Z_alloc|apply Kd.Z_drewN|apply Kd.Z_drew));exact Kd.Z_mono (Kd.Z_far (p:=⟨e1,1,none⟩) (Kd.Z_far (p:=⟨e1,0,none⟩) (Kd.Z_types E5.out l1.out (by decide)) (fun _ hk=>hk.2) (.slice t2 K0.length v2)) (fun _ hk=>hk.2) (.slice K2 L0.length L2)) (fun _ hk=>hk.1)):p:=h
theorem z41_ {p:Prop} (h:p:=by(try simp only[V9]);(try simp only[W9]);(with_reducible repeat(first|apply Kd.Q_alloc|apply Kd.Q_drewN|apply Kd.Q_drew));exact Kd.Q_mono a12.out (fun _ hk=>⟨hk.1.1.1.1.1.1.1.2,⟨hk.1.1.1.1.1.1.2,⟨hk.1.1.1.1.1.2,⟨hk.1.1.1.1.2,⟨hk.1.1.1.2,⟨hk.1.1.2,hk.1.1.1.1.1.1.1.1⟩⟩⟩⟩⟩⟩)):p:=h
theorem z42_ {p:Prop} (h:p:=by(with_reducible repeat(first|apply Kd.RA_alloc|apply Kd.RA_drewN|apply Kd.RA_drew));exact Kd.RA_mono e7.out (fun _ hk=>⟨hk.1,hk.2.1⟩)):p:=h
theorem z43_ {p:Prop} (h:p:=by(with_reducible repeat(first|apply Kd.RA_alloc|apply Kd.RA_drewN|apply Kd.RA_drew));exact Kd.RA_mono c7.out (fun _ hk=>⟨hk.1,hk.2.1⟩)):p:=h
theorem z44_ {p:Prop} (h:p:=by(with_reducible repeat(first|apply Kd.RA_alloc|apply Kd.RA_drewN|apply Kd.RA_drew));exact Kd.RA_mono a7.out (fun _ hk=>⟨hk.1,hk.2.1⟩)):p:=h
theorem z45_ {p:Prop} (h:p:=by(try simp only[V9]);(try simp only[W9]);(with_reducible repeat(first|apply Kd.ZA_alloc|apply Kd.ZA_drewN|apply Kd.ZA_drew));exact Kd.ZA_mono g7.out (fun _ hk=>⟨hk.1.1.1.1.1,⟨hk.1.1.1.1.2.1,⟨hk.1.1.1.1.2.2.1,⟨hk.1.1.1.1.2.2.2.1,⟨hk.1.1.1.1.2.2.2.2,⟨hk.1.2,hk.2⟩⟩⟩⟩⟩⟩)):p:=h
theorem z46_ {p:Prop} (h:p:=by(try simp only[V9]);(try simp only[W9]);(with_reducible repeat(first|apply Kd.ZA_alloc|apply Kd.ZA_drewN|apply Kd.ZA_drew));exact Kd.ZA_mono d7.out (fun _ hk=>⟨hk.1.1.1.1.1,⟨hk.1.1.1.1.2.1,⟨hk.1.1.1.1.2.2.1,⟨hk.1.1.1.1.2.2.2.1,⟨hk.1.1.1.1.2.2.2.2,⟨hk.1.2,hk.2⟩⟩⟩⟩⟩⟩)):p:=h
theorem z47_ {p:Prop} (h:p:=by(try simp only[V9]);(try simp only[W9]);(with_reducible repeat(first|apply Kd.QA_alloc|apply Kd.QA_drewN|apply Kd.QA_drew));exact Kd.QA_mono b7.out (fun _ hk=>⟨hk.1.1.1.1.1,⟨hk.1.1.1.1.2.1,⟨hk.1.1.1.1.2.2.1,⟨hk.1.1.1.1.2.2.2.1,⟨hk.1.1.1.1.2.2.2.2,⟨hk.1.2,hk.2⟩⟩⟩⟩⟩⟩)):p:=h
theorem z48_ {p:Prop} (h:p:=by first|exact Kd.R_nil _ _ _ _ _|exact Kd.N_nil _ _ _ _ _|exact Kd.V_nil _ _ _ _ _|exact Kd.Z_nil _ _ _ _ _|exact Kd.S_nil _ _ _ _ _):p:=h
theorem z49_ {p:Prop} (h:p:=by(try simp only[List.map_toArray,List.map_cons,List.map_nil]);first|done|(rw[show(c0.take 8).length =8 from(by rw[List.length_take];have h_:(8:Int)≤(c0.length:Int):=qo;omega)] <;> rfl)|rfl|(simp only[List.length_drop,List.length_take];rfl)):p:=h
theorem z50_ {p:Prop} (h:p:=by(with_reducible repeat(first|apply Kd.R_alloc|apply Kd.R_drewN|apply Kd.R_drew));exact Kd.R_mono W6.out (fun _ hk=>hk.2.1)):p:=h
theorem z51_ {p:Prop} (h:p:=by(with_reducible repeat(first|apply Kd.R_alloc|apply Kd.R_drewN|apply Kd.R_drew));exact Kd.R_mono Y6.out (fun _ hk=>hk.1)):p:=h
theorem z52_ {p:Prop} (h:p:=by(with_reducible repeat(first|apply Kd.R_alloc|apply Kd.R_drewN|apply Kd.R_drew));exact Kd.R_mono D0.out (fun _ hk=>hk.2)):p:=h
theorem z53_ {p:Prop} (h:p:=by first|rfl|(simp[errW_none,errW_some];exact⟨rfl,rfl⟩)|(simp[errW_none,errW_some] <;> rfl)|(simp only[←q1,←N2];first|rfl|(simp[errW_none,errW_some] <;> rfl))|(simp[*,errW_none,errW_some] <;> rfl)):p:=h
theorem z54_ {p:Prop} (h:p:=by have:=E0.out;have:=HK2.out;have:=HK3.out;omega):p:=h
theorem z55_ {p:Prop} (h:p:=by(with_reducible repeat(first|apply Kd.R_alloc|apply Kd.R_drewN|apply Kd.R_drew));exact HL781_0.out):p:=h
theorem z56_ {p:Prop} (h:p:=by(with_reducible repeat(first|apply Kd.Z_alloc|apply Kd.Z_drewN|apply Kd.Z_drew));exact HO0_1.out):p:=h
theorem z57_ {p:Prop} (h:p:=by(try simp only[V9]);(try simp only[W9]);(with_reducible repeat(first|apply Kd.R_alloc|apply Kd.R_drewN|apply Kd.R_drew));exact Kd.R_mono Y11.out (fun _ hk=>⟨hk.1.1.1.2,⟨hk.1.1.2,hk.1.2⟩⟩)):p:=h
theorem z58_ {p:Prop} (h:p:=by(try simp only[V9]);(try simp only[W9]);(with_reducible repeat(first|apply Kd.RA_alloc|apply Kd.RA_drewN|apply Kd.RA_drew));exact Kd.RA_mono e7.out (fun _ hk=>⟨hk.1.1.1,⟨hk.1.1.2,hk.2⟩⟩)):p:=h
theorem z59_ {p:Prop} (h:p:=by(try simp only[V9]);(try simp only[W9]);(with_reducible repeat(first|apply Kd.RA_alloc|apply Kd.RA_drewN|apply Kd.RA_drew));exact Kd.RA_mono c7.out (fun _ hk=>⟨hk.1.1.1,⟨hk.1.1.2,hk.2⟩⟩)):p:=h
theorem z60_ {p:Prop} (h:p:=by(try simp only[V9]);(try simp only[W9]);(with_reducible repeat(first|apply Kd.RA_alloc|apply Kd.RA_drewN|apply Kd.RA_drew));exact Kd.RA_mono a7.out (fun _ hk=>⟨hk.1.1.1,⟨hk.1.1.2,hk.2⟩⟩)):p:=h
theorem z61_ {p:Prop} (h:p:=by(with_reducible repeat(first|apply Kd.R_alloc|apply Kd.R_drewN|apply Kd.R_drew));exact HO.out):p:=h
theorem z62_ {p:Prop} (h:p:=by(with_reducible repeat(first|apply Kd.ZA_alloc|apply Kd.ZA_drewN|apply Kd.ZA_drew));exact Kd.ZA_mono P4.out (fun _ hk=>⟨hk.1.1.1.2,⟨hk.1.1.2,⟨hk.1.2,⟨hk.2,hk.1.1.1.1.1.1⟩⟩⟩⟩)):p:=h
theorem z63_ {p:Prop} (h:p:=by(with_reducible repeat(first|apply Kd.ZA_alloc|apply Kd.ZA_drewN|apply Kd.ZA_drew));exact Kd.ZA_mono M3.out (fun _ hk=>⟨hk.1.1.1.2,⟨hk.1.1.2,⟨hk.1.1.1.1.1.1,⟨hk.1.2,hk.2⟩⟩⟩⟩)):p:=h
theorem z64_ {p:Prop} (h:p:=by(with_reducible repeat(first|apply Kd.QA_alloc|apply Kd.QA_drewN|apply Kd.QA_drew));exact Kd.QA_mono X2.out (fun _ hk=>⟨hk.1.1.1.1.1.1,⟨hk.1.1.1.2,⟨hk.1.1.2,⟨hk.1.2,hk.2⟩⟩⟩⟩)):p:=h
theorem z65_ {p:Prop} (h:p:=by repeat(first|(with_reducible exact n3.out)|(with_reducible refine Kd.C_alloc ?_ _)|(with_reducible refine Kd.C_drewN ?_ _)|(with_reducible refine Kd.C_drew ?_)|exact n3.out)):p:=h
theorem z66_ {p:Prop} (h:p:=by repeat(first|(with_reducible exact g2.out)|(with_reducible refine Kd.C_alloc ?_ _)|(with_reducible refine Kd.C_drewN ?_ _)|(with_reducible refine Kd.C_drew ?_)|exact g2.out)):p:=h
theorem z67_ {p:Prop} (h:p:=by repeat(first|(with_reducible exact X1.out)|(with_reducible refine Kd.C_alloc ?_ _)|(with_reducible refine Kd.C_drewN ?_ _)|(with_reducible refine Kd.C_drew ?_)|exact X1.out)):p:=h
theorem z68_ {p:Prop} (h:p:=by repeat(first|(with_reducible exact X0.out)|(with_reducible refine Kd.C_alloc ?_ _)|(with_reducible refine Kd.C_drewN ?_ _)|(with_reducible refine Kd.C_drew ?_)|exact X0.out)):p:=h
theorem z69_ {p:Prop} (h:p:=by repeat(first|(with_reducible exact M0.out)|(with_reducible refine Kd.C_alloc ?_ _)|(with_reducible refine Kd.C_drewN ?_ _)|(with_reducible refine Kd.C_drew ?_)|exact M0.out)):p:=h
theorem z70_ {p:Prop} (h:p:=by repeat(first|(with_reducible exact K0.out)|(with_reducible refine Kd.C_alloc ?_ _)|(with_reducible refine Kd.C_drewN ?_ _)|(with_reducible refine Kd.C_drew ?_)|exact K0.out)):p:=h
theorem z71_ {p:Prop} (h:p:=by first|rfl|(simp only[i64_w];done)|(simp[i64_w];done)):p:=h
theorem z72_ {p:Prop} (h:p:=by(try simp only[V9]);(try simp only[W9]);(with_reducible repeat(first|apply Kd.R_alloc|apply Kd.R_drewN|apply Kd.R_drew));exact Kd.R_mono Y6.out (fun _ hk=>trivial)):p:=h
theorem z73_ {p:Prop} (h:p:=by(try simp only[V9]);(try simp only[W9]);(with_reducible repeat(first|refine blk_drewN ?_ _|refine blk_drew ?_|refine blk_alloc ?_ _));exact e12.out):p:=h
theorem z74_ {p:Prop} (h:p:=by(try simp only[V9]);(try simp only[W9]);(with_reducible repeat(first|refine blk_drewN ?_ _|refine blk_drew ?_|refine blk_alloc ?_ _));exact c3.out):p:=h
theorem z75_ {p:Prop} (h:p:=by(try simp only[V9]);(try simp only[W9]);(with_reducible repeat(first|refine blk_drewN ?_ _|refine blk_drew ?_|refine blk_alloc ?_ _));exact V4.out):p:=h
theorem z76_ {p:Prop} (h:p:=by(try simp only[V9]);(try simp only[W9]);(with_reducible repeat(first|refine blk_drewN ?_ _|refine blk_drew ?_|refine blk_alloc ?_ _));exact Q3.out):p:=h
theorem z77_ {p:Prop} (h:p:=by(try simp only[V9]);(try simp only[W9]);(with_reducible repeat(first|refine blk_drewN ?_ _|refine blk_drew ?_|refine blk_alloc ?_ _));exact P0.out):p:=h
theorem z78_ {p:Prop} (h:p:=by(with_reducible repeat(first|apply Kd.S_alloc|apply Kd.S_drewN|apply Kd.S_drew));exact Kd.S_mono v0.out (fun k_ hk=>⟨trivial,fun e_=>hk.2 e_⟩)):p:=h
theorem z79_ {p:Prop} (h:p:=by(with_reducible repeat(first|apply Kd.Q_alloc|apply Kd.Q_drewN|apply Kd.Q_drew));exact Kd.Q_mono s3.out (fun _ hk=>⟨hk.1.2,⟨hk.2,hk.1.1⟩⟩)):p:=h
theorem z80_ {p:Prop} (h:p:=by(with_reducible repeat(first|apply Kd.Q_alloc|apply Kd.Q_drewN|apply Kd.Q_drew));exact Kd.Q_mono c4.out (fun _ hk=>⟨hk.1.1,⟨hk.1.2,hk.2⟩⟩)):p:=h
end Go.Proofs.YtdmlkjjlgkdnlaaGreatDoorW.PrintWords
