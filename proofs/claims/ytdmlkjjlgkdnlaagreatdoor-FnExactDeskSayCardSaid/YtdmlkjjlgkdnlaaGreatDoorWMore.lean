-- What the kit's print laid for this claim, without what nothing here uses (wip/shrink.py)
-- PRINTED WORDS (module Derived/Print/More.lean): go-gate-2's additions: an AI agent of Go's test side, Tue Nov 17 2026; no person has read it. Lean checks it.
import Derived.Test.YtdmlkjjlgkdnlaaGreatDoorWWords
import Derived.Test.YtdmlkjjlgkdnlaaGreatDoorWLast
import Derived.Test.YtdmlkjjlgkdnlaaGreatDoorWQPut
import Derived.Test.YtdmlkjjlgkdnlaaGreatDoorWApart
import Derived.Test.YtdmlkjjlgkdnlaaGreatDoorWZeros
import Derived.Test.YtdmlkjjlgkdnlaaGreatDoorWFoot
import Derived.Test.YtdmlkjjlgkdnlaaGreatDoorWKept
import Derived.Test.YtdmlkjjlgkdnlaaGreatDoorWNEv
namespace Go.Proofs.YtdmlkjjlgkdnlaaGreatDoorW.PrintMore
open Go.RowKit Go.Proofs.YtdmlkjjlgkdnlaaGreatDoorW.PrintWords
theorem max2_int (k k':IntKind) (x y:Int):Builtin.max2 (.int k x) (.int k' y)=pure (.int k (if x<y then y else x)):=by simp only[Builtin.max2,gt_iff_lt]
theorem min2_int (k k':IntKind) (x y:Int):Builtin.min2 (.int k x) (.int k' y)=pure (.int k (if y<x then y else x)):=by simp only[Builtin.min2]
theorem max_two (ats:Array TypeId) (ty:TypeId) (a b:Value):Builtin.max_ ats ty #[a,b]=(Builtin.max2 a b>>=fun s=>pure s):=by simp only[Builtin.max_,List.foldlM_cons,List.foldlM_nil]
theorem min_two (ats:Array TypeId) (ty:TypeId) (a b:Value):Builtin.min_ ats ty #[a,b]=(Builtin.min2 a b>>=fun s=>pure s):=by simp only[Builtin.min_,List.foldlM_cons,List.foldlM_nil]
theorem max_three (ats:Array TypeId) (ty:TypeId) (a b c:Value):Builtin.max_ ats ty #[a,b,c]=(Builtin.max2 a b>>=fun s=>Builtin.max2 s c>>=fun s=>pure s):=by simp only[Builtin.max_,List.foldlM_cons,List.foldlM_nil]
theorem min_three (ats:Array TypeId) (ty:TypeId) (a b c:Value):Builtin.min_ ats ty #[a,b,c]=(Builtin.min2 a b>>=fun s=>Builtin.min2 s c>>=fun s=>pure s):=by simp only[Builtin.min_,List.foldlM_cons,List.foldlM_nil]
theorem max_four (ats:Array TypeId) (ty:TypeId) (a b c d:Value):Builtin.max_ ats ty #[a,b,c,d]=(Builtin.max2 a b>>=fun s=>Builtin.max2 s c>>=fun s=>Builtin.max2 s d>>=fun s=>pure s):=by simp only[Builtin.max_,List.foldlM_cons,List.foldlM_nil]
theorem min_four (ats:Array TypeId) (ty:TypeId) (a b c d:Value):Builtin.min_ ats ty #[a,b,c,d]=(Builtin.min2 a b>>=fun s=>Builtin.min2 s c>>=fun s=>Builtin.min2 s d>>=fun s=>pure s):=by simp only[Builtin.min_,List.foldlM_cons,List.foldlM_nil]
end Go.Proofs.YtdmlkjjlgkdnlaaGreatDoorW.PrintMore
namespace Go.Proofs.YtdmlkjjlgkdnlaaGreatDoorW.PrintWords
open Go.RowKit
section
variable {P:Program} {ops:Array Oper} {rest:List Oper} {o:Oper} {a:Act} {Q:Exit→Act→World→Prop} {W:World}
theorem gate_callee {f:FuncId} {as:Array Operand} {ts:Array TypeId} (_ho:o.op= .call {callee:= .value (.func f),args:=as,argTypes:=ts}) (h:wpList P ops Q (o::rest) a W):wpList P ops Q (o::rest) a W:=h
theorem gate_builtin {b:Builtin} {xs:Array Operand} {ts:Array TypeId} (_ho:o.op= .call {callee:= .builtin b,args:=xs,argTypes:=ts}) (h:wpList P ops Q (o::rest) a W):wpList P ops Q (o::rest) a W:=h
end
theorem drewN_self (w:World) (n:Nat):w.drewN n=w.drewN n:=rfl
namespace Kd
section
variable {α:Type} {d:Kd α} {e base b b' g N:Nat} {ok ok1:Nat→Prop} {W W2 w1:World} {u v:Value} {xs ys:List α} {S:Nat→Prop}
theorem R_reok (hE:d.E=[]) (h:d.R e W base ok1 v xs) (hok:∀k,v.ownBlock=some k→ok k):d.R e W base ok v xs:=R_mono (R_tight hE h) (fun k hk=>hok k hk.symm)
theorem R_keptB (h:d.R e W base ok v xs) (hk:Kept W W2 S) (hne:∀k,ok k→¬S k):d.R e W2 base (fun k=>ok k∧(¬S k∧k<W.heap.size)) v xs:=
 R_kept (R_mono (R_bound h) (fun k hk=>⟨hk.1,hne k hk.1,hk.2.2.1⟩)) hk (fun _ hk=>hk.2.1)
theorem Q_keptB (h:d.Q e W base ok v xs) (hk:Kept W W2 S) (hne:∀k,ok k→¬S k):d.Q e W2 base (fun k=>ok k∧(¬S k∧k<W.heap.size)) v xs:=
 Q_kept (Q_mono (Q_bound h) (fun k hk=>⟨hk.1,hne k hk.1,hk.2.2.1⟩)) hk (fun _ hk=>hk.2.1)
theorem S_keptB (h:Kd.S d e W base ok v xs) (hk:Kept W W2 S) (hne:∀k,ok k→¬S k):Kd.S d e W2 base (fun k=>ok k∧(¬S k∧k<W.heap.size)) v xs:=
 S_kept (S_mono (S_bound h) (fun k hk=>⟨hk.1,hne k hk.1,hk.2.2.1⟩)) hk (fun _ hk=>hk.2.1)
theorem Q_old (hu:d.Q e W base ok u xs) (hb:Below W.heap.size W w1):d.Q e w1 base (fun k=>ok k∧k<W.heap.size) u xs:=Q_mono (Q_below (Q_bound hu) hb) (fun _ h=>⟨h.1,h.2.2.1⟩)
theorem Q_told (h:d.Q e w1 base (fun k=>ok k∧k<N) u xs) (hbase:∀k,v.ownBlock=some k→N≤k):d.Q e w1 base (fun k=>(ok k∧some k≠v.ownBlock)∧k<N) u xs:=
 Q_mono h (fun k hk=>⟨⟨hk.1,fun e=>Nat.lt_irrefl _ (Nat.lt_of_lt_of_le hk.2 (hbase k e.symm))⟩,hk.2⟩)
end
end Kd
end Go.Proofs.YtdmlkjjlgkdnlaaGreatDoorW.PrintWords
namespace Go.Proofs.YtdmlkjjlgkdnlaaGreatDoorW.PrintWords
open Go.RowKit
namespace Kd
def V {α:Type} (d:Kd α) (_e:Nat) (W:World) (_base:Nat) (ok:Nat→Prop) (v:Value) (xs:List α):Prop:=∃A c,v= .slice A xs.length c∧xs.length≤c∧F d W ok A xs.length xs
section
variable {α β:Type} {d:Kd α} {e base base' n m c g N' lo hi:Nat} {ok ok' S:Nat→Prop} {w W w1:World} {A:Option Addr} {ad:Addr} {u v v1:Value} {xs:List α}
theorem V_nil (d:Kd α) (e:Nat) (W:World) (base:Nat) (ok:Nat→Prop):V d e W base ok (.slice none 0 0) []:=⟨none,0,rfl,Nat.le_refl _,F_nil d W ok⟩
end
end Kd
namespace Kd
theorem q_cap {w:World} {base:Nat} {e size n:Nat} {A:Option Addr} {c c':Nat} {xs:List Value} (h:QRow w base e size (.slice A n c') n xs) (h1:n≤c) (h2:c≤c'):QRow w base e size (.slice A n c) n xs:=by
 obtain⟨hr1,hr⟩:=h
 refine⟨hr1,?_⟩
 rcases hr with⟨h0,A',he,hA⟩|⟨g,off,cap,cur,he,hb,hh,hnc,hcm,hcs,ht⟩
 ·injection he with ha hb hc
  subst ha;subst h0;subst hc
  exact .inl ⟨rfl,A,by rw[Nat.le_zero.1 h2],hA⟩
 ·injection he with ha _ hc
  subst ha;subst hc
  exact .inr ⟨g,off,c,cur,rfl,hb,hh,h1,by omega,Nat.le_trans (Nat.mul_le_mul_right _ (by omega)) hcs,ht⟩
def Z {α:Type} (d:Kd α) (e:Nat) (w:World) (base:Nat) (ok:Nat→Prop) (v:Value) (xs:List α):Prop:=∃A n c c',v= .slice A n c∧n≤c∧c≤c'∧S d e w base ok (.slice A n c') xs
section
variable {α β:Type} {d:Kd α} {d':Kd β} {e e' g N:Nat} {w w1 W W2:World} {base b:Nat} {ok ok' oku:Nat→Prop} {T:Nat→Prop} {u v:Value} {xs:List α} {ys:List β}
theorem cap_own (A:Option Addr) (n c c':Nat):(Value.slice A n c').ownBlock =(Value.slice A n c).ownBlock :=by cases A <;> rfl
theorem Z_of_S (h:S d e w base ok v xs):Z d e w base ok v xs:=by
 obtain⟨A,c,rfl,hl,_⟩:=S_reads h
 exact⟨A,_,c,c,rfl,hl,Nat.le_refl _,h⟩
theorem Z_clip {A:Option Addr} {n c:Nat} (h:S d e w base ok (.slice A n c) xs):Z d e w base ok (.slice A n n) xs:=⟨A,n,n,c,rfl,Nat.le_refl _,(S_reads' h).2.1,h⟩
theorem Z_Q (h:Z d e w base ok v xs):d.Q e w base ok v xs:=by
 obtain⟨A,n,c,c',rfl,h1,h2,h⟩:=h
 have hn:=(S_reads' h).1
 subst hn
 obtain⟨h0,inner,ho,hr⟩:=Q_of_R (S_R h)
 exact⟨fun k hk=>h0 k (by rw[cap_own A _ c c'];exact hk),inner,q_cap ho h1 h2,by rw[cap_own A _ c c']at hr;exact hr⟩
theorem Z_nil (d:Kd α) (e:Nat) (w:World) (base:Nat) (ok:Nat→Prop):Z d e w base ok (.slice none 0 0) []:=Z_of_S (S_nil _ _ _ _ _)
theorem Z_map (h:Z d e w base ok v xs) (hS:∀{v:Value},S d e w base ok v xs→S d e w1 b ok' v xs):Z d e w1 b ok' v xs:=by
 obtain⟨A,n,c,c',rfl,h1,h2,h⟩:=h
 exact⟨A,n,c,c',rfl,h1,h2,hS h⟩
theorem Z_mono (h:Z d e w base ok v xs) (hok:∀k,ok k→ok' k):Z d e w base ok' v xs:=Z_map h (fun h=>S_mono h hok)
theorem Z_bound (h:Z d e w base ok v xs):Z d e w base (fun k=>ok k∧base≤k∧k<w.heap.size∧∃q,q∈e::d.E∧∃cells,w.heap[k]? =some (.cells cells q (0,0))) v xs:=Z_map h S_bound
theorem Z_lower {base':Nat} (h:Z d e w base ok v xs) (hb:base'≤base):Z d e w base' ok v xs:=Z_map h (fun h=>S_lower h hb)
theorem Z_below (h:Z d e w base ok v xs) (hb:Below w.heap.size w w1):Z d e w1 base ok v xs:=Z_map h (fun h=>S_below h hb)
theorem Z_alloc (h:Z d e w base ok v xs) (o:Obj):Z d e (w.alloc o) base ok v xs:=Z_map h (fun h=>S_alloc h o)
theorem Z_drew (h:Z d e w base ok v xs):Z d e w.drew base ok v xs:=Z_map h S_drew
theorem Z_drewN (h:Z d e w base ok v xs) (m:Nat):Z d e (w.drewN m) base ok v xs:=Z_map h (fun h=>S_drewN h m)
theorem Z_far (h:Z d e w base ok v xs) {p:Addr} (hok:∀k,ok k→k≠p.block) (x:Value):Z d e (w.setCell p x) base ok v xs:=Z_map h (fun h=>S_far h hok x)
theorem Z_types (h:Z d e w base ok v xs) {t:Nat} {cells:Array Value} (hb:w.heap[g]? =some (.cells cells t (0,0))) (ht:∀q,q∈e::d.E→q≠t):Z d e w base (fun k=>ok k∧k≠g) v xs:=Z_map h (fun h=>S_types h hb ht)
theorem Z_apart' (h:Z d e W base ok u xs) (hty:∀k,v.ownBlock=some k→∃cells,W.heap[k]? =some (.cells cells e' (0,0))) (ht:∀q,q∈e::d.E→q≠e'):Z d e W base (fun k=>ok k∧some k≠v.ownBlock) u xs:=Z_map h (fun h=>S_apart' h hty ht)
theorem Z_elder' (h:Z d e W base ok u xs) (hbase:∀k,v.ownBlock=some k→W.heap.size≤k) (hb:Below W.heap.size W w1):Z d e w1 base (fun k=>ok k∧some k≠v.ownBlock) u xs:=Z_map h (fun h=>S_elder' h hbase hb)
theorem Z_new' (h:Z d e w1 W.heap.size ok v xs) (hlt:∀k,u.ownBlock=some k→k<W.heap.size):Z d e w1 W.heap.size (fun k=>ok k∧some k≠u.ownBlock) v xs:=Z_map h (fun h=>S_new' h hlt)
theorem Z_old (h:Z d e W base ok u xs) (hb:Below W.heap.size W w1):Z d e w1 base (fun k=>ok k∧k<W.heap.size) u xs:=Z_map h (fun h=>S_old h hb)
theorem Z_told (h:Z d e w1 base (fun k=>ok k∧k<N) u xs) (hbase:∀k,v.ownBlock=some k→N≤k):Z d e w1 base (fun k=>(ok k∧some k≠v.ownBlock)∧k<N) u xs:=Z_map h (fun h=>S_told h hbase)
theorem Z_kept (h:Z d e W base ok v xs) (hk:Kept W W2 T) (hne:∀k,ok k→¬T k):Z d e W2 base ok v xs:=Z_map h (fun h=>S_kept h hk hne)
theorem Z_keptB (h:Z d e W base ok v xs) (hk:Kept W W2 T) (hne:∀k,ok k→¬T k):Z d e W2 base (fun k=>ok k∧(¬T k∧k<W.heap.size)) v xs:=Z_map h (fun h=>S_keptB h hk hne)
theorem Z_over' (h:Z d e W base ok u xs) (hty:∀k,v.ownBlock=some k→∃cells,W.heap[k]? =some (.cells cells e' (0,0))) (ht:∀q,q∈e::d.E→q≠e') (hg:W.grownBy w1 v.ownBlock):Z d e w1 base ok u xs:=Z_map h (fun h=>S_over' h hty ht hg)
theorem Z_after {v1:Value} (h:Z d e W base (fun k=>ok k∧some k≠v.ownBlock) u xs) (hg:W.grownBy w1 v.ownBlock) (hat:v1.ownBlock=v.ownBlock∨∃b,v1.ownBlock=some b∧W.heap.size≤b):Z d e w1 base (fun k=>ok k∧some k≠v1.ownBlock) u xs:=Z_map h (fun h=>S_after h hg hat)
theorem Z_typed (h:Z d e w base ok v xs):∀k,v.ownBlock=some k→∃cells,w.heap[k]? =some (.cells cells e (0,0)):=Q_typed (Z_Q h)
theorem Z_lt (h:Z d e w base ok v xs):∀k,v.ownBlock=some k→k<w.heap.size:=Q_lt (Z_Q h)
theorem Z_base (h:Z d e w base ok v xs):∀k,v.ownBlock=some k→base≤k:=Q_base (Z_Q h)
theorem Z_ne (h:Z d e w base ok v xs) {t:Nat} {cells:Array Value} (hb:w.heap[g]? =some (.cells cells t (0,0))) (ht:e≠t):some g≠v.ownBlock:=Q_ne (Z_Q h) hb ht
theorem Z_slice (h:Z d e w base ok v xs):∃A c,v= .slice A xs.length c∧xs.length≤c:=Q_slice (Z_Q h)
theorem Z_reads' {A:Option Addr} {n c:Nat} (h:Z d e w base ok (.slice A n c) xs):n=xs.length∧n≤c∧d.C w A xs.length xs:=Q_reads' (Z_Q h)
end
end Kd
namespace Kd
section
variable {α β:Type} {d:Kd α} {d':Kd β} {e e' g N:Nat} {w w1 W W2:World} {base b:Nat} {ok ok' oku:Nat→Prop} {T D:Nat→Prop} {u v:Value} {xs:List α} {ys:List β}
theorem low_alloc {w W:World} (h:Below 0 w W) (o:Obj):Below 0 w (W.alloc o):=h.alloc (Nat.zero_le _) o
theorem low_set {w W:World} {p:Addr} {v:Value} (h:Below 0 w W):Below 0 w (W.setCell p v):=h.setCell (Nat.zero_le _) _
theorem lo_box {w0 W:World} {g:Nat} (hg:g=W.heap.size) (h:Below 0 w0 W:=by repeat(first|(with_reducible first|exact Below.refl _ _|apply Kd.low_set|apply Kd.low_alloc|apply pw_below_drewN|apply below_drew1)|exact Below.refl _ _)):w0.heap.size≤g:=by rw[hg];exact h.size
theorem lo_blk {W0 W w1:World} {g:Nat} {o:Obj} (x_:Aside0 (W0.heap[g]? =some o)) (_hb:Below W.heap.size W w1) (h:Below 0 W0 W:=by repeat(first|(with_reducible first|exact Below.refl _ _|apply Kd.low_set|apply Kd.low_alloc|apply pw_below_drewN|apply below_drew1)|exact Below.refl _ _)):g<W.heap.size:=Nat.lt_of_lt_of_le (blk_lt x_.out) h.size
theorem lo_bb {W0 W:World} {g g':Nat} {o:Obj} (x_:Aside0 (W0.heap[g]? =some o)) (hg:g'=W.heap.size) (h:Below 0 W0 W:=by repeat(first|(with_reducible first|exact Below.refl _ _|apply Kd.low_set|apply Kd.low_alloc|apply pw_below_drewN|apply below_drew1)|exact Below.refl _ _)):g<g':=by rw[hg];exact Nat.lt_of_lt_of_le (blk_lt x_.out) h.size
theorem two_types {E E':List Nat} (h:∃q,q∈E∧∃cells,w.heap[g]? =some (.cells cells q (0,0))) (h':∃q,q∈E'∧∃cells,w.heap[g]? =some (.cells cells q (0,0))) (ht:∀q,q∈E→∀q',q'∈E'→q≠q'):False:=by
 obtain⟨q,hq,cells,hc⟩:=h
 obtain⟨q',hq',cells',hc'⟩:=h'
 rw[hc]at hc'
 injection hc' with hb
 injection hb with _ hb
 exact ht q hq q' hq' hb
theorem R_keptT (h:Kd.R d e W base ok v xs) (hk:Kept W W2 D) (hne:∀k,ok k→(∃q,q∈e::d.E∧∃cells,W.heap[k]? =some (.cells cells q (0,0)))→¬D k):Kd.R d e W2 base (fun k=>ok k∧(¬D k∧k<W.heap.size)) v xs:=R_mono (R_keptB (R_bound h) hk (fun k ho=>hne k ho.1 ho.2.2.2)) (fun _ hk=>⟨hk.1.1,hk.2⟩)
theorem box_free {E:List Nat} {t:Nat} {cs:Array Value} (hb:w.heap[g]? =some (.cells cs t (0,0))) (h:∃q,q∈E∧∃cells,w.heap[g]? =some (.cells cells q (0,0))) (ht:∀q,q∈E→q≠t):False:=by
 obtain⟨q,hq,cells,hc⟩:=h
 rw[hc]at hb
 injection hb with hb
 injection hb with _ hb
 exact ht q hq hb
def RA (T:Nat→Prop) {α:Type} (d:Kd α) (e:Nat) (w:World) (base:Nat) (ok:Nat→Prop) (v:Value) (xs:List α):Prop:=Kd.R d e w base (fun k=>ok k∧T k) v xs
theorem RA_mk (h:Kd.R d e w base (fun k=>ok k∧T k) v xs):RA T d e w base ok v xs:=h
theorem RA_in (h:Kd.R d e w base ok v xs) (hT:∀k,ok k→base≤k→k<w.heap.size→T k):RA T d e w base ok v xs:=R_mono (R_bound h) (fun k hk=>⟨hk.1,hT k hk.1 hk.2.1 hk.2.2.1⟩)
theorem RA_mono (h:RA T d e w base ok v xs) (hok:∀k,ok k→ok' k):RA T d e w base ok' v xs:=R_mono h (fun k hk=>⟨hok k hk.1,hk.2⟩)
theorem RA_lower {base':Nat} (h:RA T d e w base ok v xs) (hb:base'≤base):RA T d e w base' ok v xs:=R_lower h hb
theorem RA_below (h:RA T d e w base ok v xs) (hb:Below w.heap.size w w1):RA T d e w1 base ok v xs:=R_below h hb
theorem RA_alloc (h:RA T d e w base ok v xs) (o:Obj):RA T d e (w.alloc o) base ok v xs:=R_alloc h o
theorem RA_drew (h:RA T d e w base ok v xs):RA T d e w.drew base ok v xs:=R_drew h
theorem RA_drewN (h:RA T d e w base ok v xs) (m:Nat):RA T d e (w.drewN m) base ok v xs:=R_drewN h m
theorem RA_far (h:RA T d e w base ok v xs) {p:Addr} (hok:∀k,ok k→k≠p.block) (x:Value):RA T d e (w.setCell p x) base ok v xs:=R_far h (fun k hk=>hok k hk.1) x
theorem RA_types (h:RA T d e w base ok v xs) {t:Nat} {cells:Array Value} (hb:w.heap[g]? =some (.cells cells t (0,0))) (ht:∀q,q∈e::d.E→q≠t):RA T d e w base (fun k=>ok k∧k≠g) v xs:=R_mono (R_types h hb ht) (fun _ hk=>⟨⟨hk.1.1,hk.2⟩,hk.1.2⟩)
theorem RA_apart' (h:RA T d e w base ok v xs) (hty:∀k,u.ownBlock=some k→∃cells,w.heap[k]? =some (.cells cells e' (0,0))) (ht:∀q,q∈e::d.E→q≠e'):RA T d e w base (fun k=>ok k∧some k≠u.ownBlock) v xs:=R_mono (R_apart' h hty ht) (fun _ hk=>⟨⟨hk.1.1,hk.2⟩,hk.1.2⟩)
theorem RA_elder' (h:RA T d e w base ok v xs) (hbase:∀k,u.ownBlock=some k→w.heap.size≤k) (hb:Below w.heap.size w w1):RA T d e w1 base (fun k=>ok k∧some k≠u.ownBlock) v xs:=R_mono (R_elder' h hbase hb) (fun _ hk=>⟨⟨hk.1.1,hk.2⟩,hk.1.2⟩)
theorem RA_new' (h:RA T d e w W.heap.size ok v xs) (hlt:∀k,u.ownBlock=some k→k<W.heap.size):RA T d e w W.heap.size (fun k=>ok k∧some k≠u.ownBlock) v xs:=R_mono (R_new' h hlt) (fun _ hk=>⟨⟨hk.1.1,hk.2⟩,hk.1.2⟩)
theorem RA_keptB (h:RA T d e w base ok v xs) (hk:Kept w W2 D) (hne:∀k,ok k→T k→¬D k):RA T d e W2 base (fun k=>ok k∧(¬D k∧k<w.heap.size)) v xs:=R_mono (R_keptB h hk (fun k ho=>hne k ho.1 ho.2)) (fun _ hk=>⟨⟨hk.1.1,hk.2⟩,hk.1.2⟩)
theorem RA_typed (h:RA T d e w base ok v xs):∀k,v.ownBlock=some k→∃cells,w.heap[k]? =some (.cells cells e (0,0)):=R_typed h
theorem RA_lt (h:RA T d e w base ok v xs):∀k,v.ownBlock=some k→k<w.heap.size:=R_lt h
theorem RA_base (h:RA T d e w base ok v xs):∀k,v.ownBlock=some k→base≤k:=R_base h
theorem RA_ne (h:RA T d e w base ok v xs) {t:Nat} {cells:Array Value} (hb:w.heap[g]? =some (.cells cells t (0,0))) (ht:e≠t):some g≠v.ownBlock:=R_ne h hb ht
theorem RA_slice (h:RA T d e w base ok v xs):∃A c,v= .slice A xs.length c:=R_slice h
theorem RA_reads' {A:Option Addr} {n c:Nat} (h:RA T d e w base ok (.slice A n c) xs):n=xs.length∧n≤c∧d.C w A xs.length xs:=R_reads' h
def QA (T:Nat→Prop) {α:Type} (d:Kd α) (e:Nat) (w:World) (base:Nat) (ok:Nat→Prop) (v:Value) (xs:List α):Prop:=Kd.Q d e w base (fun k=>ok k∧T k) v xs
theorem QA_in (h:Kd.Q d e w base ok v xs) (hT:∀k,ok k→base≤k→k<w.heap.size→T k):QA T d e w base ok v xs:=Q_mono (Q_bound h) (fun k hk=>⟨hk.1,hT k hk.1 hk.2.1 hk.2.2.1⟩)
theorem QA_mono (h:QA T d e w base ok v xs) (hok:∀k,ok k→ok' k):QA T d e w base ok' v xs:=Q_mono h (fun k hk=>⟨hok k hk.1,hk.2⟩)
theorem QA_lower {base':Nat} (h:QA T d e w base ok v xs) (hb:base'≤base):QA T d e w base' ok v xs:=Q_lower h hb
theorem QA_below (h:QA T d e w base ok v xs) (hb:Below w.heap.size w w1):QA T d e w1 base ok v xs:=Q_below h hb
theorem QA_alloc (h:QA T d e w base ok v xs) (o:Obj):QA T d e (w.alloc o) base ok v xs:=Q_alloc h o
theorem QA_drew (h:QA T d e w base ok v xs):QA T d e w.drew base ok v xs:=Q_drew h
theorem QA_drewN (h:QA T d e w base ok v xs) (m:Nat):QA T d e (w.drewN m) base ok v xs:=Q_drewN h m
theorem QA_far (h:QA T d e w base ok v xs) {p:Addr} (hok:∀k,ok k→k≠p.block) (x:Value):QA T d e (w.setCell p x) base ok v xs:=Q_far h (fun k hk=>hok k hk.1) x
theorem QA_types (h:QA T d e w base ok v xs) {t:Nat} {cells:Array Value} (hb:w.heap[g]? =some (.cells cells t (0,0))) (ht:∀q,q∈e::d.E→q≠t):QA T d e w base (fun k=>ok k∧k≠g) v xs:=Q_mono (Q_types h hb ht) (fun _ hk=>⟨⟨hk.1.1,hk.2⟩,hk.1.2⟩)
theorem QA_apart' (h:QA T d e w base ok v xs) (hty:∀k,u.ownBlock=some k→∃cells,w.heap[k]? =some (.cells cells e' (0,0))) (ht:∀q,q∈e::d.E→q≠e'):QA T d e w base (fun k=>ok k∧some k≠u.ownBlock) v xs:=Q_mono (Q_apart' h hty ht) (fun _ hk=>⟨⟨hk.1.1,hk.2⟩,hk.1.2⟩)
theorem QA_new' (h:QA T d e w W.heap.size ok v xs) (hlt:∀k,u.ownBlock=some k→k<W.heap.size):QA T d e w W.heap.size (fun k=>ok k∧some k≠u.ownBlock) v xs:=Q_mono (Q_new' h hlt) (fun _ hk=>⟨⟨hk.1.1,hk.2⟩,hk.1.2⟩)
theorem QA_old (h:QA T d e w base ok v xs) (hb:Below w.heap.size w w1):QA T d e w1 base (fun k=>ok k∧k<w.heap.size) v xs:=Q_mono (Q_old h hb) (fun _ hk=>⟨⟨hk.1.1,hk.2⟩,hk.1.2⟩)
theorem QA_told (h:QA T d e w base (fun k=>ok k∧k<N) v xs) (hbase:∀k,u.ownBlock=some k→N≤k):QA T d e w base (fun k=>(ok k∧some k≠u.ownBlock)∧k<N) v xs:=Q_mono (Q_told (ok:=fun k=>ok k∧T k) (Q_mono h (fun _ hk=>⟨⟨hk.1.1,hk.2⟩,hk.1.2⟩)) hbase) (fun _ hk=>⟨⟨⟨hk.1.1.1,hk.1.2⟩,hk.2⟩,hk.1.1.2⟩)
theorem QA_keptB (h:QA T d e w base ok v xs) (hk:Kept w W2 D) (hne:∀k,ok k→T k→¬D k):QA T d e W2 base (fun k=>ok k∧(¬D k∧k<w.heap.size)) v xs:=Q_mono (Q_keptB h hk (fun k ho=>hne k ho.1 ho.2)) (fun _ hk=>⟨⟨hk.1.1,hk.2⟩,hk.1.2⟩)
theorem QA_lt (h:QA T d e w base ok v xs):∀k,v.ownBlock=some k→k<w.heap.size:=Q_lt h
theorem QA_base (h:QA T d e w base ok v xs):∀k,v.ownBlock=some k→base≤k:=Q_base h
theorem QA_slice (h:QA T d e w base ok v xs):∃A c,v= .slice A xs.length c∧xs.length≤c:=Q_slice h
theorem QA_reads' {A:Option Addr} {n c:Nat} (h:QA T d e w base ok (.slice A n c) xs):n=xs.length∧n≤c∧d.C w A xs.length xs:=Q_reads' h
def SA (T:Nat→Prop) {α:Type} (d:Kd α) (e:Nat) (w:World) (base:Nat) (ok:Nat→Prop) (v:Value) (xs:List α):Prop:=Kd.S d e w base (fun k=>ok k∧T k) v xs
theorem SA_in (h:Kd.S d e w base ok v xs) (hT:∀k,ok k→base≤k→k<w.heap.size→T k):SA T d e w base ok v xs:=S_mono (S_bound h) (fun k hk=>⟨hk.1,hT k hk.1 hk.2.1 hk.2.2.1⟩)
theorem SA_mono (h:SA T d e w base ok v xs) (hok:∀k,ok k→ok' k):SA T d e w base ok' v xs:=S_mono h (fun k hk=>⟨hok k hk.1,hk.2⟩)
theorem SA_lower {base':Nat} (h:SA T d e w base ok v xs) (hb:base'≤base):SA T d e w base' ok v xs:=S_lower h hb
theorem SA_below (h:SA T d e w base ok v xs) (hb:Below w.heap.size w w1):SA T d e w1 base ok v xs:=S_below h hb
theorem SA_alloc (h:SA T d e w base ok v xs) (o:Obj):SA T d e (w.alloc o) base ok v xs:=S_alloc h o
theorem SA_drew (h:SA T d e w base ok v xs):SA T d e w.drew base ok v xs:=S_drew h
theorem SA_drewN (h:SA T d e w base ok v xs) (m:Nat):SA T d e (w.drewN m) base ok v xs:=S_drewN h m
theorem SA_apart' (h:SA T d e w base ok v xs) (hty:∀k,u.ownBlock=some k→∃cells,w.heap[k]? =some (.cells cells e' (0,0))) (ht:∀q,q∈e::d.E→q≠e'):SA T d e w base (fun k=>ok k∧some k≠u.ownBlock) v xs:=S_mono (S_apart' h hty ht) (fun _ hk=>⟨⟨hk.1.1,hk.2⟩,hk.1.2⟩)
theorem SA_new' (h:SA T d e w W.heap.size ok v xs) (hlt:∀k,u.ownBlock=some k→k<W.heap.size):SA T d e w W.heap.size (fun k=>ok k∧some k≠u.ownBlock) v xs:=S_mono (S_new' h hlt) (fun _ hk=>⟨⟨hk.1.1,hk.2⟩,hk.1.2⟩)
theorem SA_keptB (h:SA T d e w base ok v xs) (hk:Kept w W2 D) (hne:∀k,ok k→T k→¬D k):SA T d e W2 base (fun k=>ok k∧(¬D k∧k<w.heap.size)) v xs:=S_mono (S_keptB h hk (fun k ho=>hne k ho.1 ho.2)) (fun _ hk=>⟨⟨hk.1.1,hk.2⟩,hk.1.2⟩)
theorem SA_base (h:SA T d e w base ok v xs):∀k,v.ownBlock=some k→base≤k:=S_base h
theorem SA_slice (h:SA T d e w base ok v xs):∃A c,v= .slice A xs.length c:=S_slice h
theorem SA_reads' {A:Option Addr} {n c:Nat} (h:SA T d e w base ok (.slice A n c) xs):n=xs.length∧n≤c∧d.C w A xs.length xs:=S_reads' h
def ZA (T:Nat→Prop) {α:Type} (d:Kd α) (e:Nat) (w:World) (base:Nat) (ok:Nat→Prop) (v:Value) (xs:List α):Prop:=Kd.Z d e w base (fun k=>ok k∧T k) v xs
theorem ZA_mk (h:Kd.Z d e w base (fun k=>ok k∧T k) v xs):ZA T d e w base ok v xs:=h
theorem ZA_in (h:Kd.Z d e w base ok v xs) (hT:∀k,ok k→base≤k→k<w.heap.size→T k):ZA T d e w base ok v xs:=Z_mono (Z_bound h) (fun k hk=>⟨hk.1,hT k hk.1 hk.2.1 hk.2.2.1⟩)
theorem ZA_mono (h:ZA T d e w base ok v xs) (hok:∀k,ok k→ok' k):ZA T d e w base ok' v xs:=Z_mono h (fun k hk=>⟨hok k hk.1,hk.2⟩)
theorem ZA_lower {base':Nat} (h:ZA T d e w base ok v xs) (hb:base'≤base):ZA T d e w base' ok v xs:=Z_lower h hb
theorem ZA_below (h:ZA T d e w base ok v xs) (hb:Below w.heap.size w w1):ZA T d e w1 base ok v xs:=Z_below h hb
theorem ZA_alloc (h:ZA T d e w base ok v xs) (o:Obj):ZA T d e (w.alloc o) base ok v xs:=Z_alloc h o
theorem ZA_drew (h:ZA T d e w base ok v xs):ZA T d e w.drew base ok v xs:=Z_drew h
theorem ZA_drewN (h:ZA T d e w base ok v xs) (m:Nat):ZA T d e (w.drewN m) base ok v xs:=Z_drewN h m
theorem ZA_far (h:ZA T d e w base ok v xs) {p:Addr} (hok:∀k,ok k→k≠p.block) (x:Value):ZA T d e (w.setCell p x) base ok v xs:=Z_far h (fun k hk=>hok k hk.1) x
theorem ZA_types (h:ZA T d e w base ok v xs) {t:Nat} {cells:Array Value} (hb:w.heap[g]? =some (.cells cells t (0,0))) (ht:∀q,q∈e::d.E→q≠t):ZA T d e w base (fun k=>ok k∧k≠g) v xs:=Z_mono (Z_types h hb ht) (fun _ hk=>⟨⟨hk.1.1,hk.2⟩,hk.1.2⟩)
theorem ZA_apart' (h:ZA T d e w base ok v xs) (hty:∀k,u.ownBlock=some k→∃cells,w.heap[k]? =some (.cells cells e' (0,0))) (ht:∀q,q∈e::d.E→q≠e'):ZA T d e w base (fun k=>ok k∧some k≠u.ownBlock) v xs:=Z_mono (Z_apart' h hty ht) (fun _ hk=>⟨⟨hk.1.1,hk.2⟩,hk.1.2⟩)
theorem ZA_new' (h:ZA T d e w W.heap.size ok v xs) (hlt:∀k,u.ownBlock=some k→k<W.heap.size):ZA T d e w W.heap.size (fun k=>ok k∧some k≠u.ownBlock) v xs:=Z_mono (Z_new' h hlt) (fun _ hk=>⟨⟨hk.1.1,hk.2⟩,hk.1.2⟩)
theorem ZA_old (h:ZA T d e w base ok v xs) (hb:Below w.heap.size w w1):ZA T d e w1 base (fun k=>ok k∧k<w.heap.size) v xs:=Z_mono (Z_old h hb) (fun _ hk=>⟨⟨hk.1.1,hk.2⟩,hk.1.2⟩)
theorem ZA_told (h:ZA T d e w base (fun k=>ok k∧k<N) v xs) (hbase:∀k,u.ownBlock=some k→N≤k):ZA T d e w base (fun k=>(ok k∧some k≠u.ownBlock)∧k<N) v xs:=Z_mono (Z_told (ok:=fun k=>ok k∧T k) (Z_mono h (fun _ hk=>⟨⟨hk.1.1,hk.2⟩,hk.1.2⟩)) hbase) (fun _ hk=>⟨⟨⟨hk.1.1.1,hk.1.2⟩,hk.2⟩,hk.1.1.2⟩)
theorem ZA_keptB (h:ZA T d e w base ok v xs) (hk:Kept w W2 D) (hne:∀k,ok k→T k→¬D k):ZA T d e W2 base (fun k=>ok k∧(¬D k∧k<w.heap.size)) v xs:=Z_mono (Z_keptB h hk (fun k ho=>hne k ho.1 ho.2)) (fun _ hk=>⟨⟨hk.1.1,hk.2⟩,hk.1.2⟩)
theorem ZA_typed (h:ZA T d e w base ok v xs):∀k,v.ownBlock=some k→∃cells,w.heap[k]? =some (.cells cells e (0,0)):=Z_typed h
theorem ZA_lt (h:ZA T d e w base ok v xs):∀k,v.ownBlock=some k→k<w.heap.size:=Z_lt h
theorem ZA_base (h:ZA T d e w base ok v xs):∀k,v.ownBlock=some k→base≤k:=Z_base h
theorem ZA_slice (h:ZA T d e w base ok v xs):∃A c,v= .slice A xs.length c∧xs.length≤c:=Z_slice h
theorem ZA_reads' {A:Option Addr} {n c:Nat} (h:ZA T d e w base ok (.slice A n c) xs):n=xs.length∧n≤c∧d.C w A xs.length xs:=Z_reads' h
theorem ZA_Zb (h:ZA T d e w base ok v xs):Z d e w base (fun k=>(ok k∧T k)∧base≤k∧k<w.heap.size∧∃q,q∈e::d.E∧∃cells,w.heap[k]? =some (.cells cells q (0,0))) v xs:=Z_bound h
end
end Kd
end Go.Proofs.YtdmlkjjlgkdnlaaGreatDoorW.PrintWords
