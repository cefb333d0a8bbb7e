/- Plain lemmas that the laws of this seat share: sums that do not wrap, remainders, and what is said of functions with rounds. No program in sight.
-/
import Derived.RowKit
import Derived.Test.YtdmlkjjlgkdnlaaGreatDoorWWords
import Derived.Test.YtdmlkjjlgkdnlaaGreatDoorWSized
namespace Go.Proofs.YtdmlkjjlgkdnlaaGreatDoor.PrintWords
abbrev sized_ints:= @Go.Proofs.YtdmlkjjlgkdnlaaGreatDoorW.PrintWords.sized_ints
end Go.Proofs.YtdmlkjjlgkdnlaaGreatDoor.PrintWords
namespace Go.Proofs.YtdmlkjjlgkdnlaaGreatDoor.Lib
open Go.RowKit Go.Proofs.YtdmlkjjlgkdnlaaGreatDoorW.PrintWords
set_option linter.unusedVariables false
set_option linter.unusedSimpArgs false
theorem w64 {n:Int} (h: -9223372036854775808<=n) (h':n<=9223372036854775807):wrap64 n=n:=by unfold wrap64;omega
theorem tmod_pos {a b:Int} (h:0<=a):Int.tmod a b=a%b:=Int.tmod_eq_emod_of_nonneg h
theorem tdiv_pos {a b:Int} (h:0<=a):Int.tdiv a b=a / b:=Int.tdiv_eq_ediv_of_nonneg h
theorem Hn (a b:Nat):Int.tmod (a:Int) (b:Int)=((a%b:Nat):Int):=by rw[tmod_pos (by omega)];rfl
theorem tdiv_nat (a b:Nat):Int.tdiv (a:Int) (b:Int)=((a / b:Nat):Int):=by rw[tdiv_pos (by omega)];rfl
theorem rd_p0 (a b:Int):rd [a,b] 0=a:=rfl
theorem rd_p1 (a b:Int):rd [a,b] 1=b:=rfl
theorem len_p (a b:Int):(([a,b]:List Int).length :Int)=2:=rfl
theorem drop_at {α:Type} {l:List α} {i:Nat} {x:α} {r:List α} (h:l.drop i=x::r):i<l.length/\l[i]? =some x/\l.drop (i+1)=r:=by
 refine⟨?_,?_,?_⟩
 .refine Nat.lt_of_not_le (fun hle=>?_)
  rw[List.drop_eq_nil_of_le hle]at h
  cases h
 .have:=congrArg List.head? h
  rwa [List.head?_drop]at this
 .have:=congrArg List.tail h
  rwa [List.tail_drop]at this
theorem Ev.same {α:Type} {g:Nat->Option α} {r q:α} (h:Ev g r) (k:Ev g q):r=q:=by
 obtain⟨K,h⟩:=h
 obtain⟨K',k⟩:=k
 have h1:=h (max K K') (by omega)
 have h2:=k (max K K') (by omega)
 rw[h1]at h2
 exact Option.some.inj h2
theorem Ev.const {α:Type} {o:Option α} {r:α} (h:o=some r):Ev (fun _=>o) r:=⟨0,fun _ _=>h⟩
theorem Ev.bindc {α β:Type} {o:Option α} {f:Nat->α->Option β} {a:α} {r:β} (h:o=some a) (k:Ev (fun n=>f n a) r):Ev (fun n=>o.bind (f n)) r:=
 Ev.bind (Ev.const h) k
theorem Ev.ite_pos {α:Type} {c:Prop} [Decidable c] {g f:Nat->Option α} {r:α} (h:c) (k:Ev g r):Ev (fun n=>if c then g n else f n) r:=
 Ev.congr (fun _=>if_pos h) k
theorem Ev.ite_neg {α:Type} {c:Prop} [Decidable c] {g f:Nat->Option α} {r:α} (h:¬c) (k:Ev f r):Ev (fun n=>if c then g n else f n) r:=
 Ev.congr (fun _=>if_neg h) k
theorem om_ {p:Prop} (h:p:=by omega):p:=h
theorem dc_ {p:Prop} (h:p:=by decide):p:=h
theorem Ep {α:Type} {c:Prop} [Decidable c] {g f:Nat->Option α} {r:α} (h:c) (k:Ev g r):Ev (fun n=>if c then g n else f n) r:=Ev.ite_pos h k
theorem En {α:Type} {c:Prop} [Decidable c] {g f:Nat->Option α} {r:α} (h:¬c) (k:Ev f r):Ev (fun n=>if c then g n else f n) r:=Ev.ite_neg h k
theorem Ec {α β:Type} {o:Option α} {f:Nat->α->Option β} {a:α} {r:β} (h:o=some a) (k:Ev (fun n=>f n a) r):Ev (fun n=>o.bind (f n)) r:=Ev.bindc h k
theorem Eb {α β:Type} {g:Nat->Option α} {f:Nat->α->Option β} {a:α} {r:β} (h:Ev g a) (k:Ev (fun n=>f n a) r):Ev (fun n=>(g n).bind (f n)) r:=Ev.bind h k
theorem Es {α:Type} {g f:Nat->Option α} {r:α} (h:∀k,g (k+1)=f k) (k:Ev f r):Ev g r:=Ev.step h k
end Go.Proofs.YtdmlkjjlgkdnlaaGreatDoor.Lib
