/- What a number leaves divided by 4, as a sign; its sum over divisors.
-/
import Derived.Test.YtdmlkjjlgkdnlaaGreatDoorLibDiv
namespace Go.Proofs.YtdmlkjjlgkdnlaaGreatDoor.Lib
open Go.RowKit Go.Proofs.YtdmlkjjlgkdnlaaGreatDoorW.PrintWords
set_option linter.unusedVariables false
set_option linter.unusedSimpArgs false
def lsg (a:Int):Int:=if a%4=1 then 1 else if a%4=3 then-1 else 0
theorem lsg_rng (a:Int): -1<=lsg a/\lsg a<=1:=by
 unfold lsg
 split
 .omega
 .split <;> omega
def bySum (l:List Nat):Int:=(l.map fun(d:Nat)=>lsg (d:Int)).sum
def byD (n:Nat):Int:=4*bySum (dv n)
theorem bySum_cons (x:Nat) (l:List Nat):bySum (x::l)=lsg (x:Int)+bySum l:=by simp[bySum]
theorem intsAt {l:List Nat} {i:Nat} {x:Nat} (h:l[i]? =some x):rd (ints l) (i:Int)=(x:Int):=by
 rw[rd_ints,List.getD_eq_getElem?_getD,h];rfl
theorem dv_len {n:Nat} (h1:1<=n) (h2:n<=10000):(dv n).length <=10000:=by
 rw[dv_eq h1 h2]
 have:=dvF_length n 1 n
 unfold dvs
 omega
end Go.Proofs.YtdmlkjjlgkdnlaaGreatDoor.Lib
