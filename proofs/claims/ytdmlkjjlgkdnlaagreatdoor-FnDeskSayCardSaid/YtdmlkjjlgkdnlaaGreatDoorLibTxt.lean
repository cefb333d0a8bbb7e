/- Plain lemmas on the texts of deeds: numerals, and what the text of a deed is. No program in sight.
-/
import Derived.RowKit
import Derived.Lib.ItoaNum
import Derived.Test.YtdmlkjjlgkdnlaaGreatDoorWWords
import Derived.Test.YtdmlkjjlgkdnlaaGreatDoorLib
namespace Go.Proofs.YtdmlkjjlgkdnlaaGreatDoor.Lib
open Go.RowKit Go.Proofs.YtdmlkjjlgkdnlaaGreatDoorW.PrintWords
set_option linter.unusedVariables false
set_option linter.unusedSimpArgs false
def digB (n:Int):ByteArray:=⟨(Go.Lib.itoa n).toArray⟩
theorem digB_nat (n:Nat):digB (n:Int)=⟨(Go.Lib.decDigits n).toArray⟩:=by
 unfold digB Go.Lib.itoa
 rw[if_neg om_]
 simp
theorem nDigits_le (u:Nat):Go.Lib.nDigits u<=u+1:=by
 induction u using Nat.strongRecOn with
 |_ u ih=>
  by_cases h:u<10
  .rw[Go.Lib.nDigits_small h];omega
  .rw[Go.Lib.nDigits_big h]
   have:=ih (u / 10) om_
   omega
theorem Jo (n:Nat) (h:n<=100000):(digB (n:Int)).size <=100001:=by
 rw[digB_nat]
 show(Go.Lib.decDigits n).toArray.size <=100001
 rw[List.size_toArray,Go.Lib.decDigits_length]
 have:=nDigits_le n
 omega
def tSet:ByteArray:=⟨#[115,101,116,32]⟩
def tSp:ByteArray:=⟨#[32]⟩
def tTimes:ByteArray:=⟨#[116,105,109,101,115,32]⟩
def tUnit:ByteArray:=⟨#[117,110,105,116,97,114,121,32]⟩
def tInv:ByteArray:=⟨#[105,110,118,101,114,115,101]⟩
def tBack:ByteArray:=⟨#[98,97,99,107]⟩
def tNone:ByteArray:=⟨#[]⟩
def Fk (a b c:Int):ByteArray:=
 if a=3/\0<=b/\b<=99/\0<=c/\c<=9999 then((tSet++digB b)++tSp)++digB c
 else if ¬(c=0/\0<=b/\b<=9)then tNone
 else if a=0 then tTimes++digB b
 else if a=1 then tUnit++digB b
 else if b=0/\a=2 then tInv
 else if b=0/\a=4 then tBack
 else tNone
theorem dText_size (a b c:Int):(Fk a b c).size <=300000:=by
 unfold Fk
 split
 .rename_i h
  obtain⟨n,rfl⟩:∃n:Nat,b=n:=⟨b.toNat,by omega⟩
  obtain⟨m,rfl⟩:∃m:Nat,c=m:=⟨c.toNat,by omega⟩
  have s1:=Jo n om_
  have s2:=Jo m om_
  rw[ByteArray.size_append,ByteArray.size_append,ByteArray.size_append,show tSet.size=4 from rfl,show tSp.size=1 from rfl]
  omega
 .split
  .show(0:Nat)<=_;omega
  .rename_i h
   have h2:=Decidable.not_not.1 h
   obtain⟨n,rfl⟩:∃n:Nat,b=n:=⟨b.toNat,by omega⟩
   have s1:=Jo n om_
   repeat' split
   all_goals first
    |(rw[ByteArray.size_append,show tTimes.size=6 from rfl];omega)
    |(rw[ByteArray.size_append,show tUnit.size=8 from rfl];omega)
    |(show(7:Nat)<=_;omega)
    |(show(4:Nat)<=_;omega)
    |(show(0:Nat)<=_;omega)
theorem strOf_one (n:Nat):strOfNums [((48+n:Nat):Int)%256]=⟨[UInt8.ofNat (48+n)].toArray⟩:=by
 unfold strOfNums
 simp only[List.map_cons,List.map_nil]
 congr 3
 apply UInt8.toNat.inj
 simp
 omega
theorem bytes_append (x y:List UInt8):(⟨x.toArray⟩:ByteArray)++(⟨y.toArray⟩:ByteArray)=⟨(x++y).toArray⟩:=by
 apply ByteArray.ext
 simp
end Go.Proofs.YtdmlkjjlgkdnlaaGreatDoor.Lib
