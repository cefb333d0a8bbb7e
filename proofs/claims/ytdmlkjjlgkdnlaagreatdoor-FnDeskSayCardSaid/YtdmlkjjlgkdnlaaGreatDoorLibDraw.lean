/- What is drawn from bytes: remainders lie below their divisor; no reading lies outside of the bytes.
-/
import Derived.Test.YtdmlkjjlgkdnlaaGreatDoorLib
import Derived.Laws.BitsLemmas
namespace Go.Proofs.YtdmlkjjlgkdnlaaGreatDoor.Lib
open Go.RowKit Go.Proofs.YtdmlkjjlgkdnlaaGreatDoorW.PrintWords
set_option linter.unusedVariables false
set_option linter.unusedSimpArgs false
def Bytes (bs:List Int):Prop:=∀x∈bs,0<=x/\x<=255
theorem Bytes.of {bs:List Int} (h:∀x∈bs,(Lit.int .u8 x).wf =true):Bytes bs:=by
 intro x hx
 have h:=h x hx
 simp only[Lit.wf,IntKind.min,IntKind.max,IntKind.signed,IntKind.bits,Bool.and_eq_true,decide_eq_true_eq,if_true]at h
 simp at h
 omega
theorem Bytes.take {bs:List Int} (h:Bytes bs) (n:Nat):Bytes (bs.take n):=fun x hx=>h x (List.mem_of_mem_take hx)
theorem Bytes.at_ {bs:List Int} (h:Bytes bs) (i:Int):0<=rd bs i/\rd bs i<=255:=by
 unfold rd
 rw[List.getD_eq_getElem?_getD]
 by_cases hi:i.toNat<bs.length
 .rw[List.getElem?_eq_getElem hi]
  exact h _ (List.getElem_mem hi)
 .rw[List.getElem?_eq_none om_]
  exact⟨by decide,by decide⟩
theorem xor_pos {a b:Int} (ha:0<=a) (ha2:a<9223372036854775808) (hb:0<=b) (hb2:b<9223372036854775808):0<=Go.bits .xor .i64 a b:=by
 obtain⟨m,rfl⟩:∃m:Nat,a=m:=⟨a.toNat,by omega⟩
 obtain⟨n,rfl⟩:∃n:Nat,b=n:=⟨b.toNat,by omega⟩
 have hx:m ^^^ n<2 ^ 63:=Nat.xor_lt_two_pow om_ om_
 have h1:(BitVec.ofInt 64 (m:Int)).toNat =m:=by
  rw[BitVec.ofInt_natCast,BitVec.toNat_ofNat];exact Nat.mod_eq_of_lt om_
 have h2:(BitVec.ofInt 64 (n:Int)).toNat =n:=by
  rw[BitVec.ofInt_natCast,BitVec.toNat_ofNat];exact Nat.mod_eq_of_lt om_
 have e:Go.bits .xor .i64 (m:Int) (n:Int)=((m ^^^ n:Nat):Int):=by
  show IntKind.i64.wrap ((BitVec.ofInt 64 (m:Int) ^^^ BitVec.ofInt 64 (n:Int)).toNat :Int)=_
  rw[BitVec.toNat_xor,h1,h2,IntKind.wrap_i64]
  generalize m ^^^ n=z at*
  omega
 rw[e]
 omega
theorem tmod_range {x n:Int} (hx:0<=x) (hn:1<=n):0<=Int.tmod x n/\Int.tmod x n<n:=by
 rw[tmod_pos hx]
 exact⟨Int.emod_nonneg _ om_,Int.emod_lt_of_pos _ om_⟩
theorem tdiv_range {x n:Int} (hx:0<=x) (hn:1<=n):0<=Int.tdiv x n/\Int.tdiv x n<=x:=by
 rw[tdiv_pos hx]
 exact⟨Int.ediv_nonneg hx om_,Int.ediv_le_self _ hx⟩
end Go.Proofs.YtdmlkjjlgkdnlaaGreatDoor.Lib
