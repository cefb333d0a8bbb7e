/- Wherever a journal is cut, a desk of before is found: of every drawn text and desk the program and the reference read the same; of any beginning of the text the first ones of these deeds are read, and no others; their text is what was read; and said line by line they lead to the desk to which the run leads.
-/
import Derived.Test.YtdmlkjjlgkdnlaaGreatDoorPFnReadJournalx33
import Derived.Test.YtdmlkjjlgkdnlaaGreatDoorLib
import Derived.Test.YtdmlkjjlgkdnlaaGreatDoorLibSplit
import Derived.Test.YtdmlkjjlgkdnlaaGreatDoorLibTxt
import Derived.Test.YtdmlkjjlgkdnlaaGreatDoorLibDraw
import Derived.Test.YtdmlkjjlgkdnlaaGreatDoorLibRd
import Derived.Test.YtdmlkjjlgkdnlaaGreatDoorLibRow
import Derived.Test.YtdmlkjjlgkdnlaaGreatDoorLibLen
namespace Go.Proofs.YtdmlkjjlgkdnlaaGreatDoor.Pure
open Go.RowKit Go.Proofs.YtdmlkjjlgkdnlaaGreatDoor.PFnReadJournal Go.Proofs.YtdmlkjjlgkdnlaaGreatDoorW.PrintWords Go.Proofs.YtdmlkjjlgkdnlaaGreatDoorW.PrintLast Go.Proofs.YtdmlkjjlgkdnlaaGreatDoorW.PrintMore Go.Proofs.YtdmlkjjlgkdnlaaGreatDoor.Lib
set_option linter.unusedVariables false
set_option linter.unusedSimpArgs false
theorem bw_toList (l:List UInt8):(bw l).toList =l:=by rw[ByteArray.toList_eq];rfl
def jTxt:List S55→ByteArray→ByteArray
 |[],out=>out
 |d::r,out=>if(dText d.f0 d.f1 d.f2).toList =([]:List UInt8)then tNone else jTxt r ((out++dText d.f0 d.f1 d.f2)++⟨#[10]⟩)
theorem rd_at {l:List S55} {i:Nat} {d:S55} (h:l[i]? =some d):rd_T55 l (i:Int)=d:=by
 unfold rd_T55
 simp[List.getD,h]
theorem itoa_eq (n:Int) (h0:0≤n) (h1:n≤100000):strconv_Itoa.f n=some (digB n):=by
 unfold strconv_Itoa.f;rw[if_pos om_,if_pos om_];rfl
theorem impl_j1 (b:Bool) (a x y:Int) (hb:b=decide (¬(y=0∧0≤x∧x≤9))) (h3:¬(a=3∧0≤x∧x≤99∧0≤y∧y≤9999)):Ev (fun k=>impl_DeedText.j1 k b a x y) (dText a x y):=by
 cases b with
 |true=>
  have hb:=of_decide_eq_true hb.symm
  refine Es (f:=fun _=>some (dText a x y)) (fun k=>?_) (Ev.now _)
  simp only[impl_DeedText.j1]
  unfold dText
  rw[if_pos trivial,if_neg h3,if_pos hb];rfl
 |false=>
  have hb:y=0∧0≤x∧x≤9:=Decidable.not_not.1 (of_decide_eq_false hb.symm)
  obtain⟨rfl,h1,h2⟩:=hb
  obtain⟨n,rfl⟩:∃n:Nat,x=n:=⟨x.toNat,by omega⟩
  have s1:=digB_size n om_
  have e:dText a (n:Int) 0=(if a=0 then tTimes++digB (n:Int)else if a=1 then tUnit++digB (n:Int)else if(n:Int)=0∧a=2 then tInv else if(n:Int)=0∧a=4 then tBack else tNone):=by
   unfold dText;rw[if_neg h3,if_neg om_]
  rw[e]
  refine Es (f:=fun _=>some (if a=0 then tTimes++digB (n:Int)else if a=1 then tUnit++digB (n:Int)else if(n:Int)=0∧a=2 then tInv else if(n:Int)=0∧a=4 then tBack else tNone)) (fun k=>?_) (Ev.now _)
  simp only[impl_DeedText.j1]
  rw[if_neg (by simp),itoa_eq _ om_ om_]
  simp only[Option.bind_some]
  by_cases c0:a=0
  ·rw[if_pos c0,if_pos c0,if_pos om_];rfl
  ·rw[if_neg c0,if_neg c0]
   by_cases c1:a=1
   ·rw[if_pos c1,if_pos c1,if_pos om_];rfl
   ·rw[if_neg c1,if_neg c1]
    by_cases cx:(n:Int)=0
    ·simp only[cx,if_true,true_and]
     by_cases c2:a=2
     ·simp only[if_pos c2];rfl
     ·simp only[if_neg c2]
      by_cases c4:a=4
      ·simp only[if_pos c4];rfl
      ·simp only[if_neg c4];rfl
    ·simp only[cx,if_false,false_and];rfl
theorem impl_j0f (a x y:Int) (h3:¬(a=3∧0≤x∧x≤99∧0≤y∧y≤9999)):Ev (fun k=>impl_DeedText.j0 k false a x y) (dText a x y):=by
 refine Es (f:=fun k=>impl_DeedText.j1 k (decide (¬(y=0∧0≤x∧x≤9))) a x y) (fun k=>?_) (impl_j1 _ a x y rfl h3)
 simp only[impl_DeedText.j0]
 rw[if_neg (by simp)]
 by_cases hy:y=0
 ·rw[if_pos hy]
  by_cases hx:x<0
  ·rw[if_pos hx];congr 1
   exact(decide_eq_true (show ¬(y=0∧0≤x∧x≤9)from fun z=>by omega)).symm
  ·rw[if_neg hx];congr 1
   by_cases h9:x>9
   ·rw[decide_eq_true h9];exact(decide_eq_true (show ¬(y=0∧0≤x∧x≤9)from fun z=>by omega)).symm
   ·rw[decide_eq_false h9];exact(decide_eq_false (show ¬¬(y=0∧0≤x∧x≤9)from fun z=>z ⟨hy,by omega,by omega⟩)).symm
 ·rw[if_neg hy];congr 1
  exact(decide_eq_true (show ¬(y=0∧0≤x∧x≤9)from fun z=>hy z.1)).symm
theorem impl_deedText (a x y:Int):Ev (fun k=>impl_DeedText.f k a x y) (dText a x y):=by
 unfold impl_DeedText.f
 by_cases h3:a=3
 ·simp only[if_pos h3]
  by_cases hx:x≥0
  ·simp only[if_pos hx]
   by_cases hx2:x≤99
   ·simp only[if_pos hx2]
    by_cases hy:y≥0
    ·simp only[if_pos hy]
     by_cases hy2:y≤9999
     ·simp only[decide_eq_true hy2]
      obtain⟨n,rfl⟩:∃n:Nat,x=n:=⟨x.toNat,by omega⟩
      obtain⟨m,rfl⟩:∃m:Nat,y=m:=⟨y.toNat,by omega⟩
      have s1:=digB_size n om_
      have s2:=digB_size m om_
      have e:dText a (n:Int) (m:Int)=((tSet++digB (n:Int))++tSp)++digB (m:Int):=by unfold dText;rw[if_pos ⟨h3,hx,hx2,hy,hy2⟩]
      rw[e]
      refine Es (f:=fun _=>some _) (fun k=>?_) (Ev.now _)
      simp only[impl_DeedText.j0]
      rw[if_pos trivial,itoa_eq _ om_ om_,Option.bind_some,if_pos om_,if_pos,itoa_eq _ om_ om_,Option.bind_some,if_pos]
      ·rfl
      ·show((tSet++digB (n:Int))++tSp).size +_≤_
       rw[ByteArray.size_append,ByteArray.size_append,show tSet.size=4 from rfl,show tSp.size=1 from rfl];omega
      ·show(tSet++digB (n:Int)).size +_≤_
       rw[ByteArray.size_append,show tSet.size=4 from rfl];omega
     ·simp only[decide_eq_false hy2]
      exact impl_j0f a x y (fun z=>hy2 z.2.2.2.2)
    ·simp only[if_neg hy];exact impl_j0f a x y (fun z=>hy z.2.2.2.1)
   ·simp only[if_neg hx2];exact impl_j0f a x y (fun z=>hx2 z.2.2.1)
  ·simp only[if_neg hx];exact impl_j0f a x y (fun z=>hx z.2.1)
 ·simp only[if_neg h3];exact impl_j0f a x y (fun z=>h3 z.1)
theorem impl_jL (l:List S55) (hl:l.length≤100000000):∀(r:List S55) (i:Nat) (out:ByteArray),l.drop i=r→out.size≤i*300001→Ev (fun k=>impl_JournalText.l0 k out l (l.length:Int) (i:Int)) (jTxt r out):=by
 intro r
 induction r with
 |nil=>
  intro i out h _
  have:l.length≤i:=List.drop_eq_nil_iff.1 h
  refine Es (f:=fun _=>some out) (fun k=>?_) (Ev.now _)
  simp only[impl_JournalText.l0]
  rw[if_neg om_]
 |cons d r ih=>
  intro i out h hs
  obtain⟨h1,h2,h3⟩:=drop_at h
  have hd:=dText_size d.f0 d.f1 d.f2
  have hnl:(⟨#[10]⟩:ByteArray).size =1:=rfl
  by_cases ht:(dText d.f0 d.f1 d.f2).toList =([]:List UInt8)
  ·have e:jTxt (d::r) out=tNone:=by unfold jTxt;rw[if_pos ht]
   rw[e]
   refine Es (f:=fun k=>(impl_DeedText.f k d.f0 d.f1 d.f2).bind fun t=>if t.toList=([]:List UInt8)then some tNone else(if t.size+1≤9223372036854775807 then(if out.size+(t++(⟨#[10]⟩:ByteArray)).size ≤9223372036854775807 then(impl_JournalText.l0 k (out++(t++(⟨#[10]⟩:ByteArray))) l (l.length:Int) (wrap64 ((i:Int)+1)))else(none))else(none))) (fun k=>?_) (Eb (impl_deedText d.f0 d.f1 d.f2) (Ep ht (Ev.now _)))
   simp only[impl_JournalText.l0]
   rw[if_pos om_,if_pos om_,if_pos om_,rd_at h2]
   rfl
  ·have e:jTxt (d::r) out=jTxt r (out++(dText d.f0 d.f1 d.f2++⟨#[10]⟩)):=by rw[jTxt,if_neg ht,ByteArray.append_assoc]
   rw[e]
   have hih:=ih (i+1) (out++(dText d.f0 d.f1 d.f2++⟨#[10]⟩)) h3 (by rw[ByteArray.size_append,ByteArray.size_append,hnl];omega)
   refine Es (f:=fun k=>(impl_DeedText.f k d.f0 d.f1 d.f2).bind fun t=>if t.toList=([]:List UInt8)then some tNone else(if t.size+1≤9223372036854775807 then(if out.size+(t++(⟨#[10]⟩:ByteArray)).size ≤9223372036854775807 then(impl_JournalText.l0 k (out++(t++(⟨#[10]⟩:ByteArray))) l (l.length:Int) ((i+1:Nat):Int))else(none))else(none))) (fun k=>?_) (Eb (impl_deedText d.f0 d.f1 d.f2) (En ht (Ep om_ (Ep (by rw[ByteArray.size_append,hnl];omega) hih))))
   simp only[impl_JournalText.l0]
   rw[if_pos om_,if_pos om_,if_pos om_,rd_at h2,w64 om_ om_]
   rfl
theorem impl_journal (l:List S55) (hl:l.length≤100000000):Ev (fun k=>impl_JournalText.f k l) (jTxt l tNone):=by
 unfold impl_JournalText.f
 exact impl_jL l hl l 0 tNone rfl (by show(0:Nat)≤_;omega)
theorem l1In_eq (a b c:Int):spec_l1In.f a b c=some (decide (b≤a∧a≤c)):=by
 unfold spec_l1In.f
 by_cases h:a≥b
 ·rw[if_pos h];simp[h]
 ·rw[if_neg h];congr 1;symm;simp;intro h2;omega
theorem digB_sz (n:Nat) (h:n≤9223372036854775808):(digB (n:Int)).size ≤20:=by
 rw[digB_nat]
 show(Go.Lib.decDigits n).toArray.size ≤20
 rw[List.size_toArray,Go.Lib.decDigits_length]
 exact nDigits_pow 19 n om_
theorem spec_number:∀(m n:Nat),n≤m→n≤9223372036854775807→Ev (fun k=>spec_l1Number.f k (n:Int)) (digB (n:Int)):=by
 intro m
 induction m with
 |zero=>
  intro n hn hb
  obtain rfl:n=0:=by omega
  rw[digB_nat,Go.Lib.decDigits_one om_]
  refine Es (f:=fun k=>spec_l1Number.j0 k 0 false) (fun k=>?_) (Es (f:=fun _=>some (strOfNums [((48+0:Nat):Int)%256])) (fun k=>?_) ?_)
  ·simp only[spec_l1Number.f];rfl
  ·simp only[spec_l1Number.j0];rw[if_neg (by simp),if_neg om_,if_pos om_,w64 om_ om_];rfl
  ·rw[strOf_one];exact Ev.now _
 |succ m ih=>
  intro n hn hb
  rw[digB_nat]
  refine Es (f:=fun k=>spec_l1Number.j0 k (n:Int) false) (fun k=>?_) ?_
  ·simp only[spec_l1Number.f];rw[if_neg om_]
  by_cases h:n<10
  ·rw[Go.Lib.decDigits_one h,←strOf_one]
   refine Es (f:=fun k=>some _) (fun k=>?_) (Ev.now _)
   simp only[spec_l1Number.j0]
   rw[if_neg (by simp),if_neg om_,if_pos om_,w64 om_ om_]
   rfl
  ·have h1:=ih (n / 10) om_ om_
   have hsz:=digB_sz (n / 10) om_
   refine Es (f:=fun k=>(spec_l1Number.f k ((n / 10:Nat):Int)).bind fun t=>if t.size+(strOfNums [((48+n%10:Nat):Int)%256]).size ≤9223372036854775807 then some (t++strOfNums [((48+n%10:Nat):Int)%256])else none) (fun k=>?_) (Eb h1 ?_)
   ·simp only[spec_l1Number.j0]
    rw[if_neg (by simp),if_neg om_,if_neg om_,show(10:Int)=((10:Nat):Int)from rfl,tdiv_nat,tmod_nat,w64 om_ om_,w64 om_ om_]
    rfl
   ·rw[strOf_one]
    refine Ep ?_ ?_
    ·have:(⟨[UInt8.ofNat (48+n%10)].toArray⟩:ByteArray).size =1:=rfl
     omega
    ·rw[digB_nat,bytes_append]
     have e:Go.Lib.decDigits n=Go.Lib.decDigits (n / 10)++[UInt8.ofNat (48+n%10)]:=by rw[Go.Lib.decDigits,dif_neg h]
     rw[e]
     exact Ev.now _
theorem spec_j2f (a x y:Int):Ev (fun k=>spec_DeedText.j2 k false a x y) (if a=4∧x=0∧y=0 then tBack else tNone):=by
 refine Es (f:=fun _=>some (if a=4∧x=0∧y=0 then tBack else tNone)) (fun k=>?_) (Ev.now _)
 simp only[spec_DeedText.j2]
 rw[if_neg (by simp)]
 by_cases h:a=4∧x=0∧y=0
 ·rw[if_pos (by simp[h]),if_pos h];rfl
 ·rw[if_neg (by simpa using h),if_neg h];rfl
theorem spec_j2t (a x y:Int) (h:0≤x∧x≤99∧0≤y∧y≤9999):Ev (fun k=>spec_DeedText.j2 k true a x y) (((tSet++digB x)++tSp)++digB y):=by
 obtain⟨h1,h2,h4,h5⟩:=h
 obtain⟨n,rfl⟩:∃n:Nat,x=n:=⟨x.toNat,by omega⟩
 obtain⟨m,rfl⟩:∃m:Nat,y=m:=⟨y.toNat,by omega⟩
 have s1:=digB_size n om_
 have s2:=digB_size m om_
 refine Es (f:=fun k=>(spec_l1Number.f k (n:Int)).bind fun t116=>(if 4+t116.size≤9223372036854775807 then(if(tSet++t116).size +1≤9223372036854775807 then((spec_l1Number.f k (m:Int)).bind fun t117=>(if((tSet++t116)++tSp).size +t117.size≤9223372036854775807 then(some (((tSet++t116)++tSp)++t117))else(none)))else(none))else(none))) (fun k=>?_) ?_
 ·simp only[spec_DeedText.j2,if_true];rfl
 ·refine Eb (spec_number n n (Nat.le_refl _) om_) (Ep om_ (Ep ?_ (Eb (spec_number m m (Nat.le_refl _) om_) (Ep ?_ (Ev.now _)))))
  ·rw[ByteArray.size_append,show tSet.size=4 from rfl];omega
  ·rw[ByteArray.size_append,ByteArray.size_append,show tSet.size=4 from rfl,show tSp.size=1 from rfl];omega
theorem spec_rest (a x y:Int) (h0:¬(a=0∧0≤x∧x≤9∧y=0)) (h1:¬(a=1∧0≤x∧x≤9∧y=0)):Ev (fun k=>spec_DeedText.j1 k false a x y) (dText a x y):=by
 by_cases hi:a=2∧x=0∧y=0
 ·obtain⟨rfl,rfl,rfl⟩:=hi
  refine Es (f:=fun _=>some tInv) (fun k=>?_) (Ev.now _)
  simp only[spec_DeedText.j1];rfl
 ·have hi2:¬(a==2&&(x==0&&y==0))=true:=by simpa using hi
  by_cases h3:a=3
  ·subst h3
   by_cases c:0≤x∧x≤99∧0≤y∧y≤9999
   ·have e:dText 3 x y=((tSet++digB x)++tSp)++digB y:=by unfold dText;rw[if_pos ⟨rfl,c⟩]
    rw[e]
    refine Es (f:=fun k=>spec_DeedText.j2 k true 3 x y) (fun k=>?_) (spec_j2t 3 x y c)
    simp only[spec_DeedText.j1]
    rw[if_neg (by simp),if_neg hi2,if_pos trivial,l1In_eq,Option.bind_some,l1In_eq,if_pos (by simp[c]),Option.bind_some]
    congr 1
    simp[c]
   ·have e:dText 3 x y=(if(3:Int)=4∧x=0∧y=0 then tBack else tNone):=by
     unfold dText
     rw[if_neg (fun z=>c z.2)]
     by_cases hh:y=0∧0≤x∧x≤9
     ·rw[if_neg (by simpa using hh),if_neg om_,if_neg om_,if_neg om_,if_neg om_,if_neg om_]
     ·rw[if_pos hh,if_neg om_]
    rw[e]
    refine Es (f:=fun k=>spec_DeedText.j2 k false 3 x y) (fun k=>?_) (spec_j2f 3 x y)
    simp only[spec_DeedText.j1]
    rw[if_neg (by simp),if_neg hi2,if_pos trivial,l1In_eq,Option.bind_some,l1In_eq]
    by_cases c1:0≤x∧x≤99
    ·rw[if_pos (by simpa using c1),Option.bind_some]
     congr 1
     exact decide_eq_false (fun z=>c ⟨c1.1,c1.2,z.1,z.2⟩)
    ·rw[if_neg (by simpa using c1)]
  ·have e:dText a x y=(if a=4∧x=0∧y=0 then tBack else tNone):=by
    unfold dText
    rw[if_neg (fun z=>h3 z.1)]
    by_cases hh:y=0∧0≤x∧x≤9
    ·rw[if_neg (by simpa using hh),if_neg (fun z=>h0 ⟨z,hh.2.1,hh.2.2,hh.1⟩),if_neg (fun z=>h1 ⟨z,hh.2.1,hh.2.2,hh.1⟩),if_neg (fun z=>hi ⟨z.2,z.1,hh.1⟩)]
     by_cases h4:a=4∧x=0∧y=0
     ·rw[if_pos h4,if_pos ⟨h4.2.1,h4.1⟩]
     ·rw[if_neg h4,if_neg (fun z=>h4 ⟨z.2,z.1,hh.1⟩)]
    ·rw[if_pos hh,if_neg (fun z=>hh ⟨z.2.2,by omega,by omega⟩)]
   rw[e]
   refine Es (f:=fun k=>spec_DeedText.j2 k false a x y) (fun k=>?_) (spec_j2f a x y)
   simp only[spec_DeedText.j1]
   rw[if_neg (by simp),if_neg hi2,if_neg h3]
theorem spec_j1 (b:Bool) (a x y:Int) (hb:b=decide (a=1∧0≤x∧x≤9∧y=0)) (h0:¬(a=0∧0≤x∧x≤9∧y=0)):Ev (fun k=>spec_DeedText.j1 k b a x y) (dText a x y):=by
 cases b with
 |true=>
  obtain⟨rfl,h1,h2,rfl⟩:=of_decide_eq_true hb.symm
  obtain⟨n,rfl⟩:∃n:Nat,x=n:=⟨x.toNat,by omega⟩
  have s1:=digB_size n om_
  have e:dText 1 (n:Int) 0=tUnit++digB (n:Int):=by
   unfold dText;rw[if_neg om_,if_neg om_,if_neg om_,if_pos rfl]
  rw[e]
  refine Es (f:=fun k=>(spec_l1Number.f k (n:Int)).bind fun t=>if 8+t.size≤9223372036854775807 then some (tUnit++t)else none) (fun k=>?_) (Eb (spec_number n n (Nat.le_refl _) om_) (Ep om_ (Ev.now _)))
  simp only[spec_DeedText.j1,if_true];rfl
 |false=>exact spec_rest a x y h0 (of_decide_eq_false hb.symm)
theorem spec_j0 (b:Bool) (a x y:Int) (hb:b=decide (a=0∧0≤x∧x≤9∧y=0)):Ev (fun k=>spec_DeedText.j0 k b a x y) (dText a x y):=by
 cases b with
 |true=>
  obtain⟨rfl,h1,h2,rfl⟩:=of_decide_eq_true hb.symm
  obtain⟨n,rfl⟩:∃n:Nat,x=n:=⟨x.toNat,by omega⟩
  have s1:=digB_size n om_
  have e:dText 0 (n:Int) 0=tTimes++digB (n:Int):=by
   unfold dText;rw[if_neg om_,if_neg om_,if_pos rfl]
  rw[e]
  refine Es (f:=fun k=>(spec_l1Number.f k (n:Int)).bind fun t=>if 6+t.size≤9223372036854775807 then some (tTimes++t)else none) (fun k=>?_) (Eb (spec_number n n (Nat.le_refl _) om_) (Ep om_ (Ev.now _)))
  simp only[spec_DeedText.j0,if_true];rfl
 |false=>
  refine Es (f:=fun k=>spec_DeedText.j1 k (decide (a=1∧0≤x∧x≤9∧y=0)) a x y) (fun k=>?_) (spec_j1 _ a x y rfl (of_decide_eq_false hb.symm))
  simp only[spec_DeedText.j0]
  rw[if_neg (by simp)]
  by_cases h1:a=1
  ·rw[if_pos h1,l1In_eq,Option.bind_some]
   by_cases h2:0≤x∧x≤9
   ·rw[if_pos (by simpa using h2)];congr 1
    by_cases h3:y=0 <;> simp[h1,h2,h3]
   ·rw[if_neg (by simpa using h2)];congr 1
    exact(decide_eq_false (fun z=>h2 ⟨z.2.1,z.2.2.1⟩)).symm
  ·rw[if_neg h1];congr 1
   exact(decide_eq_false (fun z=>h1 z.1)).symm
theorem spec_deedText (a x y:Int):Ev (fun k=>spec_DeedText.f k a x y) (dText a x y):=by
 refine Ev.congr (f:=fun k=>spec_DeedText.j0 k (decide (a=0∧0≤x∧x≤9∧y=0)) a x y) (fun k=>?_) (spec_j0 _ a x y rfl)
 unfold spec_DeedText.f
 by_cases h1:a=0
 ·rw[if_pos h1,l1In_eq,Option.bind_some]
  by_cases h2:0≤x∧x≤9
  ·rw[if_pos (by simpa using h2)];congr 1
   by_cases h3:y=0 <;> simp[h1,h2,h3]
  ·rw[if_neg (by simpa using h2)];congr 1
   exact(decide_eq_false (fun z=>h2 ⟨z.2.1,z.2.2.1⟩)).symm
 ·rw[if_neg h1];congr 1
  exact(decide_eq_false (fun z=>h1 z.1)).symm
theorem spec_jL (l:List S55) (hl:l.length≤1048576):∀(r:List S55) (i:Nat) (out:ByteArray),l.drop i=r→out.size≤i*300001→Ev (fun k=>spec_JournalText.l0 k l out (i:Int)) (jTxt r out):=by
 intro r
 induction r with
 |nil=>
  intro i out h _
  have:l.length≤i:=List.drop_eq_nil_iff.1 h
  refine Es (f:=fun _=>some out) (fun k=>?_) (Ev.now _)
  simp only[spec_JournalText.l0]
  rw[if_neg om_]
 |cons d r ih=>
  intro i out h hs
  obtain⟨h1,h2,h3⟩:=drop_at h
  have hd:=dText_size d.f0 d.f1 d.f2
  have hnl:(⟨#[10]⟩:ByteArray).size =1:=rfl
  by_cases ht:(dText d.f0 d.f1 d.f2).toList =([]:List UInt8)
  ·have e:jTxt (d::r) out=tNone:=by unfold jTxt;rw[if_pos ht]
   rw[e]
   refine Es (f:=fun k=>(spec_DeedText.f k d.f0 d.f1 d.f2).bind fun t=>if t.toList=([]:List UInt8)then some tNone else(spec_DeedText.f k d.f0 d.f1 d.f2).bind fun t121=>(if out.size+t121.size≤9223372036854775807 then(if(out++t121).size +1≤9223372036854775807 then(spec_JournalText.l0 k l ((out++t121)++(⟨#[10]⟩:ByteArray)) (wrap64 ((i:Int)+1)))else(none))else(none))) (fun k=>?_) (Eb (spec_deedText d.f0 d.f1 d.f2) (Ep ht (Ev.now _)))
   simp only[spec_JournalText.l0]
   rw[if_pos om_,if_pos om_,rd_at h2]
   rfl
  ·have e:jTxt (d::r) out=jTxt r ((out++dText d.f0 d.f1 d.f2)++⟨#[10]⟩):=by rw[jTxt,if_neg ht]
   rw[e]
   have hih:=ih (i+1) ((out++dText d.f0 d.f1 d.f2)++⟨#[10]⟩) h3 (by rw[ByteArray.size_append,ByteArray.size_append,hnl];omega)
   refine Es (f:=fun k=>(spec_DeedText.f k d.f0 d.f1 d.f2).bind fun t=>if t.toList=([]:List UInt8)then some tNone else(spec_DeedText.f k d.f0 d.f1 d.f2).bind fun t121=>(if out.size+t121.size≤9223372036854775807 then(if(out++t121).size +1≤9223372036854775807 then(spec_JournalText.l0 k l ((out++t121)++(⟨#[10]⟩:ByteArray)) (((i+1:Nat):Int)))else(none))else(none))) (fun k=>?_) (Eb (spec_deedText d.f0 d.f1 d.f2) (En ht (Eb (spec_deedText d.f0 d.f1 d.f2) (Ep om_ (Ep (by rw[ByteArray.size_append];omega) hih)))))
   simp only[spec_JournalText.l0]
   rw[if_pos om_,if_pos om_,rd_at h2,w64 om_ om_]
   rfl
theorem spec_journal (l:List S55) (hl:l.length≤1048576):Ev (fun k=>spec_JournalText.f k l) (jTxt l tNone):=by
 unfold spec_JournalText.f
 exact spec_jL l hl l 0 tNone rfl (by show(0:Nat)≤_;omega)
theorem pick_ev {bs:List Int} (hb:Bytes bs) (hl:bs.length≤2000) {p n:Int} (h0:0≤p) (h1:p≤1000000) (hn:1≤n):
  ∃r,0≤r∧r<n∧Ev (fun k=>spec_l20Rd_pick.f k bs p n) (r,p+1):=by
 have ep:wrap64 (p+1)=p+1:=w64 om_ om_
 have e1:wrap64 (p+1-1)=p:=by rw[w64 om_ om_];omega
 have hf:∀k,spec_l20Rd_pick.f k bs p n=spec_l20Rd_pick.j0 k n ((bs.length:Int)==0) bs (p+1):=by
  intro k
  unfold spec_l20Rd_pick.f
  rw[if_neg om_,ep]
 by_cases hz:bs.length=0
 ·refine⟨0,by omega,by omega,Ev.congr hf (Es (fun k=>?_) (Ev.now _))⟩
  simp only[spec_l20Rd_pick.j0]
  rw[if_pos (by simp[hz])]
 ·have hz2:((bs.length:Int)==0)=false:=by simpa using hz
  by_cases hp:p<(bs.length:Int)
  ·have hr:=hb.at_ p
   have ht:=tmod_range hr.1 hn
   refine⟨Int.tmod (rd bs p) n,ht.1,ht.2,Ev.congr hf (Es (fun k=>?_) (Ev.now _))⟩
   simp only[spec_l20Rd_pick.j0,hz2,e1]
   rw[if_neg (by simp),if_pos hp,if_pos h0,if_neg om_,w64 om_ om_]
  ·have hl1:(1:Int)≤(bs.length:Int):=by omega
   have t1:=tmod_range h0 hl1
   have t2:=tmod_range (show 0≤p*7+3 by omega) hl1
   have t3:=tdiv_range h0 hl1
   have e7:wrap64 (p*7)=p*7:=w64 om_ om_
   have e73:wrap64 (p*7+3)=p*7+3:=w64 om_ om_
   have u1:=hb.at_ (Int.tmod p (bs.length:Int))
   have u2:=hb.at_ (Int.tmod (p*7+3) (bs.length:Int))
   have key:∀k,spec_l20Rd_pick.j0 (k+1) n ((bs.length:Int)==0) bs (p+1)=some (Int.tmod (Go.bits .xor .i64 (rd bs (Int.tmod p (bs.length:Int))*131+rd bs (Int.tmod (p*7+3) (bs.length:Int))*1117+p*29+Int.tdiv p (bs.length:Int)*53) (Int.tdiv (rd bs (Int.tmod p (bs.length:Int))*131+rd bs (Int.tmod (p*7+3) (bs.length:Int))*1117+p*29+Int.tdiv p (bs.length:Int)*53) 64)) n,p+1):=by
    intro k
    simp only[spec_l20Rd_pick.j0,hz2,e1,e7,e73]
    rw[if_neg (by simp),if_neg hp,if_neg om_,if_pos t1.1,if_pos t1.2,if_pos t2.1,if_pos t2.2,if_neg om_]
    generalize rd bs (Int.tmod p (bs.length:Int))=u at*
    generalize rd bs (Int.tmod (p*7+3) (bs.length:Int))=v at*
    generalize Int.tdiv p (bs.length:Int)=q at*
    rw[w64 (n:=u) om_ om_,w64 (n:=v) om_ om_,w64 (n:=u*131) om_ om_,w64 (n:=v*1117) om_ om_,w64 (n:=u*131+v*1117) om_ om_,w64 (n:=p*29) om_ om_,w64 (n:=u*131+v*1117+p*29) om_ om_,w64 (n:=q) om_ om_,w64 (n:=q*53) om_ om_,w64 (n:=u*131+v*1117+p*29+q*53) om_ om_]
    have t4:=tdiv_range (show 0≤u*131+v*1117+p*29+q*53 by omega) (show(1:Int)≤64 by omega)
    rw[w64 (n:=Int.tdiv (u*131+v*1117+p*29+q*53) 64) om_ om_]
   generalize rd bs (Int.tmod p (bs.length:Int))=u at*
   generalize rd bs (Int.tmod (p*7+3) (bs.length:Int))=v at*
   generalize Int.tdiv p (bs.length:Int)=q at*
   have t4:=tdiv_range (show 0≤u*131+v*1117+p*29+q*53 by omega) (show(1:Int)≤64 by omega)
   have hx:=xor_pos (a:=u*131+v*1117+p*29+q*53) (b:=Int.tdiv (u*131+v*1117+p*29+q*53) 64) om_ om_ om_ om_
   have ht:=tmod_range hx hn
   exact⟨_,ht.1,ht.2,Ev.congr hf (Es key (Ev.now _))⟩
theorem open_ev {l0:List Int} (hb:Bytes l0):∃bs,Bytes bs∧bs.length≤2000∧spec_l20Open.f l0=some (bs,0):=by
 unfold spec_l20Open.f
 by_cases h:(l0.length:Int)>2000
 ·exact⟨l0.take 2000,hb.take _,by rw[List.length_take];omega,by rw[if_pos h,if_pos om_]⟩
 ·exact⟨l0,hb,by omega,by rw[if_neg h]⟩
theorem odd_ev {bs:List Int} (hb:Bytes bs) (hl:bs.length≤2000) {p n:Int} (h0:0≤p) (h1:p≤1000000) (hn:1≤n):∃b:Bool,Ev (fun k=>spec_l20Rd_odd.f k bs p n) (b,p+1):=by
 obtain⟨r,a1,b1,c1⟩:=pick_ev hb hl h0 h1 hn
 refine⟨r==wrap64 (n-1),?_⟩
 unfold spec_l20Rd_odd.f
 exact Ep om_ (Eb c1 (Ev.now _))
theorem deed_j1 {bs:List Int} (hb:Bytes bs) (hl:bs.length≤2000) {p:Int} (h0:0≤p) (h1:p≤900000) (a b c:Int):∃b' q,p≤q∧q≤p+2∧Ev (fun k=>spec_l20Deed.j1 k bs p a b c) (a,b',c,q):=by
 obtain⟨o,ho⟩:=odd_ev hb hl h0 (by omega:p≤1000000) (by omega:(1:Int)≤40)
 cases o with
 |true=>
  obtain⟨r,a1,b1,c1⟩:=pick_ev hb hl (by omega:0≤p+1) om_ (by omega:(1:Int)≤3)
  refine⟨rd [-1,25,100] r,p+1+1,by omega,by omega,Es (f:=fun k=>(spec_l20Rd_odd.f k bs p 40).bind fun bt152=>(if bt152.1=true then((some (([(-1),25,100]:List Int):List Int)).bind fun y154=>((spec_l20Rd_pick.f k bs bt152.2 3).bind fun bt157=>(if 0≤bt157.1 then(if bt157.1<(y154.length:Int)then(some (a,rd y154 bt157.1,c,bt157.2))else(none))else(none))))else(some (a,b,c,bt152.2)))) (fun k=>?_) (Eb ho (Ep rfl (Ec rfl (Eb c1 (Ep a1 (Ep (by simp;omega) (Ev.now _)))))))⟩
  simp only[spec_l20Deed.j1]
 |false=>
  refine⟨b,p+1,by omega,by omega,Es (f:=fun k=>(spec_l20Rd_odd.f k bs p 40).bind fun bt152=>(if bt152.1=true then((some (([(-1),25,100]:List Int):List Int)).bind fun y154=>((spec_l20Rd_pick.f k bs bt152.2 3).bind fun bt157=>(if 0≤bt157.1 then(if bt157.1<(y154.length:Int)then(some (a,rd y154 bt157.1,c,bt157.2))else(none))else(none))))else(some (a,b,c,bt152.2)))) (fun k=>?_) (Eb ho (En (by simp) (Ev.now _)))⟩
  simp only[spec_l20Deed.j1]
theorem deed_j0 {bs:List Int} (hb:Bytes bs) (hl:bs.length≤2000) {p:Int} (h0:0≤p) (h1:p≤800000) (x:Int) (f:Bool) (a b c:Int):∃b' c' q,p≤q∧q≤p+5∧Ev (fun k=>spec_l20Deed.j0 k x f bs p a b c) (a,b',c',q):=by
 by_cases hf:f=true
 ·obtain⟨r,a1,b1,c1⟩:=pick_ev hb hl h0 om_ (by omega:(1:Int)≤9)
  obtain⟨b',q,q1,q2,hj⟩:=deed_j1 hb hl (by omega:0≤p+1) om_ a r c
  refine⟨b',c,q,by omega,by omega,Es (f:=fun k=>(spec_l20Rd_pick.f k bs p 9).bind fun bt140=>(spec_l20Deed.j1 k bs bt140.2 a bt140.1 c)) (fun k=>?_) (Eb c1 hj)⟩
  simp only[spec_l20Deed.j0]
  rw[if_pos hf]
 ·by_cases hx:x=3
  ·obtain⟨r1,a1,b1,c1⟩:=pick_ev hb hl h0 om_ (by omega:(1:Int)≤24)
   obtain⟨r2,a2,b2,c2⟩:=pick_ev hb hl (by omega:0≤p+1) om_ (by omega:(1:Int)≤100)
   obtain⟨r3,a3,b3,c3⟩:=pick_ev hb hl (by omega:0≤p+1+1) om_ (by omega:(1:Int)≤4)
   obtain⟨b',q,q1,q2,hj⟩:=deed_j1 hb hl (by omega:0≤p+1+1+1) om_ a (wrap64 (1+r1)) (rd [0,1,r2,9999] r3)
   refine⟨b',rd [0,1,r2,9999] r3,q,by omega,by omega,Es (f:=fun k=>(spec_l20Rd_pick.f k bs p 24).bind fun bt142=>((spec_l20Rd_pick.f k bs bt142.2 100).bind fun bt144=>((some (([0,1,bt144.1,9999]:List Int):List Int)).bind fun y146=>((spec_l20Rd_pick.f k bs bt144.2 4).bind fun bt149=>(if 0≤bt149.1 then(if bt149.1<(y146.length:Int)then(spec_l20Deed.j1 k bs bt149.2 a (wrap64 (1+bt142.1)) (rd y146 bt149.1))else(none))else(none)))))) (fun k=>?_) (Eb c1 (Eb c2 (Ec rfl (Eb c3 (Ep a3 (Ep (by simp;omega) hj))))))⟩
   simp only[spec_l20Deed.j0]
   rw[if_neg hf,if_pos hx]
  ·obtain⟨b',q,q1,q2,hj⟩:=deed_j1 hb hl h0 om_ a b c
   refine⟨b',c,q,by omega,by omega,Es (fun k=>?_) hj⟩
   simp only[spec_l20Deed.j0]
   rw[if_neg hf,if_neg hx]
theorem deed_ev {bs:List Int} (hb:Bytes bs) (hl:bs.length≤2000) {p:Int} (h0:0≤p) (h1:p≤700000):∃a b c q,p≤q∧q≤p+7∧Ev (fun k=>spec_l20Deed.f k bs p) (a,b,c,q):=by
 obtain⟨r1,a1,b1,c1⟩:=pick_ev hb hl h0 om_ (by omega:(1:Int)≤7)
 obtain⟨r2,a2,b2,c2⟩:=pick_ev hb hl (by omega:0≤p+1) om_ (by omega:(1:Int)≤60)
 unfold spec_l20Deed.f
 by_cases hk:wrap64 (rd [0,0,1,2,3,3,4] r1+wrap64 (wrap64 (Int.tdiv r2 59)*5))=0
 ·obtain⟨b',c',q,q1,q2,hj⟩:=deed_j0 hb hl (by omega:0≤p+1+1) om_ (wrap64 (rd [0,0,1,2,3,3,4] r1+wrap64 (wrap64 (Int.tdiv r2 59)*5))) (wrap64 (rd [0,0,1,2,3,3,4] r1+wrap64 (wrap64 (Int.tdiv r2 59)*5))==0) (wrap64 (rd [0,0,1,2,3,3,4] r1+wrap64 (wrap64 (Int.tdiv r2 59)*5))) 0 0
  exact⟨_,b',c',q,by omega,by omega,Ec rfl (Eb c1 (Ep a1 (Ep (by simp;omega) (Eb c2 (Ep hk hj)))))⟩
 ·obtain⟨b',c',q,q1,q2,hj⟩:=deed_j0 hb hl (by omega:0≤p+1+1) om_ (wrap64 (rd [0,0,1,2,3,3,4] r1+wrap64 (wrap64 (Int.tdiv r2 59)*5))) (wrap64 (rd [0,0,1,2,3,3,4] r1+wrap64 (wrap64 (Int.tdiv r2 59)*5))==1) (wrap64 (rd [0,0,1,2,3,3,4] r1+wrap64 (wrap64 (Int.tdiv r2 59)*5))) 0 0
  exact⟨_,b',c',q,by omega,by omega,Ec rfl (Eb c1 (Ep a1 (Ep (by simp;omega) (Eb c2 (En hk hj)))))⟩
def kfrom (w:ByteArray):List ByteArray→Int→Int
 |[],_=> -1
 |x::r,i=>if w.toList=x.toList then i else kfrom w r (i+1)
theorem idxL (l:List ByteArray) (w:ByteArray) (hl:l.length≤1000):∀(r:List ByteArray) (i:Nat),l.drop i=r→Ev (fun k=>slices_Index_string_string.l0 k l w (l.length:Int) (i:Int)) (kfrom w r (i:Int)):=by
 intro r
 induction r with
 |nil=>
  intro i h
  have:l.length≤i:=List.drop_eq_nil_iff.1 h
  refine Es (f:=fun _=>some (-1)) (fun k=>?_) (Ev.now _)
  simp only[slices_Index_string_string.l0]
  rw[if_neg om_]
 |cons x r ih=>
  intro i h
  obtain⟨h1,h2,h3⟩:=drop_at h
  have hx:rdOf ByteArray.empty l (i:Int)=x:=by unfold rdOf;simp[List.getD,h2]
  by_cases he:w.toList=x.toList
  ·rw[kfrom,if_pos he]
   refine Es (f:=fun _=>some (i:Int)) (fun k=>?_) (Ev.now _)
   simp only[slices_Index_string_string.l0]
   rw[if_pos om_,if_pos om_,if_pos om_,hx,if_pos he]
  ·rw[kfrom,if_neg he]
   refine Es (fun k=>?_) (ih (i+1) h3)
   simp only[slices_Index_string_string.l0]
   rw[if_pos om_,if_pos om_,if_pos om_,hx,if_neg he,w64 om_ om_]
   rfl
theorem idx_ev (w:ByteArray):Ev (fun k=>slices_Index_string_string.f k n5 w) (kidx w):=by
 unfold slices_Index_string_string.f
 have h:=idxL n5 w dc_ n5 0 rfl
 have e:kfrom w n5 ((0:Nat):Int)=kidx w:=by unfold kidx n5;simp[kfrom]
 rw[e]at h
 exact h
theorem wordsB_pos (s:ByteArray):0<(wordsB s).length :=by
 obtain⟨w,ws,e⟩:=wordsL_ne 32 s.data.toList
 unfold wordsB;rw[e];simp
theorem wordsB_size {s w:ByteArray} (h:w∈wordsB s):w.size≤s.size:=by
 unfold wordsB at h
 obtain⟨l,hl,rfl⟩:=List.mem_map.1 h
 rw[bw_size,size_data]
 exact wordsL_len 32 _ l hl
theorem rdOf_size {s:ByteArray} (i:Nat):(rdOf ByteArray.empty (wordsB s) (i:Int)).size ≤s.size:=by
 unfold rdOf
 have e:((i:Int)).toNat =i:=by omega
 rw[e]
 by_cases h:i<(wordsB s).length
 ·rw[List.getD_eq_getElem?_getD,List.getElem?_eq_getElem h]
  exact wordsB_size (List.getElem_mem h)
 ·rw[List.getD_eq_getElem?_getD,List.getElem?_eq_none om_]
  exact Nat.zero_le _
theorem atoi_eq (s:ByteArray) (h:s.size≤281474976710656):strconv_Atoi.f s=some (aval s,strconv_Atoi.err s):=by
 unfold strconv_Atoi.f;rw[if_pos h];rfl
theorem rdT_ev {g:Nat→Option ByteArray} {s:ByteArray} {a b c:Int} (h:Ev g (dText a b c)):Ev (fun k=>(g k).bind fun t=>if t.toList=s.toList then some (a,b,c,true)else some (0,0,0,false)) (rdT s a b c):=by
 unfold rdT
 by_cases hq:(dText a b c).toList =s.toList
 ·rw[if_pos hq];exact Eb h (Ep hq (Ev.now _))
 ·rw[if_neg hq];exact Eb h (En hq (Ev.now _))
theorem impl_rj1 (s:ByteArray) (hs:s.size<4294967281) (a b:Int):Ev (fun k=>impl_ReadDeed.j1 k s (wordsB s) a b 0) (rdT s a b (rdC (wordsB s))):=by
 unfold rdC
 by_cases h:((wordsB s).length :Int)>2
 ·rw[if_pos h]
  refine Es (f:=fun k=>(impl_DeedText.f k a b (aval (rdOf ByteArray.empty (wordsB s) 2))).bind fun t=>if t.toList=s.toList then some (a,b,aval (rdOf ByteArray.empty (wordsB s) 2),true)else some (0,0,0,false)) (fun k=>?_) (rdT_ev (impl_deedText _ _ _))
  have:(rdOf ByteArray.empty (wordsB s) 2).size ≤s.size:=rdOf_size (s:=s) 2
  simp only[impl_ReadDeed.j1]
  rw[if_pos h,if_pos om_,atoi_eq _ (Nat.le_trans this om_),Option.bind_some]
 ·rw[if_neg h]
  refine Es (f:=fun k=>(impl_DeedText.f k a b 0).bind fun t=>if t.toList=s.toList then some (a,b,0,true)else some (0,0,0,false)) (fun k=>?_) (rdT_ev (impl_deedText _ _ _))
  simp only[impl_ReadDeed.j1]
  rw[if_neg h]
theorem rd5 {i:Int} (h0:0≤i) (h4:i≤4):rd ([0,1,2,3,4]:List Int) i=i:=by
 have:i=0∨i=1∨i=2∨i=3∨i=4:=by omega
 rcases this with rfl|rfl|rfl|rfl|rfl <;> rfl
theorem impl_readDeed (s:ByteArray) (hs:s.size<4294967281):Ev (fun k=>impl_ReadDeed.f k s) (rdVal s):=by
 unfold impl_ReadDeed.f
 have hp:=wordsB_pos s
 have hsplit:strings_Split.f s (⟨#[32]⟩:ByteArray)=some (wordsB s):=by
  unfold strings_Split.f
  rw[if_pos hs,if_pos dc_]
  exact congrArg some (splitB_words 32 s)
 refine Ec hsplit (Ep om_ (Eb (idx_ev _) ?_))
 obtain⟨k0,k4⟩:=kidx_range (rdOf ByteArray.empty (wordsB s) 0)
 have hno:∀x5,Ev (fun k=>impl_ReadDeed.j0 k s (wordsB s) x5 true) no4:=fun x5=>by
  refine Es (f:=fun _=>some no4) (fun k=>?_) (Ev.now _)
  simp only[impl_ReadDeed.j0]
  rw[if_pos trivial];rfl
 unfold rdVal rdW
 by_cases h1:kidx (rdOf ByteArray.empty (wordsB s) 0)<0
 ·rw[if_pos h1]
  exact Ep h1 (hno _)
 ·rw[if_neg h1]
  refine En h1 ?_
  by_cases h2:((wordsB s).length :Int)>3
  ·rw[if_pos h2]
   simp only[decide_eq_true h2]
   exact hno _
  ·rw[if_neg h2]
   simp only[decide_eq_false h2]
   have hj:=impl_rj1 s hs (kidx (rdOf ByteArray.empty (wordsB s) 0)) (rdB (wordsB s))
   refine Es (fun k=>?_) hj
   simp only[impl_ReadDeed.j0,Option.bind_some]
   rw[if_neg (by simp),if_pos om_,if_pos (by simp;omega),rd5 om_ k4]
   unfold rdB
   by_cases h3:((wordsB s).length :Int)>1
   ·have:(rdOf ByteArray.empty (wordsB s) 1).size ≤s.size:=rdOf_size (s:=s) 1
    rw[if_pos h3,if_pos om_,atoi_eq _ (Nat.le_trans this om_),if_pos h3]
    rfl
   ·rw[if_neg h3,if_neg h3]
def rjV (L:List UInt8):Nat→List S55→Nat→List S55×Int
 |0,out,p=>(out,(p:Int))
 |d+1,out,p=>if(10:UInt8)∈L.drop p then
   (if(rdVal (bw ((L.drop p).take (Go.Lib.index (L.drop p) [10]).toNat))).2.2.2=true
    then rjV L d (out++[⟨(rdVal (bw ((L.drop p).take (Go.Lib.index (L.drop p) [10]).toNat))).1,(rdVal (bw ((L.drop p).take (Go.Lib.index (L.drop p) [10]).toNat))).2.1,(rdVal (bw ((L.drop p).take (Go.Lib.index (L.drop p) [10]).toNat))).2.2.1⟩]) (p+(Go.Lib.index (L.drop p) [10]).toNat +1)
    else(out,(p:Int)))
  else(out,(p:Int))
theorem drop_nil10 {L:List UInt8} {p:Nat} (h:L.length≤p):(10:UInt8)∉L.drop p:=by rw[List.drop_eq_nil_of_le h];simp
theorem impl_jrL (s:ByteArray) (hs:s.size≤1099511627776) (hs2:s.size<4294967281):∀(d p:Nat) (out:List S55),p≤s.size→s.size-p≤d→out.length≤p→Ev (fun k=>impl_ReadJournal.l0 k s out (p:Int)) (rjV s.data.toList (d+1) out p):=by
 intro d
 have hl:s.data.toList.length=s.size:=(size_data s).symm
 induction d with
 |zero=>
  intro p out hp hd ho
  have he:s.size=p:=by omega
  rw[rjV,if_neg (drop_nil10 om_)]
  have hc:strings_Cut.f (s.extract ((p:Int).toNat) s.size) (⟨#[10]⟩:ByteArray)=some (bw [],bw [],false):=by
   unfold strings_Cut.f
   have e:(s.extract ((p:Int).toNat) s.size).data.toList =[]:=by
    rw[show((p:Int)).toNat =p by omega,ext_bw,data_bw,List.take_of_length_le (by rw[List.length_drop];omega),List.drop_eq_nil_of_le om_]
   rw[if_pos (by rw[size_data,e];decide),e]
   rfl
  refine Es (f:=fun k=>(impl_ReadDeed.f k (bw [])).bind fun bt=>some (out,(p:Int))) (fun k=>?_) (Eb (impl_readDeed (bw []) dc_) (Ev.now _))
  simp only[impl_ReadJournal.l0]
  rw[if_pos om_,if_pos om_,hc]
  simp
 |succ d ih=>
  intro p out hp hd ho
  have hE:(s.extract ((p:Int).toNat) s.size).data.toList =s.data.toList.drop p:=by
   rw[show((p:Int)).toNat =p by omega,ext_bw,data_bw,List.take_of_length_le (by rw[List.length_drop];omega)]
  have hz:(s.extract ((p:Int).toNat) s.size).size <4294967281:=by rw[size_data,hE,List.length_drop];omega
  by_cases hm:(10:UInt8)∈s.data.toList.drop p
  ·obtain⟨i,h1,h2,h3,h4⟩:=index_some hm
   have hi:(Go.Lib.index (s.data.toList.drop p) [10]).toNat =i:=by rw[h1];omega
   rw[List.length_drop]at h2
   have hc:strings_Cut.f (s.extract ((p:Int).toNat) s.size) (⟨#[10]⟩:ByteArray)=some (bw ((s.data.toList.drop p).take i),bw ((s.data.toList.drop p).drop (i+1)),true):=by
    unfold strings_Cut.f
    rw[if_pos hz,hE]
    have ec:Go.Lib.cut (s.data.toList.drop p) [10]=((s.data.toList.drop p).take i,(s.data.toList.drop p).drop (i+1),true):=by
     unfold Go.Lib.cut
     rw[h1,if_pos om_]
     rfl
    have e10:(⟨#[10]⟩:ByteArray).data.toList =[10]:=rfl
    rw[e10,ec];rfl
   have hsz:(bw ((s.data.toList.drop p).take i)).size =i:=by rw[bw_size,List.length_take,List.length_drop];omega
   rw[rjV,if_pos hm,hi]
   have hr:=impl_readDeed (bw ((s.data.toList.drop p).take i)) (by rw[hsz];omega)
   by_cases hf:(rdVal (bw ((s.data.toList.drop p).take i))).2.2.2=true
   ·rw[if_pos hf]
    have hih:=ih (p+i+1) (out++[⟨(rdVal (bw ((s.data.toList.drop p).take i))).1,(rdVal (bw ((s.data.toList.drop p).take i))).2.1,(rdVal (bw ((s.data.toList.drop p).take i))).2.2.1⟩]) om_ om_ (by simp;omega)
    refine Es (f:=fun k=>(impl_ReadDeed.f k (bw ((s.data.toList.drop p).take i))).bind fun bt135=>(if bt135.2.2.2=true then(if out.length<5864062014805 then(impl_ReadJournal.l0 k s (out++[(⟨bt135.1,bt135.2.1,bt135.2.2.1⟩:S55)]) ((p+i+1:Nat):Int))else(none))else(some (out,(p:Int))))) (fun k=>?_) (Eb hr (Ep hf (Ep om_ hih)))
    simp only[impl_ReadJournal.l0]
    rw[if_pos om_,if_pos om_,hc]
    simp only[Option.bind_some,if_true]
    rw[hsz,w64 (n:=(i:Int)+1) om_ om_,w64 om_ om_]
    rfl
   ·rw[if_neg hf]
    refine Es (f:=fun k=>(impl_ReadDeed.f k (bw ((s.data.toList.drop p).take i))).bind fun bt135=>(if bt135.2.2.2=true then(if out.length<5864062014805 then(impl_ReadJournal.l0 k s (out++[(⟨bt135.1,bt135.2.1,bt135.2.2.1⟩:S55)]) (wrap64 ((p:Int)+(wrap64 (((bw ((s.data.toList.drop p).take i)).size :Int)+1)))))else(none))else(some (out,(p:Int))))) (fun k=>?_) (Eb hr (En hf (Ev.now _)))
    simp only[impl_ReadJournal.l0]
    rw[if_pos om_,if_pos om_,hc]
    simp only[Option.bind_some,if_true]
  ·rw[rjV,if_neg hm]
   have hc:strings_Cut.f (s.extract ((p:Int).toNat) s.size) (⟨#[10]⟩:ByteArray)=some (bw (s.data.toList.drop p),bw [],false):=by
    unfold strings_Cut.f
    rw[if_pos hz,hE]
    have ec:Go.Lib.cut (s.data.toList.drop p) [10]=(s.data.toList.drop p,[],false):=by
     unfold Go.Lib.cut
     rw[index_none_iff.2 hm,if_neg om_]
    have e10:(⟨#[10]⟩:ByteArray).data.toList =[10]:=rfl
    rw[e10,ec];rfl
   have hr:=impl_readDeed (bw (s.data.toList.drop p)) (by rw[bw_size,List.length_drop];omega)
   refine Es (f:=fun k=>(impl_ReadDeed.f k (bw (s.data.toList.drop p))).bind fun bt=>some (out,(p:Int))) (fun k=>?_) (Eb hr (Ev.now _))
   simp only[impl_ReadJournal.l0]
   rw[if_pos om_,if_pos om_,hc]
   simp
theorem impl_readJournal (s:ByteArray) (hs2:s.size<4294967281):Ev (fun k=>impl_ReadJournal.f k s) (rjV s.data.toList (s.size+1) [] 0):=by
 unfold impl_ReadJournal.f
 exact impl_jrL s om_ hs2 s.size 0 [] om_ om_ (by simp)
theorem deeds_l {bs:List Int} (hb:Bytes bs) (hl:bs.length≤2000):∀(n:Nat) (out:List S55) (p:Int),n≤10→out.length+n≤1000→0≤p→p+7*n≤100000→∃L q,L.length≤out.length+n∧p≤q∧q≤p+7*n∧Ev (fun k=>spec_l20Deeds.l0 k out (n:Int) bs p) (L,q):=by
 intro n
 induction n with
 |zero=>
  intro out p _ _ h0 h1
  refine⟨out,p,by omega,by omega,by omega,Es (f:=fun _=>some (out,p)) (fun k=>?_) (Ev.now _)⟩
  simp only[spec_l20Deeds.l0]
  rw[if_neg om_]
 |succ n ih=>
  intro out p hn ho h0 h1
  obtain⟨a,b,c,q,q1,q2,hd⟩:=deed_ev hb hl h0 (by omega:p≤700000)
  obtain⟨L,q',hL,h2,h3,he⟩:=ih (out++[⟨a,b,c⟩]) q om_ (by simp;omega) om_ om_
  refine⟨L,q',by simp at hL;omega,by omega,by omega,Es (f:=fun k=>(spec_l20Deed.f k bs p).bind fun bt165=>(if out.length<5864062014805 then(spec_l20Deeds.l0 k (out++[(⟨bt165.1,bt165.2.1,bt165.2.2.1⟩:S55)]) ((n:Nat):Int) bs bt165.2.2.2)else(none))) (fun k=>?_) (Eb hd (Ep om_ he))⟩
  simp only[spec_l20Deeds.l0]
  rw[if_pos om_,w64 om_ om_,show((n+1:Nat):Int)-1=((n:Nat):Int)by omega]
theorem written_l (l:List S55) (hl:l.length≤2000) (bs:List Int) (p:Int):∀(r:List S55) (i:Nat) (out:List S55),l.drop i=r→out.length≤i→(∀x∈out,(dText x.f0 x.f1 x.f2).size ≠0)→∃L:List S55,L.length≤out.length+r.length∧(∀x∈L,(dText x.f0 x.f1 x.f2).size ≠0)∧Ev (fun k=>spec_l20Written.l0 k out l (i:Int) bs p) (L,p):=by
 intro r
 induction r with
 |nil=>
  intro i out h _ ho
  have:l.length≤i:=List.drop_eq_nil_iff.1 h
  refine⟨out,by simp,ho,Es (f:=fun _=>some (out,p)) (fun k=>?_) (Ev.now _)⟩
  simp only[spec_l20Written.l0]
  rw[if_neg om_]
 |cons d r ih=>
  intro i out h hi ho
  obtain⟨h1,h2,h3⟩:=drop_at h
  have ew:wrap64 ((i:Int)+1)=((i+1:Nat):Int):=by rw[w64 om_ om_];rfl
  by_cases ht:(dText d.f0 d.f1 d.f2).toList =([]:List UInt8)
  ·obtain⟨L,e1,e2,e3⟩:=ih (i+1) out h3 om_ ho
   refine⟨L,by simp;omega,e2,Es (f:=fun k=>(spec_DeedText.f k d.f0 d.f1 d.f2).bind fun t180=>(if t180.toList=([]:List UInt8)then(spec_l20Written.l0 k out l ((i+1:Nat):Int) bs p)else(if out.length<5864062014805 then(spec_l20Written.l0 k (out++[(⟨d.f0,d.f1,d.f2⟩:S55)]) l ((i+1:Nat):Int) bs p)else(none)))) (fun k=>?_) (Eb (spec_deedText _ _ _) (Ep ht e3))⟩
   simp only[spec_l20Written.l0]
   rw[if_pos om_,if_pos om_,rd_at h2,ew]
  ·obtain⟨L,e1,e2,e3⟩:=ih (i+1) (out++[⟨d.f0,d.f1,d.f2⟩]) h3 (by simp;omega) (fun x hx=>by
    rcases List.mem_append.1 hx with hx|hx
    ·exact ho x hx
    ·obtain rfl:=List.mem_singleton.1 hx;exact fun hz=>ht (toList_nil.2 hz))
   refine⟨L,by simp at e1 ⊢;omega,e2,Es (f:=fun k=>(spec_DeedText.f k d.f0 d.f1 d.f2).bind fun t180=>(if t180.toList=([]:List UInt8)then(spec_l20Written.l0 k out l ((i+1:Nat):Int) bs p)else(if out.length<5864062014805 then(spec_l20Written.l0 k (out++[(⟨d.f0,d.f1,d.f2⟩:S55)]) l ((i+1:Nat):Int) bs p)else(none)))) (fun k=>?_) (Eb (spec_deedText _ _ _) (En ht (Ep om_ e3)))⟩
   simp only[spec_l20Written.l0]
   rw[if_pos om_,if_pos om_,rd_at h2,ew]
theorem sameDeeds_l (l:List S55) (hl:l.length≤9223372036854775806):∀(d i:Nat),i+d=l.length→Ev (fun k=>laws_sameDeeds.l0 k l l (i:Int)) true:=by
 intro d
 induction d with
 |zero=>
  intro i h
  refine Es (f:=fun _=>some true) (fun k=>?_) (Ev.now _)
  simp only[laws_sameDeeds.l0]
  rw[if_neg om_]
 |succ d ih=>
  intro i h
  refine Es (fun k=>?_) (ih (i+1) om_)
  simp only[laws_sameDeeds.l0]
  rw[if_pos om_,if_pos om_,if_pos om_,if_neg (by simp),w64 om_ om_]
  rfl
theorem sameDeeds_ev (l:List S55) (hl:l.length≤9223372036854775806):Ev (fun k=>laws_sameDeeds.f k l l) true:=by
 unfold laws_sameDeeds.f
 exact Ep rfl (sameDeeds_l l hl l.length 0 om_)
def jB:List S55→List UInt8
 |[]=>[]
 |d::r=>(dText d.f0 d.f1 d.f2).data.toList ++10::jB r
theorem jTxt_data:∀(l:List S55) (out:ByteArray),(∀x∈l,(dText x.f0 x.f1 x.f2).size ≠0)→(jTxt l out).data.toList =out.data.toList++jB l
 |[],out,_=>by simp[jTxt,jB]
 |d::r,out,h=>by
  have h1:=h d List.mem_cons_self
  rw[jTxt,if_neg (fun hz=>h1 (toList_nil.1 hz)),jTxt_data r _ (fun x hx=>h x (List.mem_cons_of_mem _ hx)),data_app,data_app,jB]
  simp
theorem jTxt_size:∀(l:List S55) (out:ByteArray),(jTxt l out).size ≤out.size+300001*l.length
 |[],out=>by simp[jTxt]
 |d::r,out=>by
  rw[jTxt]
  split
  ·show(0:Nat)≤_;omega
  ·have h1:=jTxt_size r ((out++dText d.f0 d.f1 d.f2)++⟨#[10]⟩)
   have h2:=dText_size d.f0 d.f1 d.f2
   rw[ByteArray.size_append,ByteArray.size_append,show(⟨#[10]⟩:ByteArray).size =1 from rfl]at h1
   simp only[List.length_cons]
   omega
theorem cutL (s:ByteArray) (hs:s.size≤1099511627776):∀(d i f:Nat) (out:List ByteArray),i+d=s.size→f≤i→out.length≤f→(∀j,f≤j→j<i→s.data.toList[j]? ≠some 32)→
  Ev (fun k=>spec_l1Cut.l0 k s 32 out (f:Int) (i:Int)) (out++(wordsL 32 (s.data.toList.drop f)).map bw):=by
 intro d
 induction d with
 |zero=>
  intro i f out h hf ho hn
  have hl:s.data.toList.length=s.size:=(size_data s).symm
  have e:s.data.toList.drop f=(s.data.toList.drop f).take (i-f):=by rw[List.take_of_length_le];rw[List.length_drop];omega
  rw[wordsL_plain (by rw[e];exact seg_no hn)]
  refine Es (f:=fun _=>some (out++[bw (s.data.toList.drop f)])) (fun k=>?_) (Ev.now _)
  simp only[spec_l1Cut.l0]
  rw[if_neg om_,if_pos om_,if_pos om_,if_pos om_]
  have e2:s.extract ((f:Int).toNat) s.size=bw (s.data.toList.drop f):=by
   rw[show((f:Int)).toNat =f by omega,ext_bw,List.take_of_length_le]
   rw[List.length_drop];omega
  rw[e2]
 |succ d ih=>
  intro i f out h hf ho hn
  have hl:s.data.toList.length=s.size:=(size_data s).symm
  obtain⟨b,hb⟩:∃b,s.data.toList[i]? =some b:=⟨_,List.getElem?_eq_getElem om_⟩
  by_cases hc:b=32
  ·subst hc
   have hsp:=seg_split hf hb
   have e:(wordsL 32 (s.data.toList.drop f)).map bw=bw ((s.data.toList.drop f).take (i-f))::(wordsL 32 (s.data.toList.drop (i+1))).map bw:=by
    conv=>lhs;rw[hsp,wordsL_cut _ (seg_no hn)]
    rfl
   rw[e,show out++bw ((s.data.toList.drop f).take (i-f))::(wordsL 32 (s.data.toList.drop (i+1))).map bw=(out++[bw ((s.data.toList.drop f).take (i-f))])++(wordsL 32 (s.data.toList.drop (i+1))).map bw by simp]
   refine Es (fun k=>?_) (ih (i+1) (i+1) (out++[bw ((s.data.toList.drop f).take (i-f))]) om_ (Nat.le_refl _) (by simp;omega) (fun j h1 h2=>by omega))
   simp only[spec_l1Cut.l0]
   rw[if_pos om_,if_pos om_,bt_get hb,if_pos dc_,if_pos om_,if_pos om_,if_pos om_,if_pos om_,w64 om_ om_,←ext_bw]
   rw[show((f:Int)).toNat =f by omega,show((i:Int)).toNat =i by omega]
   rfl
  ·refine Es (fun k=>?_) (ih (i+1) f out om_ om_ ho (fun j h1 h2=>?_))
   ·simp only[spec_l1Cut.l0]
    rw[if_pos om_,if_pos om_,bt_get hb,if_neg (fun hz=>hc (UInt8.toNat.inj (by have:(32:UInt8).toNat =32:=rfl;omega))),w64 om_ om_]
    rfl
   ·by_cases hj:j=i
    ·subst hj;rw[hb];exact fun hz=>hc (Option.some.inj hz)
    ·exact hn j h1 om_
theorem spec_cut (s:ByteArray) (hs:s.size≤1099511627776):Ev (fun k=>spec_l1Cut.f k s 32) (wordsB s):=by
 unfold spec_l1Cut.f
 have h:=cutL s hs s.size 0 0 [] om_ (Nat.le_refl _) (by simp) (fun j h1 h2=>by omega)
 exact h
def dgf (n:Int):List UInt8→Int
 |[]=>n
 |b::r=>if(b.toNat:Int)<48 then-1 else if(b.toNat:Int)>57 then-1 else dgf (wrap64 (wrap64 (10*n)+((b.toNat:Int)-48)%256)) r
theorem digitsL (s:ByteArray) (hs:s.size≤1099511627776):∀(r:List UInt8) (i:Nat) (n:Int),s.data.toList.drop i=r→Ev (fun k=>spec_l1Digits.l0 k s n (i:Int)) (dgf n r):=by
 intro r
 have hl:s.data.toList.length=s.size:=(size_data s).symm
 induction r with
 |nil=>
  intro i n h
  have:s.data.toList.length≤i:=List.drop_eq_nil_iff.1 h
  refine Es (f:=fun _=>some n) (fun k=>?_) (Ev.now _)
  simp only[spec_l1Digits.l0]
  rw[if_neg om_]
 |cons b r ih=>
  intro i n h
  obtain⟨h1,h2,h3⟩:=drop_at h
  by_cases c1:(b.toNat:Int)<48
  ·rw[dgf,if_pos c1]
   refine Es (f:=fun _=>some (-1)) (fun k=>?_) (Ev.now _)
   simp only[spec_l1Digits.l0]
   rw[if_pos om_,if_pos om_,bt_get h2,if_pos c1]
  ·by_cases c2:(b.toNat:Int)>57
   ·rw[dgf,if_neg c1,if_pos c2]
    refine Es (f:=fun _=>some (-1)) (fun k=>?_) (Ev.now _)
    simp only[spec_l1Digits.l0]
    rw[if_pos om_,if_pos om_,bt_get h2,if_neg c1,if_pos c2]
   ·rw[dgf,if_neg c1,if_neg c2]
    refine Es (fun k=>?_) (ih (i+1) _ h3)
    simp only[spec_l1Digits.l0]
    rw[if_pos om_,if_pos om_,bt_get h2,if_neg c1,if_neg c2]
    have e:wrap64 ((i:Int)+1)=((i+1:Nat):Int):=by rw[w64 om_ om_];rfl
    rw[e]
theorem dv_app:∀(xs ys:List UInt8) (n:Int) (m:Int),(∀b∈xs,48≤b.toNat∧b.toNat≤57)→dgf n xs=m→dgf n (xs++ys)=dgf m ys
 |[],ys,n,m,_,h=>by simp only[dgf]at h;subst h;rfl
 |b::r,ys,n,m,hd,h=>by
  have hb:=hd b List.mem_cons_self
  rw[dgf,if_neg om_,if_neg om_]at h
  rw[List.cons_append,dgf,if_neg om_,if_neg om_]
  exact dv_app r ys _ m (fun x hx=>hd x (List.mem_cons_of_mem _ hx)) h
theorem dv_dec (u:Nat) (h:u≤1000000):dgf 0 (Go.Lib.decDigits u)=(u:Int):=by
 induction u using Nat.strongRecOn with
 |_ u ih=>
  by_cases h1:u<10
  ·rw[Go.Lib.decDigits_one h1]
   simp only[dgf]
   rw[ofNat_toNat om_,if_neg om_,if_neg om_,w64 (n:=10*0) om_ om_,w64 om_ om_]
   omega
  ·rw[dec_big h1,dv_app _ _ 0 ((u / 10:Nat):Int) (dec_digits _) (ih (u / 10) om_ om_)]
   simp only[dgf]
   rw[ofNat_toNat om_,if_neg om_,if_neg om_,w64 (n:=10*((u / 10:Nat):Int)) om_ om_,w64 om_ om_]
   omega
def dgv (s:ByteArray):Int:=if ¬(1≤(s.size:Int)∧(s.size:Int)≤5)then-1 else if(s.size:Int)>1∧bt s 0=48 then-1 else dgf 0 s.data.toList
theorem spec_digits (s:ByteArray) (hs:s.size≤1099511627776):Ev (fun k=>spec_l1Digits.f k s) (dgv s):=by
 unfold spec_l1Digits.f dgv
 rw[l1In_eq]
 have hno:Ev (fun k=>spec_l1Digits.j0 k s true) (-1):=by
  refine Es (f:=fun _=>some (-1)) (fun k=>?_) (Ev.now _)
  simp only[spec_l1Digits.j0];rw[if_pos trivial]
 have hgo:Ev (fun k=>spec_l1Digits.j0 k s false) (dgf 0 s.data.toList):=by
  refine Es (fun k=>?_) (digitsL s hs s.data.toList 0 0 rfl)
  simp only[spec_l1Digits.j0];rw[if_neg (by simp)];rfl
 by_cases h1:1≤(s.size:Int)∧(s.size:Int)≤5
 ·rw[if_neg (by simpa using h1)]
  refine Ec rfl (Ep (by simpa using h1) ?_)
  by_cases h2:(s.size:Int)>1
  ·refine Ep h2 (Ep om_ ?_)
   by_cases h3:bt s 0=48
   ·rw[if_pos ⟨h2,h3⟩]
    simp only[h3,beq_self_eq_true]
    exact hno
   ·rw[if_neg (fun z=>h3 z.2)]
    have:(bt s 0==48)=false:=by simpa using h3
    simp only[this]
    exact hgo
  ·rw[if_neg (fun z=>h2 z.1)]
   exact En h2 hgo
 ·rw[if_pos h1]
  exact Ec rfl (En (by simpa using h1) hno)
theorem dgv_dec (u:Nat) (h:u≤99999):dgv (bw (Go.Lib.decDigits u))=(u:Int):=by
 unfold dgv
 have hsz:(bw (Go.Lib.decDigits u)).size =Go.Lib.nDigits u:=by rw[bw_size,Go.Lib.decDigits_length]
 have h4:=nDigits_pow 4 u om_
 have h1:=Go.Lib.nDigits_pos u
 rw[hsz,if_neg om_,if_neg,data_bw,dv_dec u om_]
 rintro⟨h2,h3⟩
 obtain⟨b,r,e,hb⟩:=dec_head u
 have hg:(bw (Go.Lib.decDigits u)).data.toList[0]? =some b:=by rw[data_bw,e];rfl
 have h5:=bt_get hg
 have hu:¬u<10:=fun hz=>by rw[Go.Lib.nDigits_small hz]at h2;omega
 have:=hb om_
 rw[show((0:Nat):Int)=0 from rfl]at h5
 omega
def findD (s:ByteArray):List S55→Int×Int×Int×Bool
 |[]=>no4
 |d::r=>if s.toList=([]:List UInt8)then findD s r else if(dText d.f0 d.f1 d.f2).toList =s.toList then(d.f0,d.f1,d.f2,true)else findD s r
theorem spec_rL (s:ByteArray) (l:List S55) (hl:l.length≤1000):∀(r:List S55) (i:Nat),l.drop i=r→Ev (fun k=>spec_ReadDeed.l0 k s l (i:Int)) (findD s r):=by
 intro r
 induction r with
 |nil=>
  intro i h
  have:l.length≤i:=List.drop_eq_nil_iff.1 h
  refine Es (f:=fun _=>some no4) (fun k=>?_) (Ev.now _)
  simp only[spec_ReadDeed.l0]
  rw[if_neg om_];rfl
 |cons d r ih=>
  intro i h
  obtain⟨h1,h2,h3⟩:=drop_at h
  have hd:rd_T55 l (i:Int)=d:=by unfold rd_T55;simp[List.getD,h2]
  have hi:=ih (i+1) h3
  have ew:wrap64 ((i:Int)+1)=((i+1:Nat):Int):=by rw[w64 om_ om_];rfl
  by_cases h0:s.toList=([]:List UInt8)
  ·rw[findD,if_pos h0]
   refine Es (fun k=>?_) hi
   simp only[spec_ReadDeed.l0]
   rw[if_pos om_,if_pos h0,ew]
  ·rw[findD,if_neg h0]
   refine Es (f:=fun k=>(spec_DeedText.f k d.f0 d.f1 d.f2).bind fun t=>if t.toList=s.toList then some (d.f0,d.f1,d.f2,true)else spec_ReadDeed.l0 k s l ((i+1:Nat):Int)) (fun k=>?_) ?_
   ·simp only[spec_ReadDeed.l0]
    rw[if_pos om_,if_neg h0,if_pos om_,hd,ew]
   ·by_cases hq:(dText d.f0 d.f1 d.f2).toList =s.toList
    ·rw[if_pos hq];exact Eb (spec_deedText _ _ _) (Ep hq (Ev.now _))
    ·rw[if_neg hq];exact Eb (spec_deedText _ _ _) (En hq hi)
theorem findD_rd (s:ByteArray):∀(l:List S55),(∀a b c,dText a b c=s→s.size≠0→(⟨a,b,c⟩:S55)∈l∨False)→findD s l=rdVal s∨(findD s l=no4∧∀d∈l,s.size=0∨dText d.f0 d.f1 d.f2≠s)
 |[],_=> .inr ⟨rfl,by simp⟩
 |d::r,hc=>by
  by_cases h0:s.toList=([]:List UInt8)
  ·have hz:=toList_nil.1 h0
   rcases findD_rd s r (fun a b c h1 h2=>absurd hz h2)with h|⟨h,h'⟩
   ·exact .inl (by rw[findD,if_pos h0];exact h)
   ·exact .inr ⟨by rw[findD,if_pos h0];exact h,fun x hx=> .inl hz⟩
  ·have hs:s.size≠0:=fun hz=>h0 (toList_nil.2 hz)
   by_cases hq:(dText d.f0 d.f1 d.f2).toList =s.toList
   ·refine .inl ?_
    rw[findD,if_neg h0,if_pos hq,rd_complete (toList_inj.1 hq) hs]
   ·have hne:dText d.f0 d.f1 d.f2≠s:=fun e=>hq (by rw[e])
    rcases findD_rd s r (fun a b c h1 h2=>by
     rcases hc a b c h1 h2 with hm|hm
     ·rcases List.mem_cons.1 hm with e|hm
      ·exact absurd (by rw[←e];exact h1) hne
      ·exact .inl hm
     ·exact hm.elim)with h|⟨h,h'⟩
    ·exact .inl (by rw[findD,if_neg h0,if_neg hq];exact h)
    ·refine .inr ⟨by rw[findD,if_neg h0,if_neg hq];exact h,fun x hx=>?_⟩
     rcases List.mem_cons.1 hx with rfl|hx
     ·exact .inr hne
     ·exact h' x hx
theorem findD_eq (s:ByteArray) (l:List S55) (hc:∀a b c,dText a b c=s→s.size≠0→(⟨a,b,c⟩:S55)∈l):findD s l=rdVal s:=by
 rcases findD_rd s l (fun a b c h1 h2=> .inl (hc a b c h1 h2))with h|⟨h,h'⟩
 ·exact h
 ·rw[h]
  by_cases ht:(rdVal s).2.2.2=true
  ·obtain⟨a,b,c,e⟩:∃a b c,rdVal s=(a,b,c,true):=⟨(rdVal s).1,(rdVal s).2.1,(rdVal s).2.2.1,by rw[←ht]⟩
   obtain⟨h1,h2⟩:=rd_sound e
   rcases h' _ (hc a b c h1 h2)with hz|hz
   ·exact absurd hz h2
   ·exact absurd h1 hz
  ·exact(rd_false ht).symm
theorem spec_readDeed (s:ByteArray) (hs:s.size<4294967281):Ev (fun k=>spec_ReadDeed.f k s) (rdVal s):=by
 unfold spec_ReadDeed.f
 have hp:=wordsB_pos s
 have s1:(rdOf ByteArray.empty (wordsB s) 1).size ≤s.size:=rdOf_size (s:=s) 1
 have s2:(rdOf ByteArray.empty (wordsB s) 2).size ≤s.size:=rdOf_size (s:=s) 2
 refine Eb (spec_cut s om_) ?_
 simp only[Option.bind_some]
 have hj1:∀l:List S55,l.length≤1000→Ev (fun k=>spec_ReadDeed.j1 k s l) (findD s l):=fun l hl=>by
  refine Es (fun k=>?_) (spec_rL s l hl l 0 rfl)
  simp only[spec_ReadDeed.j1];rfl
 have hmem:∀a b c,dText a b c=s→s.size≠0→((a=2∨a=4)∧b=0∧c=0)∨((a=0∨a=1)∧c=0∧(wordsB s).length =2∧b=dgv (rdOf ByteArray.empty (wordsB s) 1))∨(a=3∧(wordsB s).length =3∧b=dgv (rdOf ByteArray.empty (wordsB s) 1)∧c=dgv (rdOf ByteArray.empty (wordsB s) 2)):=by
  intro a b c h hz
  subst h
  rcases dText_cases a b c hz with⟨rfl,n,m,rfl,rfl,hn,hm,e⟩|⟨rfl,rfl,n,rfl,hn,e⟩|⟨rfl,rfl,n,rfl,hn,e⟩|⟨rfl,rfl,rfl,e⟩|⟨rfl,rfl,rfl,e⟩
  ·have hw:wordsB (dText 3 (n:Int) (m:Int))=[bw [115,101,116],bw (Go.Lib.decDigits n),bw (Go.Lib.decDigits m)]:=by unfold wordsB;rw[e,words3];rfl
   refine .inr (.inr ⟨rfl,by rw[hw];rfl,?_,?_⟩)
   ·rw[hw];exact(dgv_dec n om_).symm
   ·rw[hw];exact(dgv_dec m om_).symm
  ·have hw:wordsB (dText 0 (n:Int) 0)=[bw [116,105,109,101,115],bw (Go.Lib.decDigits n)]:=by unfold wordsB;rw[e,words2 dc_];rfl
   refine .inr (.inl ⟨.inl rfl,rfl,by rw[hw];rfl,?_⟩)
   rw[hw];exact(dgv_dec n om_).symm
  ·have hw:wordsB (dText 1 (n:Int) 0)=[bw [117,110,105,116,97,114,121],bw (Go.Lib.decDigits n)]:=by unfold wordsB;rw[e,words2 dc_];rfl
   refine .inr (.inl ⟨.inr rfl,rfl,by rw[hw];rfl,?_⟩)
   rw[hw];exact(dgv_dec n om_).symm
  ·exact .inl ⟨.inl rfl,rfl,rfl⟩
  ·exact .inl ⟨.inr rfl,rfl,rfl⟩
 by_cases h2:((wordsB s).length :Int)=2
 ·refine Ep h2 (Ep om_ (Eb (spec_digits _ (Nat.le_trans s1 om_)) (Eb (spec_digits _ (Nat.le_trans s1 om_)) ?_)))
  refine Ep (by simp) ?_
  have e:=findD_eq s ([⟨2,0,0⟩,⟨4,0,0⟩]++[⟨0,dgv (rdOf ByteArray.empty (wordsB s) 1),0⟩,⟨1,dgv (rdOf ByteArray.empty (wordsB s) 1),0⟩]) (fun a b c h hz=>by
   rcases hmem a b c h hz with⟨ha,rfl,rfl⟩|⟨ha,rfl,_,rfl⟩|⟨_,h3,_⟩
   ·rcases ha with rfl|rfl <;> simp
   ·rcases ha with rfl|rfl <;> simp
   ·omega)
  rw[←e]
  refine Es (fun k=>?_) (hj1 _ (by simp))
  simp only[spec_ReadDeed.j0]
  rw[if_neg om_]
 ·refine En h2 ?_
  by_cases h3:((wordsB s).length :Int)=3
  ·have e:=findD_eq s ([⟨2,0,0⟩,⟨4,0,0⟩]++[⟨3,dgv (rdOf ByteArray.empty (wordsB s) 1),dgv (rdOf ByteArray.empty (wordsB s) 2)⟩]) (fun a b c h hz=>by
    rcases hmem a b c h hz with⟨ha,rfl,rfl⟩|⟨ha,_,h4,_⟩|⟨rfl,_,rfl,rfl⟩
    ·rcases ha with rfl|rfl <;> simp
    ·omega
    ·simp)
   rw[←e]
   refine Es (f:=fun k=>(spec_l1Digits.f k (rdOf ByteArray.empty (wordsB s) 1)).bind fun t188=>(if 2<((wordsB s).length :Int)then((spec_l1Digits.f k (rdOf ByteArray.empty (wordsB s) 2)).bind fun t190=>(if [(⟨2,0,0⟩:S55),⟨4,0,0⟩].length <5864062014805 then(spec_ReadDeed.j1 k s ([⟨2,0,0⟩,⟨4,0,0⟩]++[(⟨3,t188,t190⟩:S55)]))else none))else none)) (fun k=>?_) (Eb (spec_digits _ (Nat.le_trans s1 om_)) (Ep om_ (Eb (spec_digits _ (Nat.le_trans s2 om_)) (Ep (by simp) (hj1 _ (by simp))))))
   simp only[spec_ReadDeed.j0]
   rw[if_pos h3,if_pos om_]
  ·have e:=findD_eq s [⟨2,0,0⟩,⟨4,0,0⟩] (fun a b c h hz=>by
    rcases hmem a b c h hz with⟨ha,rfl,rfl⟩|⟨ha,_,h4,_⟩|⟨_,h4,_⟩
    ·rcases ha with rfl|rfl <;> simp
    ·omega
    ·omega)
   rw[←e]
   refine Es (fun k=>?_) (hj1 _ (by simp))
   simp only[spec_ReadDeed.j0]
   rw[if_neg h3]
theorem rjV_end {L:List UInt8} {p:Nat} (h:(10:UInt8)∉L.drop p) (d:Nat) (out:List S55):rjV L d out p=(out,(p:Int)):=by
 cases d with
 |zero=>rfl
 |succ d=>rw[rjV,if_neg h]
theorem rjV_more (L:List UInt8):∀(d e p:Nat) (out:List S55),L.length≤p+d→d≤e→rjV L d out p=rjV L e out p:=by
 intro d
 induction d with
 |zero=>intro e p out h1 h2;rw[rjV_end (drop_nil10 om_),rjV_end (drop_nil10 om_)]
 |succ d ih=>
  intro e p out h1 h2
  obtain⟨e,rfl⟩:∃m,e=m+1:=⟨e-1,by omega⟩
  rw[rjV,rjV]
  by_cases hm:(10:UInt8)∈L.drop p
  ·rw[if_pos hm,if_pos hm]
   by_cases hf:(rdVal (bw ((L.drop p).take (Go.Lib.index (L.drop p) [10]).toNat))).2.2.2=true
   ·rw[if_pos hf,if_pos hf]
    exact ih e _ _ om_ om_
   ·rw[if_neg hf,if_neg hf]
  ·rw[if_neg hm,if_neg hm]
theorem spec_jrL (s:ByteArray) (hs2:s.size<4294967281):∀(d i f:Nat) (out:List S55),i+d=s.size→f≤i→out.length≤f→(∀j,f≤j→j<i→s.data.toList[j]? ≠some 10)→
  Ev (fun k=>spec_ReadJournal.l0 k s out (f:Int) (i:Int)) (rjV s.data.toList (s.size+1-f) out f):=by
 intro d
 have hl:s.data.toList.length=s.size:=(size_data s).symm
 induction d with
 |zero=>
  intro i f out h hf ho hn
  have hno:(10:UInt8)∉s.data.toList.drop f:=by
   have:=seg_no hn
   rwa [List.take_of_length_le (by rw[List.length_drop];omega)]at this
  rw[rjV_end hno]
  refine Es (f:=fun _=>some (out,(f:Int))) (fun k=>?_) (Ev.now _)
  simp only[spec_ReadJournal.l0]
  rw[if_neg om_]
 |succ d ih=>
  intro i f out h hf ho hn
  obtain⟨b,hb⟩:∃b,s.data.toList[i]? =some b:=⟨_,List.getElem?_eq_getElem om_⟩
  by_cases hc:b=10
  ·subst hc
   have hsp:=seg_split hf hb
   have hno:=seg_no hn
   have hix:(Go.Lib.index (s.data.toList.drop f) [10]).toNat =i-f:=by
    have hm:(10:UInt8)∈s.data.toList.drop f:=by rw[hsp];simp
    obtain⟨q,h1,h2,h3,h4⟩:=index_some hm
    rw[h1]
    have:q=i-f:=by
     rcases Nat.lt_trichotomy q (i-f)with hq|hq|hq
     ·exfalso
      have g:(s.data.toList.drop f)[q]? =some 10:=by
       rw[h3]
       rw[List.getElem?_append_right (by rw[List.length_take];omega),List.length_take,Nat.min_eq_left om_]
       simp
      rw[List.getElem?_drop]at g
      exact hn (f+q) om_ om_ g
     ·exact hq
     ·exfalso
      apply h4
      rw[List.mem_iff_getElem?]
      refine⟨i-f,?_⟩
      rw[List.getElem?_take,if_pos hq,List.getElem?_drop,show f+(i-f)=i by omega]
      exact hb
    omega
   have hm:(10:UInt8)∈s.data.toList.drop f:=by rw[hsp];simp
   have hx:s.extract ((f:Int).toNat) ((i:Int).toNat)=bw ((s.data.toList.drop f).take (i-f)):=by
    rw[show((f:Int)).toNat =f by omega,show((i:Int)).toNat =i by omega,ext_bw]
   have hsz:(bw ((s.data.toList.drop f).take (i-f))).size =i-f:=by rw[bw_size,List.length_take,List.length_drop];omega
   have hr:=spec_readDeed (bw ((s.data.toList.drop f).take (i-f))) (by rw[hsz];omega)
   obtain⟨m,hmm⟩:∃m,s.size+1-f=m+1:=⟨s.size-f,by omega⟩
   rw[hmm,rjV,if_pos hm,hix]
   by_cases hq:(rdVal (bw ((s.data.toList.drop f).take (i-f)))).2.2.2=true
   ·rw[if_pos hq]
    have hih:=ih (i+1) (i+1) (out++[⟨(rdVal (bw ((s.data.toList.drop f).take (i-f)))).1,(rdVal (bw ((s.data.toList.drop f).take (i-f)))).2.1,(rdVal (bw ((s.data.toList.drop f).take (i-f)))).2.2.1⟩]) om_ (Nat.le_refl _) (by simp;omega) (fun j h1 h2=>by omega)
    rw[show f+(i-f)+1=i+1 by omega]
    rw[rjV_more s.data.toList (s.size+1-(i+1)) m (i+1) _ om_ om_]at hih
    refine Es (f:=fun k=>(spec_ReadDeed.f k (bw ((s.data.toList.drop f).take (i-f)))).bind fun bt200=>(if bt200.2.2.2=true then(if out.length<5864062014805 then(spec_ReadJournal.l0 k s (out++[(⟨bt200.1,bt200.2.1,bt200.2.2.1⟩:S55)]) ((i+1:Nat):Int) ((i+1:Nat):Int))else(none))else(some (out,(f:Int))))) (fun k=>?_) (Eb hr (Ep hq (Ep om_ hih)))
    simp only[spec_ReadJournal.l0]
    rw[if_pos om_,if_pos om_,bt_get hb,if_pos dc_,if_pos om_,if_pos om_,if_pos om_,hx,w64 om_ om_]
    rfl
   ·rw[if_neg hq]
    refine Es (f:=fun k=>(spec_ReadDeed.f k (bw ((s.data.toList.drop f).take (i-f)))).bind fun bt200=>(if bt200.2.2.2=true then(if out.length<5864062014805 then(spec_ReadJournal.l0 k s (out++[(⟨bt200.1,bt200.2.1,bt200.2.2.1⟩:S55)]) (wrap64 ((i:Int)+1)) (wrap64 ((i:Int)+1)))else(none))else(some (out,(f:Int))))) (fun k=>?_) (Eb hr (En hq (Ev.now _)))
    simp only[spec_ReadJournal.l0]
    rw[if_pos om_,if_pos om_,bt_get hb,if_pos dc_,if_pos om_,if_pos om_,if_pos om_,hx]
  ·refine Es (fun k=>?_) (ih (i+1) f out om_ om_ ho (fun j h1 h2=>?_))
   ·simp only[spec_ReadJournal.l0]
    rw[if_pos om_,if_pos om_,bt_get hb,if_neg (fun hz=>hc (UInt8.toNat.inj (by have:(10:UInt8).toNat =10:=rfl;omega))),w64 om_ om_]
    rfl
   ·by_cases hj:j=i
    ·subst hj;rw[hb];exact fun hz=>hc (Option.some.inj hz)
    ·exact hn j h1 om_
theorem spec_readJournal (s:ByteArray) (hs2:s.size<4294967281):Ev (fun k=>spec_ReadJournal.f k s) (rjV s.data.toList (s.size+1) [] 0):=by
 unfold spec_ReadJournal.f
 exact spec_jrL s hs2 s.size 0 0 [] om_ (Nat.le_refl _) (by simp) (fun j h1 h2=>by omega)
theorem rjV_len (L:List UInt8):∀(d p:Nat) (out:List S55),(rjV L d out p).1.length ≤out.length+d
 |0,p,out=>by simp[rjV]
 |d+1,p,out=>by
  rw[rjV]
  split
  ·split
   ·have:=rjV_len L d (p+(Go.Lib.index (L.drop p) [10]).toNat +1) (out++[⟨(rdVal (bw ((L.drop p).take (Go.Lib.index (L.drop p) [10]).toNat))).1,(rdVal (bw ((L.drop p).take (Go.Lib.index (L.drop p) [10]).toNat))).2.1,(rdVal (bw ((L.drop p).take (Go.Lib.index (L.drop p) [10]).toNat))).2.2.1⟩])
    simp only[List.length_append,List.length_singleton]at this
    omega
   ·simp
  ·simp
theorem rjV_mono (L:List UInt8):∀(d p:Nat) (out:List S55),out<+:(rjV L d out p).1
 |0,p,out=>List.prefix_refl _
 |d+1,p,out=>by
  rw[rjV]
  split
  ·split
   ·exact(List.prefix_append _ _).trans (rjV_mono L d _ _)
   ·exact List.prefix_refl _
  ·exact List.prefix_refl _
theorem idx_uniq {l:List UInt8} {i:Nat} (h:l[i]? =some 10) (h2:∀q,q<i→l[q]? ≠some 10):Go.Lib.index l [10]=(i:Int):=by
 obtain⟨j,e1,e2,e3,e4⟩:=index_some (List.mem_of_getElem? h)
 rw[e1]
 have hj:l[j]? =some 10:=by
  rw[e3,List.getElem?_append_right (by rw[List.length_take];omega),List.length_take,Nat.min_eq_left om_]
  simp
 rcases Nat.lt_trichotomy j i with hq|hq|hq
 ·exact absurd hj (h2 j hq)
 ·rw[hq]
 ·exfalso
  apply e4
  rw[List.mem_iff_getElem?]
  exact⟨i,by rw[List.getElem?_take,if_pos hq];exact h⟩
theorem idx_take {l:List UInt8} {m:Nat} (h:(10:UInt8)∈l.take m):Go.Lib.index l [10]=Go.Lib.index (l.take m) [10]∧(Go.Lib.index (l.take m) [10]).toNat <m:=by
 obtain⟨i,e1,e2,e3,e4⟩:=index_some h
 rw[List.length_take]at e2
 have hi:(l.take m)[i]? =some 10:=by
  rw[e3,List.getElem?_append_right (by rw[List.length_take,List.length_take];omega),List.length_take,List.length_take,Nat.min_eq_left om_]
  simp
 refine⟨?_,by omega⟩
 rw[e1]
 refine idx_uniq (by rw[List.getElem?_take,if_pos om_]at hi;exact hi) (fun q hq hz=>e4 ?_)
 rw[List.mem_iff_getElem?]
 exact⟨q,by rw[List.getElem?_take,if_pos hq,List.getElem?_take,if_pos om_];exact hz⟩
theorem rjV_cut (L:List UInt8) (k:Nat) (hk:k≤L.length):∀(d' d p:Nat) (out:List S55),p≤k→L.length≤p+d→(rjV (L.take k) d' out p).1<+:(rjV L d out p).1∧(rjV (L.take k) d' out p).2≤(k:Int)
 |0,d,p,out,hp,_=>⟨rjV_mono L d p out,by show(p:Int)≤k;omega⟩
 |d'+1,d,p,out,hp,hd=>by
  by_cases hm:(10:UInt8)∈(L.take k).drop p
  ·have e0:(L.take k).drop p=(L.drop p).take (k-p):=by rw[List.drop_take]
   rw[e0]at hm
   obtain⟨i1,i2⟩:=idx_take hm
   have hm2:(10:UInt8)∈L.drop p:=List.mem_of_mem_take hm
   have hpl:p<L.length:=by
    have:=List.length_pos_of_mem hm2
    rw[List.length_drop]at this
    omega
   obtain⟨d,rfl⟩:∃m,d=m+1:=⟨d-1,by omega⟩
   have e2:((L.drop p).take (k-p)).take (Go.Lib.index ((L.drop p).take (k-p)) [10]).toNat =(L.drop p).take (Go.Lib.index ((L.drop p).take (k-p)) [10]).toNat :=by
    rw[List.take_take,Nat.min_eq_left om_]
   rw[rjV,rjV,e0,if_pos hm,if_pos hm2,e2,i1]
   by_cases hf:(rdVal (bw ((L.drop p).take (Go.Lib.index ((L.drop p).take (k-p)) [10]).toNat))).2.2.2=true
   ·rw[if_pos hf,if_pos hf]
    exact rjV_cut L k hk d' d _ _ om_ om_
   ·rw[if_neg hf,if_neg hf]
    exact⟨List.prefix_refl _,by show(p:Int)≤k;omega⟩
  ·rw[rjV,if_neg hm]
   exact⟨rjV_mono L d p out,by show(p:Int)≤k;omega⟩
theorem jB_snoc:∀(l:List S55) (x:S55),jB (l++[x])=jB l++((dText x.f0 x.f1 x.f2).data.toList ++[10])
 |[],x=>by simp[jB]
 |y::l,x=>by rw[List.cons_append,jB,jB,jB_snoc l x];simp
theorem rjV_txt (L:List UInt8):∀(d p:Nat) (out:List S55),jB out=L.take p→p≤L.length→(∀x∈out,(dText x.f0 x.f1 x.f2).size ≠0)→∃q:Nat,(rjV L d out p).2=(q:Int)∧q≤L.length∧jB (rjV L d out p).1=L.take q∧∀x∈(rjV L d out p).1,(dText x.f0 x.f1 x.f2).size ≠0
 |0,p,out,h1,h2,h3=>⟨p,rfl,h2,h1,h3⟩
 |d+1,p,out,h1,h2,h3=>by
  by_cases hm:(10:UInt8)∈L.drop p
  ·obtain⟨i,e1,e2,e3,e4⟩:=index_some hm
   have hi:(Go.Lib.index (L.drop p) [10]).toNat =i:=by rw[e1];omega
   rw[List.length_drop]at e2
   rw[rjV,if_pos hm,hi]
   by_cases hf:(rdVal (bw ((L.drop p).take i))).2.2.2=true
   ·rw[if_pos hf]
    obtain⟨s1,s2⟩:=rd_sound (s:=bw ((L.drop p).take i)) (a:=(rdVal (bw ((L.drop p).take i))).1) (b:=(rdVal (bw ((L.drop p).take i))).2.1) (c:=(rdVal (bw ((L.drop p).take i))).2.2.1) (by rw[←hf])
    refine rjV_txt L d _ _ ?_ om_ (fun x hx=>?_)
    ·rw[jB_snoc,h1]
     show L.take p++((dText (rdVal (bw ((L.drop p).take i))).1 (rdVal (bw ((L.drop p).take i))).2.1 (rdVal (bw ((L.drop p).take i))).2.2.1).data.toList ++[10])=_
     rw[s1,data_bw]
     have hg:(L.drop p)[i]? =some 10:=by
      rw[e3,List.getElem?_append_right (by rw[List.length_take,List.length_drop];omega),List.length_take,List.length_drop,Nat.min_eq_left om_]
      simp
     rw[show p+i+1=p+(i+1)by omega,List.take_add,List.take_add_one,hg]
     rfl
    ·rcases List.mem_append.1 hx with hx|hx
     ·exact h3 x hx
     ·obtain rfl:=List.mem_singleton.1 hx
      show(dText (rdVal (bw ((L.drop p).take i))).1 (rdVal (bw ((L.drop p).take i))).2.1 (rdVal (bw ((L.drop p).take i))).2.2.1).size ≠0
      rw[s1];exact s2
   ·rw[if_neg hf];exact⟨p,rfl,h2,h1,h3⟩
  ·rw[rjV,if_neg hm];exact⟨p,rfl,h2,h1,h3⟩
def spoilL:List ByteArray:=[(⟨#[]⟩:ByteArray),(⟨#[48]⟩:ByteArray),(⟨#[32]⟩:ByteArray),(⟨#[10]⟩:ByteArray),(⟨#[45]⟩:ByteArray),(⟨#[98,97,99,107]⟩:ByteArray)]
theorem spoil_ev {bs:List Int} (hb:Bytes bs) (hl:bs.length≤2000) {p:Int} (h0:0≤p) (h1:p≤700000) (s:ByteArray) (hs:s.size≤100000000):∃t q,t.size≤s.size+4∧Ev (fun k=>spec_l20Spoil.f k bs p s) (t,q):=by
 unfold spec_l20Spoil.f
 by_cases hz:(s.size:Int)=0
 ·exact⟨_,_,by show(1:Nat)≤_;omega,Ep hz (Ev.now _)⟩
 ·obtain⟨r1,a1,b1,c1⟩:=pick_ev hb hl h0 om_ (by omega:(1:Int)≤(s.size:Int))
  obtain⟨r2,a2,b2,c2⟩:=pick_ev hb hl (by omega:0≤p+1) om_ (by omega:(1:Int)≤6)
  have hx:(rdOf ByteArray.empty spoilL r2).size ≤4:=by
   have:r2=0∨r2=1∨r2=2∨r2=3∨r2=4∨r2=5:=by omega
   rcases this with rfl|rfl|rfl|rfl|rfl|rfl <;> decide
  have e1:(s.extract 0 (r1:Int).toNat).size ≤r1.toNat:=by rw[ByteArray.size_extract];omega
  have e2:(s.extract (wrap64 (r1+1):Int).toNat s.size).size ≤s.size-r1.toNat:=by rw[ByteArray.size_extract,w64 om_ om_];omega
  refine⟨_,_,?_,En hz (Eb c1 (Ep a1 (Ep om_ (Ec rfl (Eb c2 (Ep a2 (Ep (by simp;omega) (Ep (by show(s.extract 0 (r1:Int).toNat).size +(rdOf ByteArray.empty spoilL r2).size ≤9223372036854775807;omega) (Ep (by rw[w64 om_ om_];omega) (Ep (by rw[w64 om_ om_];omega) (Ep (by show((s.extract 0 (r1:Int).toNat)++(rdOf ByteArray.empty spoilL r2)).size +(s.extract (wrap64 (r1+1):Int).toNat s.size).size ≤9223372036854775807;rw[ByteArray.size_append];omega) (Ev.now _))))))))))))⟩
  show(((s.extract 0 (r1:Int).toNat)++(rdOf ByteArray.empty spoilL r2))++(s.extract (wrap64 (r1+1):Int).toNat s.size)).size ≤s.size+4
  rw[ByteArray.size_append,ByteArray.size_append]
  omega
theorem spec_rowL (row:List Int) (hl:row.length≤1000000000):∀f i,i+f=row.length→Ev (fun k=>spec_RowOk.l0 k row (i:Int)) (allF (r1 row) f i&&((row.length:Int)==24)):=by
 intro f
 induction f with
 |zero=>
  intro i h
  refine Es (fun k=>?_) (Ev.now _)
  simp only[spec_RowOk.l0]
  rw[if_neg om_]
  simp[allF]
 |succ f ih=>
  intro i h
  by_cases e: -1000000000≤row.getD i 0∧row.getD i 0≤1000000000
  ·have ih:=ih (i+1) om_
   have ek:r1 row i=true:=decide_eq_true e
   simp only[allF,ek,Bool.true_and]
   refine Es (fun k=>?_) ih
   simp only[spec_RowOk.l0,rdn,l1In_eq,Option.bind_some]
   rw[if_pos om_,if_pos om_,decide_eq_true e,if_pos rfl,w64 om_ om_]
   rfl
  ·have ek:r1 row i=false:=decide_eq_false e
   simp only[allF,ek,Bool.false_and]
   refine Es (fun k=>?_) (Ev.now _)
   simp only[spec_RowOk.l0,rdn,l1In_eq,Option.bind_some]
   rw[if_pos om_,if_pos om_,decide_eq_false e,if_neg (by simp)]
theorem spec_rowOk (row:List Int) (hl:row.length≤1000000000):Ev (fun k=>spec_RowOk.f k row) (rowB row):=spec_rowL row hl row.length 0 om_
def s1 (row:List Int) (i:Nat):Bool:=decide (-10000≤row.getD i 0∧row.getD i 0≤10000)
def smallB (row:List Int):Bool:=allF (s1 row) row.length 0&&((row.length:Int)==24)
theorem impl_smallL (row:List Int) (hl:row.length≤1000000000):∀f i,i+f=row.length→Ev (fun k=>impl_within.l0 k row 10000 row (row.length:Int) (i:Int)) (allF (s1 row) f i&&((row.length:Int)==24)):=by
 intro f
 induction f with
 |zero=>
  intro i h
  refine Es (fun k=>?_) (Ev.now _)
  simp only[impl_within.l0]
  rw[if_neg om_]
  simp[allF]
 |succ f ih=>
  intro i h
  have ew:wrap64 (-10000)= -10000:=by decide+kernel
  by_cases e: -10000≤row.getD i 0∧row.getD i 0≤10000
  ·have ih:=ih (i+1) om_
   have ek:s1 row i=true:=decide_eq_true e
   simp only[allF,ek,Bool.true_and]
   refine Es (fun k=>?_) ih
   simp only[impl_within.l0,rdn,ew]
   rw[if_pos om_,if_pos om_,if_pos om_,if_neg om_,if_neg om_,w64 om_ om_]
   rfl
  ·have ek:s1 row i=false:=decide_eq_false e
   simp only[allF,ek,Bool.false_and]
   refine Es (fun k=>?_) (Ev.now _)
   simp only[impl_within.l0,rdn,ew]
   rw[if_pos om_,if_pos om_,if_pos om_]
   by_cases e2:row.getD i 0< -10000
   ·rw[if_pos e2]
   ·rw[if_neg e2,if_pos om_]
theorem impl_small (row:List Int) (hl:row.length≤1000000000):Ev (fun k=>impl_small.f k row) (smallB row):=by
 have h:Ev (fun k=>impl_within.f k row 10000) (smallB row):=impl_smallL row hl row.length 0 om_
 unfold impl_small.f
 exact Eb h (Ev.now _)
theorem small_len {row:List Int} (h:smallB row=true):row.length=24:=by
 unfold smallB at h
 simp only[Bool.and_eq_true,beq_iff_eq]at h
 omega
theorem small_at {row:List Int} (h:smallB row=true) (i:Nat): -10000≤row.getD i 0∧row.getD i 0≤10000:=by
 have hl:=small_len h
 unfold smallB at h
 simp only[Bool.and_eq_true]at h
 by_cases hi:i<row.length
 ·exact of_decide_eq_true (allF_at _ _ _ h.1 i om_ om_)
 ·rw[List.getD_eq_getElem?_getD,List.getElem?_eq_none om_]
  simp
theorem allF_of (p:Nat→Bool):∀f i,(∀j,i≤j→j<i+f→p j=true)→allF p f i=true:=by
 intro f
 induction f with
 |zero=>intro i _;rfl
 |succ f ih=>
  intro i h
  simp only[allF,h i om_ om_,ih (i+1) (fun j h1 h2=>h j om_ om_),Bool.and_self]
theorem small_row {row:List Int} (h:smallB row=true):rowB row=true:=by
 have hl:=small_len h
 unfold rowB
 simp only[Bool.and_eq_true,beq_iff_eq]
 refine⟨allF_of _ _ _ (fun j _ _=>?_),by omega⟩
 have:=small_at h j
 unfold r1
 simp only[decide_eq_true_eq]
 omega
set_option maxRecDepth 100000
theorem len24 {f:List Int} (h:f.length=24):∃a1 a2 a3 a4 a5 a6 a7 a8 a9 a10 a11 a12 a13 a14 a15 a16 a17 a18 a19 a20 a21 a22 a23 a24:Int,f=[a1,a2,a3,a4,a5,a6,a7,a8,a9,a10,a11,a12,a13,a14,a15,a16,a17,a18,a19,a20,a21,a22,a23,a24]:=by
 match f,h with
 |[a1,a2,a3,a4,a5,a6,a7,a8,a9,a10,a11,a12,a13,a14,a15,a16,a17,a18,a19,a20,a21,a22,a23,a24],_=>exact⟨a1,a2,a3,a4,a5,a6,a7,a8,a9,a10,a11,a12,a13,a14,a15,a16,a17,a18,a19,a20,a21,a22,a23,a24,rfl⟩
def DN (n:Nat):List Nat:=(List.range (n+1)).filter (fun d=>decide (1≤d)&&n%d==0)
def PT:List (List (Nat×Nat)):=(List.range 24).map (fun i=>(DN (i+1)).map (fun d=>(d-1,(i+1) / d-1)))
def PU:List (List (Nat×Nat)):=(List.range 24).map (fun i=>((DN (i+1)).filter (fun d=>Nat.gcd d ((i+1) / d)==1)).map (fun d=>(d-1,(i+1) / d-1)))
def addI (f g:List Int) (z:Int) (p:Nat×Nat):Int:=wrap64 (z+wrap64 (f.getD p.1 0*g.getD p.2 0))
def allI (P:List (List (Nat×Nat))) (f g:List Int):List Int:=P.map (fun l=>l.foldl (addI f g) 0)
theorem tsame (a1 a2 a3 a4 a5 a6 a7 a8 a9 a10 a11 a12 a13 a14 a15 a16 a17 a18 a19 a20 a21 a22 a23 a24 b1 b2 b3 b4 b5 b6 b7 b8 b9 b10 b11 b12 b13 b14 b15 b16 b17 b18 b19 b20 b21 b22 b23 b24:Int):spec_l2Times.f 300 [a1,a2,a3,a4,a5,a6,a7,a8,a9,a10,a11,a12,a13,a14,a15,a16,a17,a18,a19,a20,a21,a22,a23,a24] [b1,b2,b3,b4,b5,b6,b7,b8,b9,b10,b11,b12,b13,b14,b15,b16,b17,b18,b19,b20,b21,b22,b23,b24]=impl_rowBy_TimesOf.l0 100 [a1,a2,a3,a4,a5,a6,a7,a8,a9,a10,a11,a12,a13,a14,a15,a16,a17,a18,a19,a20,a21,a22,a23,a24] [b1,b2,b3,b4,b5,b6,b7,b8,b9,b10,b11,b12,b13,b14,b15,b16,b17,b18,b19,b20,b21,b22,b23,b24] (List.replicate (24:Int).toNat 0) 0:=by kernel_rfl
theorem tform (a1 a2 a3 a4 a5 a6 a7 a8 a9 a10 a11 a12 a13 a14 a15 a16 a17 a18 a19 a20 a21 a22 a23 a24 b1 b2 b3 b4 b5 b6 b7 b8 b9 b10 b11 b12 b13 b14 b15 b16 b17 b18 b19 b20 b21 b22 b23 b24:Int):spec_l2Times.f 300 [a1,a2,a3,a4,a5,a6,a7,a8,a9,a10,a11,a12,a13,a14,a15,a16,a17,a18,a19,a20,a21,a22,a23,a24] [b1,b2,b3,b4,b5,b6,b7,b8,b9,b10,b11,b12,b13,b14,b15,b16,b17,b18,b19,b20,b21,b22,b23,b24]=some (allI PT [a1,a2,a3,a4,a5,a6,a7,a8,a9,a10,a11,a12,a13,a14,a15,a16,a17,a18,a19,a20,a21,a22,a23,a24] [b1,b2,b3,b4,b5,b6,b7,b8,b9,b10,b11,b12,b13,b14,b15,b16,b17,b18,b19,b20,b21,b22,b23,b24]):=by kernel_rfl
theorem times_row {f g:List Int} (hf:f.length=24) (hg:g.length=24):Ev (fun k=>spec_l2Times.f k f g) (allI PT f g)∧Ev (fun k=>impl_rowBy_TimesOf.l0 k f g (List.replicate (24:Int).toNat 0) 0) (allI PT f g):=by
 have h1:spec_l2Times.f 300 f g=some (allI PT f g):=by
  obtain⟨a1,a2,a3,a4,a5,a6,a7,a8,a9,a10,a11,a12,a13,a14,a15,a16,a17,a18,a19,a20,a21,a22,a23,a24,rfl⟩:=len24 hf
  obtain⟨b1,b2,b3,b4,b5,b6,b7,b8,b9,b10,b11,b12,b13,b14,b15,b16,b17,b18,b19,b20,b21,b22,b23,b24,rfl⟩:=len24 hg
  exact tform ..
 have h2:spec_l2Times.f 300 f g=impl_rowBy_TimesOf.l0 100 f g (List.replicate (24:Int).toNat 0) 0:=by
  obtain⟨a1,a2,a3,a4,a5,a6,a7,a8,a9,a10,a11,a12,a13,a14,a15,a16,a17,a18,a19,a20,a21,a22,a23,a24,rfl⟩:=len24 hf
  obtain⟨b1,b2,b3,b4,b5,b6,b7,b8,b9,b10,b11,b12,b13,b14,b15,b16,b17,b18,b19,b20,b21,b22,b23,b24,rfl⟩:=len24 hg
  exact tsame ..
 exact⟨Ev.of (spec_l2Times.mono _ _) h1,Ev.of (fun k=>impl_rowBy_TimesOf.mono_l k _ _ _ _) (h2▸h1)⟩
theorem usame (a1 a2 a3 a4 a5 a6 a7 a8 a9 a10 a11 a12 a13 a14 a15 a16 a17 a18 a19 a20 a21 a22 a23 a24 b1 b2 b3 b4 b5 b6 b7 b8 b9 b10 b11 b12 b13 b14 b15 b16 b17 b18 b19 b20 b21 b22 b23 b24:Int):spec_UnitaryTimes.l0 2000 [a1,a2,a3,a4,a5,a6,a7,a8,a9,a10,a11,a12,a13,a14,a15,a16,a17,a18,a19,a20,a21,a22,a23,a24] [b1,b2,b3,b4,b5,b6,b7,b8,b9,b10,b11,b12,b13,b14,b15,b16,b17,b18,b19,b20,b21,b22,b23,b24] true [] 1=(impl_rowBy_UnitaryTimes.l0 200 [a1,a2,a3,a4,a5,a6,a7,a8,a9,a10,a11,a12,a13,a14,a15,a16,a17,a18,a19,a20,a21,a22,a23,a24] [b1,b2,b3,b4,b5,b6,b7,b8,b9,b10,b11,b12,b13,b14,b15,b16,b17,b18,b19,b20,b21,b22,b23,b24] (List.replicate (24:Int).toNat 0) 0).bind fun t=>some (t,true):=by kernel_rfl
theorem uform (a1 a2 a3 a4 a5 a6 a7 a8 a9 a10 a11 a12 a13 a14 a15 a16 a17 a18 a19 a20 a21 a22 a23 a24 b1 b2 b3 b4 b5 b6 b7 b8 b9 b10 b11 b12 b13 b14 b15 b16 b17 b18 b19 b20 b21 b22 b23 b24:Int):impl_rowBy_UnitaryTimes.l0 200 [a1,a2,a3,a4,a5,a6,a7,a8,a9,a10,a11,a12,a13,a14,a15,a16,a17,a18,a19,a20,a21,a22,a23,a24] [b1,b2,b3,b4,b5,b6,b7,b8,b9,b10,b11,b12,b13,b14,b15,b16,b17,b18,b19,b20,b21,b22,b23,b24] (List.replicate (24:Int).toNat 0) 0=some (allI PU [a1,a2,a3,a4,a5,a6,a7,a8,a9,a10,a11,a12,a13,a14,a15,a16,a17,a18,a19,a20,a21,a22,a23,a24] [b1,b2,b3,b4,b5,b6,b7,b8,b9,b10,b11,b12,b13,b14,b15,b16,b17,b18,b19,b20,b21,b22,b23,b24]):=by kernel_rfl
theorem unitary_row {f g:List Int} (hf:f.length=24) (hg:g.length=24):Ev (fun k=>spec_UnitaryTimes.l0 k f g true [] 1) (allI PU f g,true)∧Ev (fun k=>impl_rowBy_UnitaryTimes.l0 k f g (List.replicate (24:Int).toNat 0) 0) (allI PU f g):=by
 have h1:impl_rowBy_UnitaryTimes.l0 200 f g (List.replicate (24:Int).toNat 0) 0=some (allI PU f g):=by
  obtain⟨a1,a2,a3,a4,a5,a6,a7,a8,a9,a10,a11,a12,a13,a14,a15,a16,a17,a18,a19,a20,a21,a22,a23,a24,rfl⟩:=len24 hf
  obtain⟨b1,b2,b3,b4,b5,b6,b7,b8,b9,b10,b11,b12,b13,b14,b15,b16,b17,b18,b19,b20,b21,b22,b23,b24,rfl⟩:=len24 hg
  exact uform ..
 have h2:spec_UnitaryTimes.l0 2000 f g true [] 1=(impl_rowBy_UnitaryTimes.l0 200 f g (List.replicate (24:Int).toNat 0) 0).bind fun t=>some (t,true):=by
  obtain⟨a1,a2,a3,a4,a5,a6,a7,a8,a9,a10,a11,a12,a13,a14,a15,a16,a17,a18,a19,a20,a21,a22,a23,a24,rfl⟩:=len24 hf
  obtain⟨b1,b2,b3,b4,b5,b6,b7,b8,b9,b10,b11,b12,b13,b14,b15,b16,b17,b18,b19,b20,b21,b22,b23,b24,rfl⟩:=len24 hg
  exact usame ..
 rw[h1]at h2
 exact⟨Ev.of (fun k=>(spec_UnitaryTimes.mono_l k).1 _ _ _ _ _) h2,Ev.of (fun k=>impl_rowBy_UnitaryTimes.mono_l k _ _ _ _) h1⟩
def SmallR (f:List Int):Prop:=∀i, -10000≤f.getD i 0∧f.getD i 0≤10000
theorem mul_small {x y:Int} (h1: -10000≤x) (h2:x≤10000) (h3: -10000≤y) (h4:y≤10000): -100000000≤x*y∧x*y≤100000000:=by
 have a1:0≤(10000-x)*(10000-y):=Int.mul_nonneg om_ om_
 have a2:0≤(10000+x)*(10000+y):=Int.mul_nonneg om_ om_
 have a3:0≤(10000-x)*(10000+y):=Int.mul_nonneg om_ om_
 have a4:0≤(10000+x)*(10000-y):=Int.mul_nonneg om_ om_
 have e1:(10000-x)*(10000-y)=100000000-10000*y-10000*x+x*y:=by
  rw[Int.sub_mul,Int.mul_sub,Int.mul_sub];omega
 have e2:(10000+x)*(10000+y)=100000000+10000*y+10000*x+x*y:=by
  rw[Int.add_mul,Int.mul_add,Int.mul_add];omega
 have e3:(10000-x)*(10000+y)=100000000+10000*y-10000*x-x*y:=by
  rw[Int.sub_mul,Int.mul_add,Int.mul_add];omega
 have e4:(10000+x)*(10000-y)=100000000-10000*y+10000*x-x*y:=by
  rw[Int.add_mul,Int.mul_sub,Int.mul_sub];omega
 omega
theorem addI_sum {f g:List Int} (hf:SmallR f) (hg:SmallR g):∀(l:List (Nat×Nat)) (z:Int), -1000000000≤z→z≤1000000000→l.length≤100→l.foldl (addI f g) z=z+(l.map (fun p=>f.getD p.1 0*g.getD p.2 0)).sum ∧z-100000000*l.length≤l.foldl (addI f g) z∧l.foldl (addI f g) z≤z+100000000*l.length:=by
 suffices H:∀(l:List (Nat×Nat)) (z:Int), -100000000000+100000000*l.length≤z→z≤100000000000-100000000*l.length→l.foldl (addI f g) z=z+(l.map (fun p=>f.getD p.1 0*g.getD p.2 0)).sum ∧z-100000000*l.length≤l.foldl (addI f g) z∧l.foldl (addI f g) z≤z+100000000*l.length from fun l z h1 h2 h3=>H l z om_ om_
 intro l
 induction l with
 |nil=>intro z h1 h2;simp
 |cons p l ih=>
  intro z h1 h2
  rw[List.length_cons]at h1 h2
  obtain⟨m1,m2⟩:=mul_small (hf p.1).1 (hf p.1).2 (hg p.2).1 (hg p.2).2
  have ea:addI f g z p=z+f.getD p.1 0*g.getD p.2 0:=by
   unfold addI
   rw[w64 (n:=f.getD p.1 0*g.getD p.2 0) om_ om_]
   generalize f.getD p.1 0*g.getD p.2 0=q at*
   exact w64 om_ om_
  obtain⟨i1,i2,i3⟩:=ih (z+f.getD p.1 0*g.getD p.2 0) om_ om_
  rw[List.foldl_cons,ea,List.map_cons,List.sum_cons,List.length_cons]
  generalize (l.map (fun p=>f.getD p.1 0*g.getD p.2 0)).sum =s at*
  generalize f.getD p.1 0*g.getD p.2 0=q at*
  generalize l.foldl (addI f g) (z+q)=y at*
  refine⟨by omega,by omega,by omega⟩
theorem allI_len (P:List (List (Nat×Nat))) (f g:List Int):(allI P f g).length =P.length:=List.length_map ..
theorem allI_at {f g:List Int} (hf:SmallR f) (hg:SmallR g) (P:List (List (Nat×Nat))) (hP:∀l∈P,l.length≤8) (i:Nat): -800000000≤(allI P f g).getD i 0∧(allI P f g).getD i 0≤800000000:=by
 unfold allI
 rw[List.getD_eq_getElem?_getD,List.getElem?_map]
 cases h:P[i]? with
 |none=>simp
 |some l=>
  have h8:=hP l (List.mem_of_getElem? h)
  obtain⟨_,h2,h3⟩:=addI_sum hf hg l 0 om_ om_ om_
  simp only[Option.map_some,Option.getD_some]
  omega
theorem PT_8:∀l∈PT,l.length≤8:=by
 have h:PT.all (fun l=>decide (l.length≤8))=true:=by decide+kernel
 exact fun l hl=>of_decide_eq_true (List.all_eq_true.1 h l hl)
theorem PU_8:∀l∈PU,l.length≤8:=by
 have h:PU.all (fun l=>decide (l.length≤8))=true:=by decide+kernel
 exact fun l hl=>of_decide_eq_true (List.all_eq_true.1 h l hl)
theorem sp_tl (f g:List Int) (hf:f.length=24) (hg:g.length=24) {t:List Int} (ht:Ev (fun k=>spec_l2Times.f k f g) t):∀n i:Nat,i+n=24→Ev (fun k=>spec_TimesOf.l0 k f g (i:Int)) (cond (allF (fun i=>s1 f i&&s1 g i) n i) (t,true) ([],false)):=by
 intro n
 induction n with
 |zero=>
  intro i h
  refine Ev.up ?_
  simp only[spec_TimesOf.l0,allF]
  exact En om_ (Eb ht (Ev.now _))
 |succ n ih=>
  intro i h
  have ih:=ih (i+1) om_
  have e3:wrap64 ((i:Int)+1)=((i+1:Nat):Int):=w64 om_ om_
  simp only[allF]
  by_cases c1: -10000≤f.getD i 0∧f.getD i 0≤10000
  ·by_cases c2: -10000≤g.getD i 0∧g.getD i 0≤10000
   ·rw[show s1 f i=true from decide_eq_true c1,show s1 g i=true from decide_eq_true c2]
    simp only[Bool.true_and]
    refine Ev.up ?_
    simp only[spec_TimesOf.l0,l1In_eq,rdn,e3]
    clear e3
    exact Ep om_ (Ep om_ (Ep om_ (Ec rfl (Ep (decide_eq_true c1) (Ep om_ (Ec rfl (Ep (decide_eq_true c2) ih)))))))
   ·rw[show s1 g i=false from decide_eq_false c2]
    simp only[Bool.and_false,Bool.false_and,cond_false]
    refine Ev.up ?_
    simp only[spec_TimesOf.l0,l1In_eq,rdn,e3]
    clear e3
    exact Ep om_ (Ep om_ (Ep om_ (Ec rfl (Ep (decide_eq_true c1) (Ep om_ (Ec rfl (En (fun h=>c2 (of_decide_eq_true h)) (Ev.now _))))))))
  ·rw[show s1 f i=false from decide_eq_false c1]
   simp only[Bool.false_and,cond_false]
   refine Ev.up ?_
   simp only[spec_TimesOf.l0,l1In_eq,rdn,e3]
   clear e3
   exact Ep om_ (Ep om_ (Ep om_ (Ec rfl (En (fun h=>c1 (of_decide_eq_true h)) (Ev.now _)))))
theorem small_and {f g:List Int} (hf:f.length=24) (hg:g.length=24):allF (fun i=>s1 f i&&s1 g i) 24 0=(smallB f&&smallB g):=by
 rw[allF_and]
 unfold smallB
 rw[hf,hg]
 simp
theorem times_both (f g:List Int) (hf:f.length≤1000000) (hg:g.length≤1000000):
  (smallB f=true∧smallB g=true∧Ev (fun k=>spec_TimesOf.f k f g) (allI PT f g,true)∧Ev (fun k=>impl_TimesOf.f k f g) (allI PT f g,true))∨
  ((smallB f&&smallB g)=false∧Ev (fun k=>spec_TimesOf.f k f g) ([],false)∧Ev (fun k=>impl_TimesOf.f k f g) ([],false)):=by
 have ef:=impl_small f om_
 have eg:=impl_small g om_
 have rf:=spec_rowOk f om_
 have rg:=spec_rowOk g om_
 have j1:Ev (fun k=>spec_TimesOf.j0 k f g true) ([],false):=by
  refine Ev.up ?_
  simp only[spec_TimesOf.j0]
  exact Ep trivial (Ev.now _)
 cases sf:smallB f with
 |true=>
  have lf:=small_len sf
  rw[sf]at ef
  rw[small_row sf]at rf
  cases sg:smallB g with
  |true=>
   have lg:=small_len sg
   rw[sg]at eg
   rw[small_row sg]at rg
   obtain⟨h1,h3⟩:=times_row lf lg
   refine .inl ⟨rfl,rfl,?_,?_⟩
   ·unfold spec_TimesOf.f
    have h:=sp_tl f g lf lg h1 24 0 om_
    rw[small_and lf lg,sf,sg]at h
    refine Eb rf (Ep rfl (Eb rg (Ev.up ?_)))
    simp only[spec_TimesOf.j0]
    exact En (by simp) h
   ·unfold impl_TimesOf.f
    exact Eb ef (Ep rfl (Eb eg (Ep rfl (Eb h3 (Ev.now _)))))
  |false=>
   rw[sg]at eg
   refine .inr ⟨rfl,?_,?_⟩
   ·unfold spec_TimesOf.f
    cases hg2:rowB g with
    |false=>
     rw[hg2]at rg
     exact Eb rf (Ep rfl (Eb rg j1))
    |true=>
     rw[hg2]at rg
     have lg:=rowB_len hg2
     obtain⟨h1,h3⟩:=times_row lf lg
     have h:=sp_tl f g lf lg h1 24 0 om_
     rw[small_and lf lg,sf,sg]at h
     refine Eb rf (Ep rfl (Eb rg (Ev.up ?_)))
     simp only[spec_TimesOf.j0]
     exact En (by simp) h
   ·unfold impl_TimesOf.f
    exact Eb ef (Ep rfl (Eb eg (En (by simp) (Ev.now _))))
 |false=>
  rw[sf]at ef
  refine .inr ⟨rfl,?_,?_⟩
  ·unfold spec_TimesOf.f
   cases hf2:rowB f with
   |false=>
    rw[hf2]at rf
    exact Eb rf (En (by simp) j1)
   |true=>
    rw[hf2]at rf
    cases hg2:rowB g with
    |false=>
     rw[hg2]at rg
     exact Eb rf (Ep rfl (Eb rg j1))
    |true=>
     rw[hg2]at rg
     have lf:=rowB_len hf2
     have lg:=rowB_len hg2
     obtain⟨h1,h3⟩:=times_row lf lg
     have h:=sp_tl f g lf lg h1 24 0 om_
     rw[small_and lf lg,sf]at h
     refine Eb rf (Ep rfl (Eb rg (Ev.up ?_)))
     simp only[spec_TimesOf.j0]
     exact En (by simp) h
  ·unfold impl_TimesOf.f
   exact Eb ef (En (by simp) (Ev.now _))
theorem unitary_both (f g:List Int) (hf:f.length≤1000000) (hg:g.length≤1000000):
  (smallB f=true∧smallB g=true∧Ev (fun k=>spec_UnitaryTimes.f k f g) (allI PU f g,true)∧Ev (fun k=>impl_UnitaryTimes.f k f g) (allI PU f g,true))∨
  ((smallB f&&smallB g)=false∧Ev (fun k=>spec_UnitaryTimes.f k f g) ([],false)∧Ev (fun k=>impl_UnitaryTimes.f k f g) ([],false)):=by
 have ef:=impl_small f om_
 have eg:=impl_small g om_
 rcases times_both f g hf hg with⟨sf,sg,h1,_⟩|⟨s,h1,_⟩
 ·obtain⟨u1,u2⟩:=unitary_row (small_len sf) (small_len sg)
  rw[sf]at ef
  rw[sg]at eg
  refine .inl ⟨sf,sg,?_,?_⟩
  ·unfold spec_UnitaryTimes.f
   exact Eb h1 u1
  ·unfold impl_UnitaryTimes.f
   exact Eb ef (Ep rfl (Eb eg (Ep rfl (Eb u2 (Ev.now _)))))
 ·refine .inr ⟨s,?_,?_⟩
  ·unfold spec_UnitaryTimes.f
   refine Eb h1 (Ev.up ?_)
   simp only[spec_UnitaryTimes.l0]
   refine Ep dc_ (Ev.up ?_)
   simp only[spec_UnitaryTimes.j1]
   exact En (by simp) (Ev.now _)
  ·unfold impl_UnitaryTimes.f
   cases sf:smallB f with
   |false=>
    rw[sf]at ef
    exact Eb ef (En (by simp) (Ev.now _))
   |true=>
    rw[sf]at ef s
    rw[Bool.true_and]at s
    rw[s]at eg
    exact Eb ef (Ep rfl (Eb eg (En (by simp) (Ev.now _))))
def row0:List Int:=[1,0,0,0,0,0,0,0,0,0,0,0,0,0,0,0,0,0,0,0,0,0,0,0]
theorem namedB_all:(List.range 8).all (fun n=>match spec_NamedRow.f 200 (n:Int),impl_NamedRow.f 300 (n:Int)with|some r,some q=>r.length==24&&r==q|_,_=>false)=true:=by decide+kernel
def ones:List Int:=[1,1,1,1,1,1,1,1,1,1,1,1,1,1,1,1,1,1,1,1,1,1,1,1]
theorem named1:impl_NamedRow.f 300 1=some ones:=by decide+kernel
theorem named0:spec_NamedRow.f 200 0=some row0:=by decide+kernel
theorem named_both (t:Int):∃r,(r.length=24∨r=[])∧(t=0→r=row0)∧(t=1→r=ones)∧Ev (fun k=>spec_NamedRow.f k t) r∧Ev (fun k=>impl_NamedRow.f k t) r:=by
 by_cases h:0≤t∧t≤7
 ·have h1:=List.all_eq_true.1 namedB_all t.toNat (List.mem_range.2 om_)
  rw[Int.toNat_of_nonneg h.1]at h1
  split at h1
  ·rename_i r q hr hq
   simp only[Bool.and_eq_true,beq_iff_eq]at h1
   obtain⟨h2,rfl⟩:=h1
   refine⟨r,.inl h2,fun h0=>?_,fun h0=>?_,Ev.of (spec_NamedRow.mono t) hr,Ev.of (impl_NamedRow.mono t) hq⟩
   ·subst h0
    exact Option.some.inj (hr.symm.trans named0)
   ·subst h0
    exact Option.some.inj (hq.symm.trans named1)
  ·cases h1
 ·refine⟨[],.inr rfl,fun h0=>by omega,fun h0=>by omega,?_,?_⟩
  ·unfold spec_NamedRow.f
   refine Ev.up ?_
   simp only[spec_NamedRow.l0,l1In_eq,decide_eq_false h]
   exact Ep dc_ (Ec rfl (En (by simp) (Ev.now _)))
  ·unfold impl_NamedRow.f
   by_cases h0:t<0
   ·exact Ep h0 (Ev.now _)
   ·exact En h0 (Ep om_ (Ev.now _))
theorem impl_rowL (row:List Int) (hl:row.length≤1000000000):∀f i,i+f=row.length→Ev (fun k=>impl_within.l0 k row 1000000000 row (row.length:Int) (i:Int)) (allF (r1 row) f i&&((row.length:Int)==24)):=by
 intro f
 induction f with
 |zero=>
  intro i h
  refine Es (fun k=>?_) (Ev.now _)
  simp only[impl_within.l0]
  rw[if_neg om_]
  simp[allF]
 |succ f ih=>
  intro i h
  have ew:wrap64 (-1000000000)= -1000000000:=by decide+kernel
  by_cases e: -1000000000≤row.getD i 0∧row.getD i 0≤1000000000
  ·have ih:=ih (i+1) om_
   have ek:r1 row i=true:=decide_eq_true e
   simp only[allF,ek,Bool.true_and]
   refine Es (fun k=>?_) ih
   simp only[impl_within.l0,rdn,ew]
   rw[if_pos om_,if_pos om_,if_pos om_,if_neg om_,if_neg om_,w64 om_ om_]
   rfl
  ·have ek:r1 row i=false:=decide_eq_false e
   simp only[allF,ek,Bool.false_and]
   refine Es (fun k=>?_) (Ev.now _)
   simp only[impl_within.l0,rdn,ew]
   rw[if_pos om_,if_pos om_,if_pos om_]
   by_cases e2:row.getD i 0< -1000000000
   ·rw[if_pos e2]
   ·rw[if_neg e2,if_pos om_]
theorem impl_rowOk (row:List Int) (hl:row.length≤1000000000):Ev (fun k=>impl_RowOk.f k row) (rowB row):=by
 have h:Ev (fun k=>impl_within.f k row 1000000000) (rowB row):=impl_rowL row hl row.length 0 om_
 unfold impl_RowOk.f
 exact Eb h (Ev.now _)
def subI (g x:List Int) (z:Int) (p:Nat×Nat):Int:=wrap64 (z-wrap64 (g.getD p.1 0*x.getD p.2 0))
theorem subI_comm (g x:List Int) (z:Int) (p q:Nat×Nat):subI g x (subI g x z p) q=subI g x (subI g x z q) p:=by
 unfold subI
 generalize wrap64 (g.getD p.1 0*x.getD p.2 0)=a
 generalize wrap64 (g.getD q.1 0*x.getD q.2 0)=b
 unfold wrap64
 omega
theorem subI_out (g x:List Int):∀(l:List (Nat×Nat)) (z:Int) (p:Nat×Nat),subI g x (l.foldl (subI g x) z) p=l.foldl (subI g x) (subI g x z p)
 |[],_,_=>rfl
 |q::l,z,p=>by
  rw[List.foldl_cons,List.foldl_cons,subI_out g x l _ p,subI_comm]
theorem subI_rev (g x:List Int):∀(l:List (Nat×Nat)) (z:Int),l.reverse.foldl (subI g x) z=l.foldl (subI g x) z
 |[],_=>rfl
 |q::l,z=>by
  rw[List.reverse_cons,List.foldl_append,subI_rev g x l z,List.foldl_cons,List.foldl_nil,List.foldl_cons,subI_out]
def ps (n:Nat):Nat→Nat→List (Nat×Nat)
 |0,_=>[]
 |m+1,d=>if n%d=0 then(d-1,n / d-1)::ps n m (d+1)else ps n m (d+1)
def pin (n:Nat) (s:List Nat):List (Nat×Nat):=(s.filter (fun d=>decide (d<n))).map (fun d=>(n / d-1,d-1))
def nzs (t:List Nat):List Int:=t.map (fun d:Nat=>(d:Int))
theorem nzs_len (t:List Nat):(nzs t).length =t.length:=List.length_map ..
theorem dn_all:(List.range 24).all (fun i=>(pin (i+1) (DN (i+1))==(ps (i+1) i 2).reverse)&&(impl_divisors.f 100 ((i+1:Nat):Int)==some (nzs (DN (i+1)))))=true:=by decide+kernel
theorem sp_l1 (f g x:List Int) (hg:g.length=24) (hx:x.length=24) (n:Nat) (h2:n≤24):∀m d:Nat,1≤d→d+m=n+1→∀(z:Int) (r:List Int),Ev (fun k=>spec_l3Divided.l1 k f g x (n:Int) ((ps n m d).foldl (subI g x) z) ((n+1:Nat):Int)) r→Ev (fun k=>spec_l3Divided.l1 k f g x (n:Int) z (d:Int)) r:=by
 intro m
 induction m with
 |zero=>
  intro d hd h z r he
  have e:d=n+1:=by omega
  subst e
  exact he
 |succ m ih=>
  intro d hd h z r he
  have e1:wrap64 ((d:Int)+1)=((d+1:Nat):Int):=w64 om_ om_
  refine Ev.up ?_
  by_cases hr0:n%d=0
  ·simp only[ps,if_pos hr0,List.foldl_cons]at he
   obtain⟨q,hq⟩:∃q:Nat,q=n / d:=⟨_,rfl⟩
   have hq1:1≤q:=by rw[hq];exact(Nat.le_div_iff_mul_le om_).2 om_
   have hq2:q≤n:=by rw[hq];exact Nat.div_le_self _ _
   have es:wrap64 ((d:Int)-1)=((d-1:Nat):Int)∧wrap64 (q:Int)=(q:Int)∧wrap64 ((q:Int)-1)=((q-1:Nat):Int):=⟨by rw[w64 om_ om_];omega,w64 om_ om_,by rw[w64 om_ om_];omega⟩
   have ed:Int.tdiv (n:Int) (d:Int)=(q:Int):=by rw[hq];exact tdiv_nat n d
   have em:Int.tmod (n:Int) (d:Int)=0:=by rw[tmod_nat,hr0];rfl
   rw[←hq]at he
   have h3:=ih (d+1) om_ om_ _ r he
   simp only[spec_l3Divided.l1,ed,em,es.1,es.2.1,es.2.2,e1,rdn]
   clear es ed em hq hr0 e1 he
   exact Ep om_ (En om_ (Ep trivial (Ep om_ (Ep om_ (Ep om_ (Ep om_ h3))))))
  ·simp only[ps,if_neg hr0]at he
   have em:¬Int.tmod (n:Int) (d:Int)=0:=by rw[tmod_nat];exact fun h=>hr0 (by exact_mod_cast h)
   have h3:=ih (d+1) om_ om_ z r he
   simp only[spec_l3Divided.l1,e1]
   clear e1 hr0 he
   exact Ep om_ (En om_ (En em h3))
theorem im_l1 (f g x:List Int) (hg:g.length=24) (hx:x.length=24) (n:Nat) (h2:n≤24) (t:List Nat) (ht:∀d∈t,1≤d∧d≤n) (hl:t.length≤100):∀(s:List Nat) (i:Nat),t.drop i=s→∀(z:Int) (r:List Int×Bool),Ev (fun k=>impl_DividedOf.l1 k f g x (n:Int) ((pin n s).foldl (subI g x) z) (nzs t) ((nzs t).length :Int) (t.length:Int)) r→Ev (fun k=>impl_DividedOf.l1 k f g x (n:Int) z (nzs t) ((nzs t).length :Int) (i:Int)) r:=by
 intro s
 induction s with
 |nil=>
  intro i hs z r he
  have hi:t.length≤i:=by have:=congrArg List.length hs;rw[List.length_drop,List.length_nil]at this;omega
  refine Ev.up ?_
  obtain⟨K,he⟩:=he
  refine⟨K,fun k hk=>?_⟩
  have h1:=he (k+1) om_
  simp only[impl_DividedOf.l1,nzs_len,pin,List.filter_nil,List.map_nil,List.foldl_nil]at h1 ⊢
  rw[if_neg om_]at h1
  rw[if_neg om_]
  exact h1
 |cons d s ih=>
  intro i hs z r he
  obtain⟨hi,hid,hs2⟩:=drop_at hs
  obtain⟨d1,d2⟩:=ht d (List.mem_of_getElem? hid)
  have e1:wrap64 ((i:Int)+1)=((i+1:Nat):Int):=w64 om_ om_
  have er:rd (nzs t) (i:Int)=(d:Int):=by
   unfold nzs
   rw[rdn,List.getD_eq_getElem?_getD,List.getElem?_map,hid]
   rfl
  refine Ev.up ?_
  by_cases hd:d<n
  ·have hp:pin n (d::s)=(n / d-1,d-1)::pin n s:=by
    unfold pin
    rw[List.filter_cons_of_pos (by simpa using hd),List.map_cons]
   rw[hp,List.foldl_cons]at he
   obtain⟨q,hq⟩:∃q:Nat,q=n / d:=⟨_,rfl⟩
   have hq1:1≤q:=by rw[hq];exact(Nat.le_div_iff_mul_le om_).2 om_
   have hq2:q≤n:=by rw[hq];exact Nat.div_le_self _ _
   have es:wrap64 ((d:Int)-1)=((d-1:Nat):Int)∧wrap64 (q:Int)=(q:Int)∧wrap64 ((q:Int)-1)=((q-1:Nat):Int):=⟨by rw[w64 om_ om_];omega,w64 om_ om_,by rw[w64 om_ om_];omega⟩
   have ed:Int.tdiv (n:Int) (d:Int)=(q:Int):=by rw[hq];exact tdiv_nat n d
   rw[←hq]at he
   have h3:=ih (i+1) hs2 _ r he
   unfold subI at h3
   simp only[]at h3
   rw[Int.mul_comm (g.getD (q-1) 0)]at h3
   simp only[impl_DividedOf.l1,er,ed,es.1,es.2.1,es.2.2,e1]
   simp only[rdn]
   clear es ed hq e1 er he hp
   exact Ep (by rw[nzs_len];omega) (Ep om_ (Ep (by rw[nzs_len];omega) (Ep om_ (Ep om_ (Ep om_ (En om_ (Ep om_ (Ep om_ h3))))))))
  ·have hp:pin n (d::s)=pin n s:=by
    unfold pin
    rw[List.filter_cons_of_neg (by simpa using hd)]
   rw[hp]at he
   have h3:=ih (i+1) hs2 z r he
   simp only[impl_DividedOf.l1,er,e1]
   clear e1 er he hp
   exact Ep (by rw[nzs_len];omega) (Ep om_ (Ep (by rw[nzs_len];omega) (En om_ h3)))
theorem rowB_set {x y:List Int} {n:Nat} {v:Int} (h:rowB x=true) (hy:y=x.set (n-1) v) (hz: -1000000000≤rd y ((n-1:Nat):Int)∧rd y ((n-1:Nat):Int)≤1000000000):rowB y=true:=by
 have hl:=rowB_len h
 have hyl:y.length=24:=by rw[hy,List.length_set];exact hl
 unfold rowB at h ⊢
 simp only[Bool.and_eq_true,beq_iff_eq]at h ⊢
 refine⟨allF_of _ _ _ (fun j _ hj=>?_),by omega⟩
 have h1:=of_decide_eq_true (allF_at _ _ _ h.1 j om_ om_)
 rw[rdn]at hz
 unfold r1
 refine decide_eq_true ?_
 by_cases e:j=n-1
 ·subst e;exact hz
 ·have:y.getD j 0=x.getD j 0:=by rw[hy,List.getD_eq_getElem?_getD,List.getD_eq_getElem?_getD,List.getElem?_set_ne om_]
  rw[this];exact h1
theorem rowB_zero:rowB (List.replicate 24 0)=true:=by decide
theorem inv_both (f g:List Int) (hf:f.length=24) (hg:g.length=24):∀m n:Nat,1≤n→n+m=25→∀x:List Int,rowB x=true→∃r b,(b=true→rowB r=true)∧(b=false→r=[])∧Ev (fun k=>spec_l3Divided.l0 k f g x (n:Int)) r∧Ev (fun k=>impl_DividedOf.l0 k f g x (n:Int)) (r,b):=by
 intro m
 induction m with
 |zero=>
  intro n h1 h x hx
  refine⟨x,true,fun _=>hx,nofun,Ev.up ?_,Ev.up ?_⟩
  ·simp only[spec_l3Divided.l0]
   exact En om_ (Ev.now _)
  ·simp only[impl_DividedOf.l0]
   exact En om_ (Ev.now _)
 |succ m ih=>
  intro n h1 h x hxr
  have hx:=rowB_len hxr
  have hall:=List.all_eq_true.1 dn_all (n-1) (List.mem_range.2 om_)
  rw[show n-1+1=n by omega]at hall
  simp only[Bool.and_eq_true,beq_iff_eq]at hall
  obtain⟨hp,hd⟩:=hall
  have hdv:Ev (fun k=>impl_divisors.f k (n:Int)) (nzs (DN n)):=Ev.of (impl_divisors.mono _) hd
  have hmem:∀d∈DN n,1≤d∧d≤n:=fun d hd=>by
   unfold DN at hd
   simp only[List.mem_filter,List.mem_range,Bool.and_eq_true,decide_eq_true_eq]at hd
   omega
  have hlen:(DN n).length ≤100:=by
   have:=List.length_filter_le (fun d=>decide (1≤d)&&n%d==0) (List.range (n+1))
   rw[List.length_range]at this
   unfold DN
   omega
  have e0:wrap64 ((n:Int)-1)=((n-1:Nat):Int):=by rw[w64 om_ om_];omega
  have e1:wrap64 ((n:Int)+1)=((n+1:Nat):Int):=w64 om_ om_
  have hfold:(pin n (DN n)).foldl (subI g x) (f.getD (n-1) 0)=(ps n (n-1) 2).foldl (subI g x) (f.getD (n-1) 0):=by rw[hp,subI_rev]
  obtain⟨v,hv⟩:∃v,v=(ps n (n-1) 2).foldl (subI g x) (f.getD (n-1) 0):=⟨_,rfl⟩
  obtain⟨y,hy⟩:∃y:List Int,y=x.set (n-1) (wrap64 (v*rd g 0)):=⟨_,rfl⟩
  have hyl:y.length=24:=by rw[hy,List.length_set];exact hx
  have hsp:∀r,Ev (fun k=>(spec_l1In.f (rd y ((n-1:Nat):Int)) (-1000000000) 1000000000).bind fun t=>(if t=true then spec_l3Divided.l0 k f g y ((n+1:Nat):Int)else some [])) r→Ev (fun k=>spec_l3Divided.l0 k f g x (n:Int)) r:=by
   intro r hr
   refine Ev.up ?_
   simp only[spec_l3Divided.l0,e0,rdn]
   refine Ep om_ (Ep om_ (Ep om_ ?_))
   refine sp_l1 f g x hg hx n om_ (n-1) 2 om_ om_ _ r ?_
   rw[←hv]
   refine Ev.up ?_
   simp only[spec_l3Divided.l1,e0,e1,Int.toNat_natCast,←hy]
   clear e0 e1 hv hy hfold hp hd hdv
   exact En om_ (Ep om_ (Ep om_ (Ep om_ (Ec rfl hr))))
  have him:∀r,Ev (fun k=>(if(rd y ((n-1:Nat):Int))<(-1000000000)then(some (([]:List Int),false))else(if(rd y ((n-1:Nat):Int))>1000000000 then(some (([]:List Int),false))else(impl_DividedOf.l0 k f g y ((n+1:Nat):Int))))) r→Ev (fun k=>impl_DividedOf.l0 k f g x (n:Int)) r:=by
   intro r hr
   refine Ev.up ?_
   simp only[impl_DividedOf.l0,e0,rdn]
   refine Ep om_ (Ep om_ (Ep om_ (Eb hdv ?_)))
   refine im_l1 f g x hg hx n om_ (DN n) hmem hlen (DN n) 0 rfl _ r ?_
   rw[hfold,←hv]
   refine Ev.up ?_
   simp only[impl_DividedOf.l1,e0,e1,Int.toNat_natCast,←hy,nzs_len]
   clear e0 e1 hv hy hfold hp hd hdv
   exact En om_ (Ep om_ (Ep om_ (Ep om_ (Ec rfl hr))))
  by_cases hz: -1000000000≤rd y ((n-1:Nat):Int)∧rd y ((n-1:Nat):Int)≤1000000000
  ·obtain⟨r,b,a1,a2,a3,a4⟩:=ih (n+1) om_ om_ y (rowB_set hxr hy hz)
   refine⟨r,b,a1,a2,hsp r ?_,him (r,b) ?_⟩
   ·simp only[l1In_eq]
    exact Ec rfl (Ep (decide_eq_true hz) a3)
   ·exact En om_ (En om_ a4)
  ·refine⟨[],false,nofun,fun _=>rfl,hsp [] ?_,him ([],false) ?_⟩
   ·simp only[l1In_eq]
    exact Ec rfl (En (fun h=>hz (of_decide_eq_true h)) (Ev.now _))
   ·by_cases h3:rd y ((n-1:Nat):Int)< -1000000000
    ·exact Ep h3 (Ev.now _)
    ·exact En h3 (Ep om_ (Ev.now _))
def unitB (g:List Int):Bool:=rowB g&&(g.getD 0 0==1 || g.getD 0 0== -1)
theorem unit_some {g:List Int} (h:rowB g=true):(if 0<(g.length:Int)then(if(rd g 0)=1 then(some true)else(some ((rd g 0)==(-1))))else(none))=some (g.getD 0 0==1 || g.getD 0 0== -1):=by
 have hl:=rowB_len h
 have e:rd g 0=g.getD 0 0:=rdn g 0
 rw[if_pos om_,e]
 by_cases c:g.getD 0 0=1
 ·rw[if_pos c,c];rfl
 ·rw[if_neg c,show(g.getD 0 0==1)=false from beq_eq_false_iff_ne.2 c,Bool.false_or]
theorem sp_unitOk (g:List Int) (hg:g.length≤1000000):Ev (fun k=>spec_UnitOk.f k g) (unitB g):=by
 have h:=spec_rowOk g om_
 unfold spec_UnitOk.f unitB
 cases hr:rowB g with
 |false=>rw[hr]at h;exact Eb h (En (by simp) (Ev.now _))
 |true=>rw[hr]at h;exact Eb h (Ep rfl (Ev.const (unit_some hr)))
theorem im_unitOk (g:List Int) (hg:g.length≤1000000):Ev (fun k=>impl_UnitOk.f k g) (unitB g):=by
 have h:=impl_rowOk g om_
 unfold impl_UnitOk.f unitB
 cases hr:rowB g with
 |false=>rw[hr]at h;exact Eb h (En (by simp) (Ev.now _))
 |true=>rw[hr]at h;exact Eb h (Ep rfl (Ev.const (unit_some hr)))
theorem divided_both (f g:List Int) (hf:f.length≤1000000) (hg:g.length≤1000000):∃r b,(b=true→rowB r=true)∧Ev (fun k=>spec_DividedOf.f k f g) (r,b)∧Ev (fun k=>impl_DividedOf.f k f g) (r,b):=by
 have su:=sp_unitOk g hg
 have iu:=im_unitOk g hg
 have ig:=impl_small g om_
 have ifs:=impl_small f om_
 have jt:Ev (fun k=>impl_DividedOf.j0 k f g true) ([],false):=by
  refine Ev.up ?_
  simp only[impl_DividedOf.j0]
  exact Ep trivial (Ev.now _)
 rcases times_both g f hg hf with⟨sg,sf,h1,_⟩|⟨hs,h1,_⟩
 ·rw[sg]at ig
  rw[sf]at ifs
  cases u:unitB g with
  |false=>
   rw[u]at su iu
   refine⟨[],false,nofun,?_,?_⟩
   ·unfold spec_DividedOf.f
    exact Eb h1 (Ep rfl (Eb su (En (by simp) (Ev.now _))))
   ·unfold impl_DividedOf.f
    exact Eb iu (En (by simp) jt)
  |true=>
   rw[u]at su iu
   obtain⟨q,b,a1,a2,a3,a4⟩:=inv_both f g (small_len sf) (small_len sg) 24 1 om_ om_ (List.replicate 24 0) rowB_zero
   refine⟨q,b,a1,?_,?_⟩
   ·unfold spec_DividedOf.f
    have hd:Ev (fun k=>spec_l3Divided.f k f g) q:=by
     unfold spec_l3Divided.f
     exact Ep om_ a3
    have eb:((q.length:Int)==24)=b:=by
     cases b with
     |true=>rw[rowB_len (a1 rfl)];rfl
     |false=>rw[a2 rfl];rfl
    have e2:=Eb (f:=fun _ t=>some (t,((t.length:Int)==24))) hd (Ev.now _)
    rw[eb]at e2
    exact Eb h1 (Ep rfl (Eb su (Ep rfl e2)))
   ·unfold impl_DividedOf.f
    refine Eb iu (Ep rfl (Eb ig (Ep rfl (Eb ifs (Ev.up ?_)))))
    simp only[impl_DividedOf.j0]
    exact En (by simp) (Ep om_ a4)
 ·refine⟨[],false,nofun,?_,?_⟩
  ·unfold spec_DividedOf.f
   exact Eb h1 (En (by simp) (Ev.now _))
  ·unfold impl_DividedOf.f
   refine Eb iu ?_
   cases unitB g with
   |false=>exact En (by simp) jt
   |true=>
    refine Ep rfl (Eb ig ?_)
    cases sg:smallB g with
    |false=>exact En (by simp) jt
    |true=>
     rw[sg,Bool.true_and]at hs
     rw[hs]at ifs
     exact Ep rfl (Eb ifs jt)
theorem inverse_both (f:List Int) (hf:f.length≤1000000):∃r b,(b=true→rowB r=true)∧Ev (fun k=>spec_InverseOf.f k f) (r,b)∧Ev (fun k=>impl_InverseOf.f k f) (r,b):=by
 obtain⟨e,_,h0,_,he1,he2⟩:=named_both 0
 have hl:e.length≤1000000:=by rw[h0 rfl];simp[row0]
 obtain⟨r,b,hb,hd1,hd2⟩:=divided_both e f hl hf
 refine⟨r,b,hb,?_,?_⟩
 ·unfold spec_InverseOf.f
  exact Eb he1 (Eb hd1 (Ev.now _))
 ·unfold impl_InverseOf.f
  exact Eb he2 (Eb hd2 (Ev.now _))
theorem rdL (l:List (List Int)) (i:Nat):rd_L1 l (i:Int)=l.getD i []:=by unfold rd_L1;rw[Int.toNat_natCast]
theorem getD_len {l:List (List Int)} {m:Nat} (h:∀x∈l,x.length≤m) (i:Nat):(l.getD i []).length ≤m:=by
 by_cases hi:i<l.length
 ·rw[List.getD_eq_getElem?_getD,List.getElem?_eq_getElem hi]
  exact h _ (List.getElem_mem _)
 ·rw[List.getD_eq_getElem?_getD,List.getElem?_eq_none om_]
  exact Nat.zero_le _
theorem impl_deskL (now:List Int) (past:List (List Int)) (h1:now.length≤1000000000) (h2:past.length≤1000000000) (h3:∀x∈past,x.length≤1000000000):∀f i,i+f=past.length→Ev (fun k=>impl_DeskOk.l0 k past (past.length:Int) (i:Int) now past) (allF (fun i=>rowB (past.getD i [])) f i&&(rowB now&&decide ((past.length:Int)≤8))):=by
 intro f
 induction f with
 |zero=>
  intro i h
  simp only[allF,Bool.true_and]
  refine Es (f:=fun k=>(impl_RowOk.f k now).bind fun t139=>(if t139=true then(some (decide ((past.length:Int)≤8)))else(some false))) (fun k=>?_) (Eb (impl_rowOk now h1) ?_)
  ·simp only[impl_DeskOk.l0]
   rw[if_neg om_]
  ·cases rowB now
   ·exact En (by simp) (Ev.now _)
   ·rw[Bool.true_and]
    exact Ep rfl (Ev.now _)
 |succ f ih=>
  intro i h
  refine Es (f:=fun k=>(impl_RowOk.f k (past.getD i [])).bind fun t138=>(if t138=true then(impl_DeskOk.l0 k past (past.length:Int) (wrap64 ((i:Int)+1)) now past)else(some false))) (fun k=>?_) (Eb (impl_rowOk _ (getD_len h3 i)) ?_)
  ·simp only[impl_DeskOk.l0,rdL]
   rw[if_pos om_,if_pos om_,if_pos om_]
  ·simp only[allF]
   cases rowB (past.getD i [])
   ·simp only[Bool.false_and]
    exact En (by simp) (Ev.now _)
   ·rw[Bool.true_and,w64 om_ om_]
    exact Ep rfl (ih (i+1) om_)
theorem impl_desk (now:List Int) (past:List (List Int)) (h1:now.length≤1000000000) (h2:past.length≤1000000000) (h3:∀x∈past,x.length≤1000000000):Ev (fun k=>impl_DeskOk.f k now past) (deskB now past):=
 impl_deskL now past h1 h2 h3 past.length 0 om_
theorem spec_deskL (now:List Int) (past:List (List Int)) (h1:now.length≤1000000000) (h2:past.length≤1000000000) (h3:∀x∈past,x.length≤1000000000):∀f i,i+f=past.length→Ev (fun k=>spec_DeskOk.l0 k (i:Int) now past) (allF (fun i=>rowB (past.getD i [])) f i&&(rowB now&&decide ((past.length:Int)≤8))):=by
 intro f
 induction f with
 |zero=>
  intro i h
  simp only[allF,Bool.true_and]
  refine Es (f:=fun k=>(spec_RowOk.f k now).bind fun t139=>(if t139=true then(some (decide ((past.length:Int)≤8)))else(some false))) (fun k=>?_) (Eb (spec_rowOk now h1) ?_)
  ·simp only[spec_DeskOk.l0]
   rw[if_neg om_]
  ·cases rowB now
   ·exact En (by simp) (Ev.now _)
   ·rw[Bool.true_and]
    exact Ep rfl (Ev.now _)
 |succ f ih=>
  intro i h
  refine Es (f:=fun k=>(spec_RowOk.f k (past.getD i [])).bind fun t138=>(if t138=true then(spec_DeskOk.l0 k (wrap64 ((i:Int)+1)) now past)else(some false))) (fun k=>?_) (Eb (spec_rowOk _ (getD_len h3 i)) ?_)
  ·simp only[spec_DeskOk.l0,rdL]
   rw[if_pos om_,if_pos om_]
  ·simp only[allF]
   cases rowB (past.getD i [])
   ·simp only[Bool.false_and]
    exact En (by simp) (Ev.now _)
   ·rw[Bool.true_and,w64 om_ om_]
    exact Ep rfl (ih (i+1) om_)
theorem spec_desk (now:List Int) (past:List (List Int)) (h1:now.length≤1000000000) (h2:past.length≤1000000000) (h3:∀x∈past,x.length≤1000000000):Ev (fun k=>spec_DeskOk.f k now past) (deskB now past):=
 spec_deskL now past h1 h2 h3 past.length 0 om_
theorem sp_copyL (now:List Int) (past:List (List Int)) (h2:past.length≤1000000) (h3:∀x∈past,x.length≤1000000):∀m i:Nat,i+m=past.length→∀acc:List (List Int),acc.length=i→Ev (fun k=>spec_l12Copy.l0 k (i:Int) now past now acc) (now,acc++past.drop i):=by
 intro m
 induction m with
 |zero=>
  intro i h acc ha
  refine Ev.up ?_
  simp only[spec_l12Copy.l0]
  rw[List.drop_eq_nil_of_le om_,List.append_nil]
  exact En om_ (Ev.now _)
 |succ m ih=>
  intro i h acc ha
  have hi:i<past.length:=by omega
  have e:=ih (i+1) om_ (acc++[past.getD i []]) (by simp;omega)
  have ed:acc++[past.getD i []]++past.drop (i+1)=acc++past.drop i:=by
   rw[List.append_assoc,List.drop_eq_getElem_cons hi,List.getD_eq_getElem?_getD,List.getElem?_eq_getElem hi]
   rfl
  rw[ed]at e
  have hl:=getD_len h3 i
  refine Ev.up ?_
  have e1:wrap64 ((i:Int)+1)=((i+1:Nat):Int):=w64 om_ om_
  simp only[spec_l12Copy.l0,rdL,e1]
  clear e1
  exact Ep om_ (Ec rfl (Ep om_ (Ep (by simp only[List.length_nil];omega) (Ep om_ e))))
theorem sp_copy (now:List Int) (past:List (List Int)) (h1:now.length≤1000000) (h2:past.length≤1000000) (h3:∀x∈past,x.length≤1000000):Ev (fun k=>spec_l12Copy.f k now past) (now,past):=by
 unfold spec_l12Copy.f
 exact Ec rfl (Ep (by simp only[List.length_nil];omega) (sp_copyL now past h2 h3 past.length 0 om_ [] rfl))
def Sz (now:List Int) (past:List (List Int)):Prop:=now.length≤24∧past.length≤9∧∀x∈past,x.length≤24
theorem drop_get {f:List Int} {i:Nat} (h:i<f.length):f.drop i=f.getD i 0::f.drop (i+1):=by
 rw[List.drop_eq_getElem_cons h,List.getD_eq_getElem?_getD,List.getElem?_eq_getElem h]
 rfl
theorem same_dec (f g:List Int) (hf:f.length=24) (hg:g.length=24):∀m i:Nat,i+m=24→Ev (fun k=>spec_l12Same.l0 k f g (i:Int)) (decide (f.drop i=g.drop i)):=by
 intro m
 induction m with
 |zero=>
  intro i h
  rw[List.drop_eq_nil_of_le om_,List.drop_eq_nil_of_le om_,decide_eq_true rfl]
  refine Ev.up ?_
  simp only[spec_l12Same.l0]
  exact En om_ (Ev.now _)
 |succ m ih=>
  intro i h
  rw[drop_get (f:=f) om_,drop_get (f:=g) om_]
  refine Ev.up ?_
  have e1:wrap64 ((i:Int)+1)=((i+1:Nat):Int):=w64 om_ om_
  have ih:=ih (i+1) om_
  simp only[spec_l12Same.l0,e1,rdn,List.cons.injEq]
  clear e1
  refine Ep om_ (Ep om_ (Ep om_ (Ep om_ ?_)))
  by_cases c:f.getD i 0=g.getD i 0
  ·refine Ep c ?_
   simp only[c,true_and]
   exact ih
  ·refine En c ?_
   simp only[c,false_and,decide_false]
   exact Ev.now _
theorem same_ev (f g:List Int) (hf:f.length=24) (hg:g.length=24):Ev (fun k=>spec_l12Same.f k f g) (decide (f=g)):=same_dec f g hf hg 24 0 om_
theorem equal_dec (f g:List Int) (hl:f.length≤1000000) (hg:f.length=g.length):∀m i:Nat,i+m=f.length→Ev (fun k=>slices_Equal_int_int.l0 k f g (f.length:Int) (i:Int)) (decide (f.drop i=g.drop i)):=by
 intro m
 induction m with
 |zero=>
  intro i h
  rw[List.drop_eq_nil_of_le om_,List.drop_eq_nil_of_le om_,decide_eq_true rfl]
  refine Ev.up ?_
  simp only[slices_Equal_int_int.l0]
  exact En om_ (Ev.now _)
 |succ m ih=>
  intro i h
  rw[drop_get (f:=f) om_,drop_get (f:=g) om_]
  refine Ev.up ?_
  have e1:wrap64 ((i:Int)+1)=((i+1:Nat):Int):=w64 om_ om_
  have ih:=ih (i+1) om_
  simp only[slices_Equal_int_int.l0,e1,rdn,List.cons.injEq]
  clear e1
  refine Ep om_ (Ep om_ (Ep om_ (Ep om_ ?_)))
  by_cases c:f.getD i 0=g.getD i 0
  ·refine Ep c ?_
   simp only[c,true_and]
   exact ih
  ·refine En c ?_
   simp only[c,false_and,decide_false]
   exact Ev.now _
theorem equal_ev (f g:List Int) (hl:f.length≤1000000):Ev (fun k=>slices_Equal_int_int.f k f g) (decide (f=g)):=by
 unfold slices_Equal_int_int.f
 by_cases h:f.length=g.length
 ·exact Ep om_ (equal_dec f g hl h f.length 0 om_)
 ·rw[decide_eq_false (fun e=>h (by rw[e]))]
  exact En om_ (Ev.now _)
theorem clone_ev {f:List Int} (h:0<f.length) (h2:f.length≤1000000):Ev (fun k=>slices_Clone_int_int.f k f) f:=by
 unfold slices_Clone_int_int.f
 exact Ep h (Ep om_ (Ev.now _))
def Full (past:List (List Int)):Prop:=past.length≤1000000∧∀x∈past,0<x.length∧x.length≤1000000
theorem im_copyL (now:List Int) (past:List (List Int)) (h:Full past):∀m i:Nat,i+m=past.length→∀acc:List (List Int),acc.length=i→Ev (fun k=>impl_copyDesk.l0 k past (past.length:Int) (i:Int) now acc) (now,acc++past.drop i):=by
 obtain⟨h2,h3⟩:=h
 intro m
 induction m with
 |zero=>
  intro i h acc ha
  refine Ev.up ?_
  simp only[impl_copyDesk.l0]
  rw[List.drop_eq_nil_of_le om_,List.append_nil]
  exact En om_ (Ev.now _)
 |succ m ih=>
  intro i h acc ha
  have hi:i<past.length:=by omega
  have e:=ih (i+1) om_ (acc++[past.getD i []]) (by simp;omega)
  have ed:acc++[past.getD i []]++past.drop (i+1)=acc++past.drop i:=by
   rw[List.append_assoc,List.drop_eq_getElem_cons hi,List.getD_eq_getElem?_getD,List.getElem?_eq_getElem hi]
   rfl
  rw[ed]at e
  have hm:past.getD i []∈past:=by
   rw[List.getD_eq_getElem?_getD,List.getElem?_eq_getElem hi]
   exact List.getElem_mem _
  obtain⟨g1,g2⟩:=h3 _ hm
  refine Ev.up ?_
  have e1:wrap64 ((i:Int)+1)=((i+1:Nat):Int):=w64 om_ om_
  simp only[impl_copyDesk.l0,rdL,e1]
  clear e1
  exact Ep om_ (Ep om_ (Ep om_ (Eb (clone_ev g1 g2) (Ep om_ e))))
theorem im_copy (now:List Int) (past:List (List Int)) (h1:0<now.length) (h2:now.length≤1000000) (h:Full past):Ev (fun k=>impl_copyDesk.f k now past) (now,past):=by
 unfold impl_copyDesk.f
 exact Eb (clone_ev h1 h2) (im_copyL now past h past.length 0 om_ [] rfl)
def trimP (past:List (List Int)) (now:List Int):List (List Int):=if((past++[now]).length :Int)>8 then(past++[now]).drop 1 else past++[now]
def fin (now:List Int) (past:List (List Int)) (r:List Int) (o:Bool):List Int×List (List Int)×Bool:=if o=true∧r≠now then(r,trimP past now,true)else(now,past,false)
theorem im_j2 (now:List Int) (past:List (List Int)) (r:List Int) (h1:0<now.length) (h2:now.length≤1000000) (h:Full past) (hp:past.length≤8) (hr:0<r.length) (hr2:r.length≤1000000):Ev (fun k=>impl_DeskDo.j2 k r false now past) (r,trimP past now,true):=by
 have hF:Full (past++[now]):=⟨by simp;omega,fun x hx=>by
  rcases List.mem_append.1 hx with h3|h3
  ·exact h.2 x h3
  ·rw[List.mem_singleton.1 h3];exact⟨h1,h2⟩⟩
 refine Ev.up ?_
 simp only[impl_DeskDo.j2]
 refine En (by simp) (Ep om_ (Ec rfl ?_))
 unfold trimP
 by_cases c:((past++[now]).length :Int)>8
 ·have hF2:Full ((past++[now]).drop 1):=⟨by rw[List.length_drop];have:=hF.1;omega,fun x hx=>hF.2 x (List.mem_of_mem_drop hx)⟩
  rw[if_pos c]
  exact Ep c (Ep om_ (Eb (im_copy r _ hr hr2 hF2) (Ev.now _)))
 ·rw[if_neg c]
  exact En c (Eb (im_copy r _ hr hr2 hF) (Ev.now _))
theorem im_j1 (now:List Int) (past:List (List Int)) (r:List Int) (o:Bool) (h1:now.length=24) (h:Full past) (hp:past.length≤8) (hr:o=true→r.length=24):Ev (fun k=>impl_DeskDo.j1 k r o now past now past) (fin now past r o):=by
 have jt:Ev (fun k=>impl_DeskDo.j2 k r true now past) (now,past,false):=by
  refine Ev.up ?_
  simp only[impl_DeskDo.j2]
  exact Ep trivial (Ev.now _)
 refine Ev.up ?_
 simp only[impl_DeskDo.j1]
 unfold fin
 cases o with
 |false=>
  rw[if_neg (by simp)]
  exact En (by simp) jt
 |true=>
  have hl:=hr rfl
  have he:=equal_ev r now om_
  refine Ep rfl (Eb he ?_)
  by_cases c:r=now
  ·rw[if_neg (by simp[c])]
   rw[decide_eq_true c]
   exact jt
  ·rw[if_pos ⟨rfl,c⟩,decide_eq_false c]
   exact im_j2 now past r om_ om_ h hp om_ om_
theorem sp_j1 (now:List Int) (past:List (List Int)) (r:List Int) (h:past.length≤8):Ev (fun k=>spec_DeskDo.j1 k r false now past) (r,trimP past now,true):=by
 refine Ev.up ?_
 simp only[spec_DeskDo.j1]
 refine En (by simp) (Ep om_ (Ec rfl ?_))
 by_cases c:((past++[now]).length :Int)>8
 ·rw[show trimP past now=(past++[now]).drop 1 from if_pos c]
  exact Ep c (Ep om_ (Ev.now _))
 ·rw[show trimP past now=past++[now]from if_neg c]
  exact En c (Ev.now _)
theorem sp_j0 (now:List Int) (past:List (List Int)) (a b c:Int) (r:List Int) (o:Bool) (h1:now.length=24) (hp:past.length≤8) (hr:o=true→r.length=24) (hm:Ev (fun k=>spec_l12Made.f k now a b c) (r,o)):Ev (fun k=>spec_DeskDo.j0 k false now past a b c now past) (fin now past r o):=by
 have jt:Ev (fun k=>spec_DeskDo.j1 k r true now past) (now,past,false):=by
  refine Ev.up ?_
  simp only[spec_DeskDo.j1]
  exact Ep trivial (Ev.now _)
 refine Ev.up ?_
 simp only[spec_DeskDo.j0]
 refine En (by simp) (Eb hm ?_)
 unfold fin
 cases o with
 |false=>
  rw[if_neg (by simp)]
  exact En (by simp) jt
 |true=>
  refine Ep rfl (Eb (f:=fun k t=>spec_DeskDo.j1 k r t now past) (same_ev r now (hr rfl) h1) ?_)
  by_cases c:r=now
  ·rw[if_neg (by simp[c])]
   rw[decide_eq_true c]
   exact jt
  ·rw[if_pos ⟨rfl,c⟩,decide_eq_false c]
   exact sp_j1 now past r hp
theorem sp_none (f:List Int) (a b c:Int) (h0:¬(a=0∧c=0)) (h1:¬(a=1∧c=0)) (h2:¬(a=2∧b=0∧c=0)) (h3:a≠3):Ev (fun k=>spec_l12Made.f k f a b c) ([],false):=by
 have j1:Ev (fun k=>spec_l12Made.j1 k f false a b c) ([],false):=by
  refine Ev.up ?_
  simp only[spec_l12Made.j1]
  exact En (by simp) (En (by simpa using h2) (En h3 (Ev.now _)))
 have j0:Ev (fun k=>spec_l12Made.j0 k f false a b c) ([],false):=by
  refine Ev.up ?_
  simp only[spec_l12Made.j0]
  refine En (by simp) ?_
  by_cases e:a=1
  ·rw[show(c==0)=false from beq_eq_false_iff_ne.2 (fun hc=>h1 ⟨e,hc⟩)]
   exact Ep e j1
  ·exact En e j1
 unfold spec_l12Made.f
 by_cases e:a=0
 ·rw[show(c==0)=false from beq_eq_false_iff_ne.2 (fun hc=>h0 ⟨e,hc⟩)]
  exact Ep e j0
 ·exact En e j0
def imTail (k:Nat) (now:List Int) (past:List (List Int)) (a b c:Int):Option (List Int×(List (List Int))×Bool):=(if a=3 then(if a=2 then(impl_DeskDo.j0 k (b != 0) now past a b c now past)else(if a=4 then(impl_DeskDo.j0 k (b != 0) now past a b c now past)else(impl_DeskDo.j0 k false now past a b c now past)))else(if c=0 then(if a=2 then(impl_DeskDo.j0 k (b != 0) now past a b c now past)else(if a=4 then(impl_DeskDo.j0 k (b != 0) now past a b c now past)else(impl_DeskDo.j0 k false now past a b c now past)))else(impl_DeskDo.j0 k true now past a b c now past)))
theorem allI_row {f g:List Int} {P:List (List (Nat×Nat))} (hf:smallB f=true) (hg:smallB g=true) (hP:∀l∈P,l.length≤8) (hl:P.length=24):rowB (allI P f g)=true:=by
 unfold rowB
 simp only[Bool.and_eq_true,beq_iff_eq]
 refine⟨allF_of _ _ _ (fun j _ _=>?_),by rw[allI_len];omega⟩
 have:=allI_at (small_at hf) (small_at hg) P hP j
 unfold r1
 refine decide_eq_true ?_
 omega
theorem getD_set_row {now:List Int} {b c:Int} (h:rowB now=true) (hc:0≤c∧c≤9999):rowB (now.set (b-1).toNat c)=true:=by
 have hl:=rowB_len h
 unfold rowB at h ⊢
 simp only[Bool.and_eq_true,beq_iff_eq]at h ⊢
 rw[List.length_set]
 refine⟨allF_of _ _ _ (fun j _ hj=>?_),h.2⟩
 have h1:=of_decide_eq_true (allF_at _ _ _ h.1 j om_ om_)
 unfold r1
 refine decide_eq_true ?_
 by_cases e:j=(b-1).toNat
 ·rw[e,List.getD_eq_getElem?_getD,List.getElem?_set_self om_]
  simp only[Option.getD_some]
  omega
 ·have:(now.set (b-1).toNat c).getD j 0=now.getD j 0:=by rw[List.getD_eq_getElem?_getD,List.getD_eq_getElem?_getD,List.getElem?_set_ne om_]
  rw[this];exact h1
theorem made_both (now:List Int) (a b c:Int) (hn:rowB now=true):∃r o,(o=true→rowB r=true)∧(o=true→a=0→b=1→smallB now=true∧r=allI PT now ones)∧(a=4→o=false)∧Ev (fun k=>spec_l12Made.f k now a b c) (r,o)∧∀past:List (List Int),Full past→past.length≤8→¬(a=4∧b=0∧c=0)→Ev (fun k=>imTail k now past a b c) (fin now past r o):=by
 have h24:=rowB_len hn
 obtain⟨nm,hnm,_,hone,en1,en2⟩:=named_both b
 have hnl:nm.length≤1000000:=by rcases hnm with h|h <;> simp[h]
 have jt:∀past,Ev (fun k=>impl_DeskDo.j0 k true now past a b c now past) (now,past,false):=fun past=>by
  refine Ev.up ?_
  simp only[impl_DeskDo.j0]
  exact Ep trivial (Ev.now _)
 have ft:∀past,fin now past [] false=(now,past,false):=fun past=>if_neg (by simp)
 by_cases c3:a=3
 ·subst c3
  have hi:∀past r o,(∀k,impl_DeskDo.j0 (k+1) false now past 3 b c now past=(if b≥1 then(if b≤24 then(if c≥0 then(if c≤9999 then((slices_Clone_int_int.f k now).bind fun t546=>(if 0≤(wrap64 (b-1))then(if(wrap64 (b-1))<(t546.length:Int)then(impl_DeskDo.j1 k (t546.set ((wrap64 (b-1)):Int).toNat c) true now past now past)else(none))else(none)))else(impl_DeskDo.j1 k ([]:List Int) false now past now past))else(impl_DeskDo.j1 k ([]:List Int) false now past now past))else(impl_DeskDo.j1 k ([]:List Int) false now past now past))else(impl_DeskDo.j1 k ([]:List Int) false now past now past)))→Ev (fun k=>impl_DeskDo.j0 k false now past 3 b c now past) (fin now past r o)→Ev (fun k=>imTail k now past 3 b c) (fin now past r o):=fun past r o _ h=>Ep rfl (En om_ (En om_ h))
  have hj:∀past k,impl_DeskDo.j0 (k+1) false now past 3 b c now past=(if b≥1 then(if b≤24 then(if c≥0 then(if c≤9999 then((slices_Clone_int_int.f k now).bind fun t546=>(if 0≤(wrap64 (b-1))then(if(wrap64 (b-1))<(t546.length:Int)then(impl_DeskDo.j1 k (t546.set ((wrap64 (b-1)):Int).toNat c) true now past now past)else(none))else(none)))else(impl_DeskDo.j1 k ([]:List Int) false now past now past))else(impl_DeskDo.j1 k ([]:List Int) false now past now past))else(impl_DeskDo.j1 k ([]:List Int) false now past now past))else(impl_DeskDo.j1 k ([]:List Int) false now past now past)):=fun past k=>by
   simp only[impl_DeskDo.j0]
   rw[if_neg (by simp),if_neg om_,if_neg om_,if_neg om_,if_pos trivial]
  have hs:∀r o,Ev (fun k=>spec_l12Made.j1 k now false 3 b c) (r,o)→Ev (fun k=>spec_l12Made.f k now 3 b c) (r,o):=fun r o h=>by
   unfold spec_l12Made.f
   refine En om_ (Ev.up ?_)
   simp only[spec_l12Made.j0]
   exact En (by simp) (En om_ h)
  by_cases cb:1≤b∧b≤24
  ·by_cases cc:0≤c∧c≤9999
   ·have e1:wrap64 (b-1)=b-1:=w64 om_ om_
    refine⟨now.set (b-1).toNat c,true,fun _=>getD_set_row hn cc,fun _ h=>by omega,fun h=>by omega,hs _ _ (Ev.up ?_),fun past hF hp _=>hi past _ _ (hj past) (Es (hj past) ?_)⟩
    ·simp only[spec_l12Made.j1,l1In_eq,e1]
     clear e1
     exact En (by simp) (En (by simp) (Ep trivial (Ec rfl (Ep (decide_eq_true cb) (Ec rfl (Ep (decide_eq_true cc) (Ec rfl (Ep (by simp;omega) (Ec rfl (Ep om_ (Ep (by simp;omega) (Ev.now _))))))))))))
    ·simp only[e1]
     clear e1
     exact Ep cb.1 (Ep cb.2 (Ep cc.1 (Ep cc.2 (Eb (clone_ev om_ om_) (Ep om_ (Ep om_ (im_j1 now past _ true h24 hF hp (fun _=>by rw[List.length_set];exact h24))))))))
   ·refine⟨[],false,nofun,nofun,fun _=>rfl,hs _ _ (Ev.up ?_),fun past hF hp _=>hi past _ _ (hj past) (Es (hj past) ?_)⟩
    ·simp only[spec_l12Made.j1,l1In_eq]
     exact En (by simp) (En (by simp) (Ep trivial (Ec rfl (Ep (decide_eq_true cb) (Ec rfl (En (fun h=>cc (of_decide_eq_true h)) (Ev.now _)))))))
    ·have hj1:=im_j1 now past [] false h24 hF hp nofun
     refine Ep cb.1 (Ep cb.2 ?_)
     by_cases c1:c≥0
     ·exact Ep c1 (En om_ hj1)
     ·exact En c1 hj1
  ·refine⟨[],false,nofun,nofun,fun _=>rfl,hs _ _ (Ev.up ?_),fun past hF hp _=>hi past _ _ (hj past) (Es (hj past) ?_)⟩
   ·simp only[spec_l12Made.j1,l1In_eq]
    exact En (by simp) (En (by simp) (Ep trivial (Ec rfl (En (fun h=>cb (of_decide_eq_true h)) (Ev.now _)))))
   ·have hj1:=im_j1 now past [] false h24 hF hp nofun
    by_cases c1:b≥1
    ·exact Ep c1 (En om_ hj1)
    ·exact En c1 hj1
 by_cases c0:c=0
 ·have tl:∀past x,(a≠2∧a≠4∨b=0)→Ev (fun k=>impl_DeskDo.j0 k false now past a b c now past) x→Ev (fun k=>imTail k now past a b c) x:=fun past x hb h=>by
   refine En c3 (Ep c0 ?_)
   by_cases c2:a=2
   ·rw[show(b != 0)=false from bne_eq_false_iff_eq.2 om_]
    exact Ep c2 h
   ·refine En c2 ?_
    by_cases c4:a=4
    ·rw[show(b != 0)=false from bne_eq_false_iff_eq.2 om_]
     exact Ep c4 h
    ·exact En c4 h
  by_cases a0:a=0
  ·rcases times_both now nm om_ hnl with⟨s1,s2,t1,t2⟩|⟨_,t1,t2⟩
   ·refine⟨allI PT now nm,true,fun _=>allI_row s1 s2 PT_8 (by decide+kernel),fun _ _ h=>⟨s1,by rw[hone h]⟩,fun h=>by omega,?_,fun past hF hp _=>tl past _ om_ (Ev.up ?_)⟩
    ·unfold spec_l12Made.f
     rw[show(c==0)=true from beq_iff_eq.2 c0]
     refine Ep a0 (Ev.up ?_)
     simp only[spec_l12Made.j0]
     exact Ep trivial (Eb en1 (Eb t1 (Ev.now _)))
    ·simp only[impl_DeskDo.j0]
     exact En (by simp) (Ep a0 (Eb en2 (Eb t2 (im_j1 now past _ true h24 hF hp (fun _=>allI_len ..)))))
   ·refine⟨[],false,nofun,nofun,fun _=>rfl,?_,fun past hF hp _=>tl past _ om_ (Ev.up ?_)⟩
    ·unfold spec_l12Made.f
     rw[show(c==0)=true from beq_iff_eq.2 c0]
     refine Ep a0 (Ev.up ?_)
     simp only[spec_l12Made.j0]
     exact Ep trivial (Eb en1 (Eb t1 (Ev.now _)))
    ·simp only[impl_DeskDo.j0]
     exact En (by simp) (Ep a0 (Eb en2 (Eb t2 (im_j1 now past _ false h24 hF hp nofun))))
  by_cases a1:a=1
  ·have sp1:∀r o,Ev (fun k=>spec_UnitaryTimes.f k now nm) (r,o)→Ev (fun k=>spec_l12Made.f k now a b c) (r,o):=fun r o h=>by
    unfold spec_l12Made.f
    refine En a0 (Ev.up ?_)
    simp only[spec_l12Made.j0]
    rw[show(c==0)=true from beq_iff_eq.2 c0]
    refine En (by simp) (Ep a1 (Ev.up ?_))
    simp only[spec_l12Made.j1]
    exact Ep trivial (Eb en1 (Eb h (Ev.now _)))
   rcases unitary_both now nm om_ hnl with⟨s1,s2,t1,t2⟩|⟨_,t1,t2⟩
   ·refine⟨allI PU now nm,true,fun _=>allI_row s1 s2 PU_8 (by decide+kernel),fun _ h=>by omega,fun h=>by omega,sp1 _ _ t1,fun past hF hp _=>tl past _ om_ (Ev.up ?_)⟩
    simp only[impl_DeskDo.j0]
    exact En (by simp) (En a0 (Ep a1 (Eb en2 (Eb t2 (im_j1 now past _ true h24 hF hp (fun _=>allI_len ..))))))
   ·refine⟨[],false,nofun,nofun,fun _=>rfl,sp1 _ _ t1,fun past hF hp _=>tl past _ om_ (Ev.up ?_)⟩
    simp only[impl_DeskDo.j0]
    exact En (by simp) (En a0 (Ep a1 (Eb en2 (Eb t2 (im_j1 now past _ false h24 hF hp nofun)))))
  by_cases a2:a=2
  ·by_cases b0:b=0
   ·obtain⟨r,o,hr,t1,t2⟩:=inverse_both now om_
    refine⟨r,o,hr,fun _ h=>by omega,fun h=>by omega,?_,fun past hF hp _=>tl past _ om_ (Ev.up ?_)⟩
    ·unfold spec_l12Made.f
     refine En a0 (Ev.up ?_)
     simp only[spec_l12Made.j0]
     refine En (by simp) (En a1 (Ev.up ?_))
     simp only[spec_l12Made.j1]
     exact En (by simp) (Ep (by simp[a2,b0,c0]) (Eb t1 (Ev.now _)))
    ·simp only[impl_DeskDo.j0]
     exact En (by simp) (En a0 (En a1 (Ep a2 (Eb t2 (im_j1 now past _ o h24 hF hp (fun h=>rowB_len (hr h)))))))
   ·refine⟨[],false,nofun,nofun,fun _=>rfl,sp_none now a b c om_ om_ om_ c3,fun past hF hp _=>?_⟩
    rw[ft]
    refine En c3 (Ep c0 (Ep a2 ?_))
    rw[show(b != 0)=true from bne_iff_ne.2 b0]
    exact jt past
  ·refine⟨[],false,nofun,nofun,fun _=>rfl,sp_none now a b c om_ om_ om_ c3,fun past hF hp h4=>?_⟩
   by_cases a4:a=4
   ·rw[ft]
    refine En c3 (Ep c0 (En a2 (Ep a4 ?_)))
    rw[show(b != 0)=true from bne_iff_ne.2 (fun hb=>h4 ⟨a4,hb,c0⟩)]
    exact jt past
   ·refine tl past _ om_ (Ev.up ?_)
    simp only[impl_DeskDo.j0]
    exact En (by simp) (En a0 (En a1 (En a2 (En c3 (En a4 (im_j1 now past _ false h24 hF hp nofun))))))
 ·refine⟨[],false,nofun,nofun,fun _=>rfl,sp_none now a b c om_ om_ om_ c3,fun past hF hp _=>?_⟩
  rw[ft]
  exact En c3 (En c0 (jt past))
theorem deskB_full {now:List Int} {past:List (List Int)} (h:deskB now past=true):Full past∧∀x∈past,rowB x=true:=by
 obtain⟨d1,d2,d3⟩:=deskB_len h
 refine⟨⟨by omega,fun x hx=>by have:=d3 x hx;omega⟩,fun x hx=>?_⟩
 unfold deskB at h
 simp only[Bool.and_eq_true]at h
 obtain⟨i,hi,rfl⟩:=List.mem_iff_getElem.1 hx
 have:=allF_at _ _ _ h.1 i om_ om_
 rwa [List.getD_eq_getElem?_getD,List.getElem?_eq_getElem hi]at this
theorem deskB_row {now:List Int} {past:List (List Int)} (h:deskB now past=true):rowB now=true:=by
 unfold deskB at h
 simp only[Bool.and_eq_true]at h
 exact h.2.1
theorem deskB_of {now:List Int} {past:List (List Int)} (h1:rowB now=true) (h2:past.length≤8) (h3:∀x∈past,rowB x=true):deskB now past=true:=by
 unfold deskB
 simp only[Bool.and_eq_true,decide_eq_true_eq]
 refine⟨allF_of _ _ _ (fun j _ hj=>?_),h1,by omega⟩
 rw[List.getD_eq_getElem?_getD,List.getElem?_eq_getElem om_]
 exact h3 _ (List.getElem_mem _)
theorem trimP_row {now:List Int} {past:List (List Int)} (h1:rowB now=true) (h2:past.length≤8) (h3:∀x∈past,rowB x=true):(trimP past now).length ≤8∧∀x∈trimP past now,rowB x=true:=by
 have hm:∀x∈past++[now],rowB x=true:=fun x hx=>by
  rcases List.mem_append.1 hx with h|h
  ·exact h3 x h
  ·rw[List.mem_singleton.1 h];exact h1
 unfold trimP
 by_cases c:((past++[now]).length :Int)>8
 ·rw[if_pos c]
  refine⟨?_,fun x hx=>hm x (List.mem_of_mem_drop hx)⟩
  rw[List.length_drop]
  simp only[List.length_append,List.length_cons,List.length_nil]
  omega
 ·rw[if_neg c]
  exact⟨by omega,hm⟩
theorem back_both (now:List Int) (past:List (List Int)) (h:deskB now past=true) (hp:0<past.length):Ev (fun k=>spec_DeskDo.f k now past 4 0 0) (past.getD (past.length-1) [],past.take (past.length-1),true)∧Ev (fun k=>impl_DeskDo.f k now past 4 0 0) (past.getD (past.length-1) [],past.take (past.length-1),true):=by
 obtain⟨d1,d2,d3⟩:=deskB_len h
 obtain⟨hF,hr⟩:=deskB_full h
 have hl:∀x∈past,x.length≤1000000000:=fun x hx=>by have:=d3 x hx;omega
 have eo:=spec_desk now past om_ om_ hl
 have ei:=impl_desk now past om_ om_ hl
 rw[h]at eo ei
 have ec:=sp_copy now past om_ om_ (fun x hx=>by have:=d3 x hx;omega)
 have ek:=im_copy now past om_ om_ hF
 constructor
 ·unfold spec_DeskDo.f
  refine Eb eo (Ep rfl (Eb ec (Ep rfl ?_)))
  rw[show(decide ((past.length:Int)>0))=true from decide_eq_true om_]
  refine Ev.up ?_
  simp only[spec_DeskDo.j0]
  exact Ep trivial (Ep ⟨hp,by omega⟩ (Ev.now _))
 ·unfold impl_DeskDo.f
  refine Eb ei (Ep rfl (Eb ek (En om_ (Ep rfl (En om_ (Ep rfl (Ev.up ?_)))))))
  simp only[impl_DeskDo.j0]
  exact En (by simp) (En om_ (En om_ (En om_ (En om_ (Ep trivial (En om_ (Ep om_ (Ev.now _))))))))
structure Done (now:List Int) (past:List (List Int)) (a b c:Int) (r1:List Int) (r2:List (List Int)) (r3:Bool):Prop where
 spec:Ev (fun k=>spec_DeskDo.f k now past a b c) (r1,r2,r3)
 impl:Ev (fun k=>impl_DeskDo.f k now past a b c) (r1,r2,r3)
 bad:deskB now past=false→r1=[]∧r2=[]∧r3=false
 not:deskB now past=true→r3=false→r1=now∧r2=past
 ok:r3=true→deskB now past=true∧deskB r1 r2=true
 pushed:r3=true→a≠4→r2=trimP past now
 times:r3=true→a=0→b=1→smallB now=true∧r1=allI PT now ones
theorem do_both (now:List Int) (past:List (List Int)) (a b c:Int) (h1:now.length≤1000000) (h2:past.length≤1000000) (h3:∀x∈past,x.length≤1000000):∃r1 r2 r3,Done now past a b c r1 r2 r3:=by
 have hl:∀x∈past,x.length≤1000000000:=fun x hx=>by have:=h3 x hx;omega
 have eo:=spec_desk now past om_ om_ hl
 have ei:=impl_desk now past om_ om_ hl
 cases h:deskB now past with
 |false=>
  rw[h]at eo ei
  refine⟨[],[],false,?_,?_,fun _=>⟨rfl,rfl,rfl⟩,fun e=>(by rw[h]at e;cases e),nofun,nofun,nofun⟩
  ·unfold spec_DeskDo.f
   exact Eb eo (En (by simp) (Ev.now _))
  ·unfold impl_DeskDo.f
   exact Eb ei (En (by simp) (Ev.now _))
 |true=>
  obtain⟨d1,d2,d3⟩:=deskB_len h
  obtain⟨hF,hr⟩:=deskB_full h
  have hrow:=deskB_row h
  by_cases hb:(a=4∧b=0∧c=0)∧0<past.length
  ·obtain⟨⟨rfl,rfl,rfl⟩,hp⟩:=hb
   obtain⟨e1,e2⟩:=back_both now past h hp
   refine⟨_,_,_,e1,e2,fun e=>(by rw[h]at e;cases e),nofun,fun _=>⟨h,deskB_of (hr _ ?_) ?_ (fun x hx=>hr x (List.mem_of_mem_take hx))⟩,fun _ h=>absurd rfl h,fun _ h=>by omega⟩
   ·rw[List.getD_eq_getElem?_getD,List.getElem?_eq_getElem om_]
    exact List.getElem_mem _
   ·rw[List.length_take];omega
  ·rw[h]at eo ei
   have ec:=sp_copy now past om_ om_ h3
   have ek:=im_copy now past om_ om_ hF
   obtain⟨r,o,q1,q2,q3,q4,q5⟩:=made_both now a b c hrow
   have es:Ev (fun k=>spec_DeskDo.f k now past a b c) (fin now past r o):=by
    have hj:=sp_j0 now past a b c r o d1 d2 (fun e=>rowB_len (q1 e)) q4
    unfold spec_DeskDo.f
    refine Eb eo (Ep rfl (Eb ec ?_))
    by_cases cb:(a==4&&(b==0&&(c==0)))=true
    ·refine Ep cb ?_
     simp only[Bool.and_eq_true,beq_iff_eq]at cb
     rw[show(decide ((past.length:Int)>0))=false from decide_eq_false (fun hp=>hb ⟨cb,by omega⟩)]
     exact hj
    ·exact En cb hj
   have em:Ev (fun k=>impl_DeskDo.f k now past a b c) (fin now past r o):=by
    unfold impl_DeskDo.f
    refine Eb ei (Ep rfl (Eb ek ?_))
    by_cases c4:a=4∧b=0∧c=0
    ·have hp:past.length=0:=by
      refine Nat.eq_zero_of_not_pos (fun hp=>hb ⟨c4,hp⟩)
     obtain⟨rfl,rfl,rfl⟩:=c4
     rw[show fin now past r o=(now,past,false)from if_neg (by rw[q3 rfl];simp)]
     refine En om_ (Ep rfl (En om_ (Ep rfl (Ev.up ?_))))
     simp only[impl_DeskDo.j0]
     exact En (by simp) (En om_ (En om_ (En om_ (En om_ (Ep trivial (Ep hp (Ev.now _)))))))
    ·exact q5 past hF d2 c4
   by_cases cf:o=true∧r≠now
   ·rw[show fin now past r o=(r,trimP past now,true)from if_pos cf]at es em
    obtain⟨t1,t2⟩:=trimP_row hrow d2 hr
    exact⟨_,_,_,es,em,fun e=>(by rw[h]at e;cases e),nofun,fun _=>⟨h,deskB_of (q1 cf.1) t1 t2⟩,fun _ _=>rfl,fun _=>q2 cf.1⟩
   ·rw[show fin now past r o=(now,past,false)from if_neg cf]at es em
    exact⟨_,_,_,es,em,fun e=>(by rw[h]at e;cases e),fun _ _=>⟨rfl,rfl⟩,nofun,nofun,nofun⟩
theorem sp_do (now:List Int) (past:List (List Int)) (a b c:Int) (hs:Sz now past):∃r1 r2 r3,Sz r1 r2∧(r3=true→r1.length=24)∧Ev (fun k=>spec_DeskDo.f k now past a b c) (r1,r2,r3):=by
 obtain⟨s1,s2,s3⟩:=hs
 obtain⟨r1,r2,r3,d⟩:=do_both now past a b c om_ om_ (fun x hx=>by have:=s3 x hx;omega)
 refine⟨r1,r2,r3,?_,fun h=>rowB_len (deskB_row (d.ok h).2),d.spec⟩
 cases r3 with
 |true=>
  obtain⟨l1,l2,l3⟩:=deskB_len (d.ok rfl).2
  exact⟨by omega,by omega,fun x hx=>by have:=l3 x hx;omega⟩
 |false=>
  cases h:deskB now past with
  |true=>
   obtain⟨rfl,rfl⟩:=d.not h rfl
   exact⟨s1,s2,s3⟩
  |false=>
   obtain⟨rfl,rfl,_⟩:=d.bad h
   exact⟨by simp,by simp,nofun⟩
def RunR:List S55→List Int→List (List Int)→Nat→List Int→List (List Int)→Nat→Prop
 |[],n,p,m,n',p',m'=>n'=n∧p'=p∧m'=m
 |x::l,n,p,m,n',p',m'=>∃r1 r2 r3,Done n p x.f0 x.f1 x.f2 r1 r2 r3∧(if r3=true then RunR l r1 r2 (m+1) n' p' m' else RunR l n p m n' p' m')
theorem Done.small {now past a b c r1 r2 r3} (d:Done now past a b c r1 r2 r3) (h1:now.length≤1000000) (h2:past.length≤1000000) (h3:∀x∈past,x.length≤1000000):r1.length≤1000000∧r2.length≤1000000∧∀x∈r2,x.length≤1000000:=by
 cases r3 with
 |true=>
  obtain⟨k1,k2,k3⟩:=deskB_len (d.ok rfl).2
  exact⟨by omega,by omega,fun x hx=>by have:=k3 x hx;omega⟩
 |false=>
  cases hb:deskB now past with
  |true=>obtain⟨rfl,rfl⟩:=d.not hb rfl;exact⟨h1,h2,h3⟩
  |false=>obtain⟨rfl,rfl,_⟩:=d.bad hb;exact⟨by simp,by simp,nofun⟩
theorem run_ex:∀(l:List S55) (n:List Int) (p:List (List Int)) (m:Nat),deskB n p=true→∃n' p' m',RunR l n p m n' p' m'∧deskB n' p'=true∧m'≤m+l.length
 |[],n,p,m,h=>⟨n,p,m,⟨rfl,rfl,rfl⟩,h,by simp⟩
 |x::l,n,p,m,h=>by
  obtain⟨d1,d2,d3⟩:=deskB_len h
  obtain⟨r1,r2,r3,d⟩:=do_both n p x.f0 x.f1 x.f2 om_ om_ (fun y hy=>by have:=d3 y hy;omega)
  cases r3 with
  |true=>
   obtain⟨n',p',m',e1,e2,e3⟩:=run_ex l r1 r2 (m+1) (d.ok rfl).2
   exact⟨n',p',m',⟨r1,r2,true,d,by rw[if_pos rfl];exact e1⟩,e2,by rw[List.length_cons];omega⟩
  |false=>
   obtain⟨n',p',m',e1,e2,e3⟩:=run_ex l n p m h
   exact⟨n',p',m',⟨r1,r2,false,d,by rw[if_neg (by simp)];exact e1⟩,e2,by rw[List.length_cons];omega⟩
theorem drop_deed {l:List S55} {i:Nat} (h:i<l.length):l.drop i=rd_T55 l (i:Int)::l.drop (i+1):=by
 rw[List.drop_eq_getElem_cons h]
 unfold rd_T55
 rw[Int.toNat_natCast,List.getD_eq_getElem?_getD,List.getElem?_eq_getElem h]
 rfl
theorem run_im (list:List S55) (hl:list.length≤1000):∀(f i:Nat),i+f=list.length→∀(n:List Int) (p:List (List Int)) (m:Nat) (n':List Int) (p':List (List Int)) (m':Nat),m≤i→RunR (list.drop i) n p m n' p' m'→Ev (fun k=>impl_DeskRun.l0 k (m:Int) list (list.length:Int) (i:Int) n p) (n',p',(m':Int)):=by
 intro f
 induction f with
 |zero=>
  intro i hi n p m n' p' m' hm h
  rw[List.drop_eq_nil_of_le om_]at h
  obtain⟨rfl,rfl,rfl⟩:=h
  refine Ev.up ?_
  simp only[impl_DeskRun.l0]
  exact En om_ (Ev.now _)
 |succ f ih=>
  intro i hi n p m n' p' m' hm h
  rw[drop_deed om_]at h
  obtain⟨r1,r2,r3,d,e⟩:=h
  have e1:wrap64 ((i:Int)+1)=((i+1:Nat):Int):=w64 om_ om_
  have e2:wrap64 ((m:Int)+1)=((m+1:Nat):Int):=w64 om_ om_
  refine Ev.up ?_
  simp only[impl_DeskRun.l0,e1,e2]
  clear e1 e2
  refine Ep om_ (Ep om_ (Ep om_ (Eb d.impl ?_)))
  cases r3 with
  |true=>
   rw[if_pos rfl]at e
   exact Ep rfl (ih (i+1) om_ r1 r2 (m+1) n' p' m' om_ e)
  |false=>
   rw[if_neg (by simp)]at e
   exact En (by simp) (ih (i+1) om_ n p m n' p' m' om_ e)
theorem run_bothI (now:List Int) (past:List (List Int)) (list:List S55) (h:deskB now past=true) (hl:list.length≤40) {n':List Int} {p':List (List Int)} {m':Nat} (hr:RunR list now past 0 n' p' m'):Ev (fun k=>impl_DeskRun.f k now past list) (n',p',(m':Int)):=by
 obtain⟨d1,d2,d3⟩:=deskB_len h
 obtain⟨hF,_⟩:=deskB_full h
 have g:∀x∈past,x.length≤1000000000:=fun x hx=>by have:=d3 x hx;omega
 have ei:=impl_desk now past om_ om_ g
 rw[h]at ei
 have ek:=im_copy now past om_ om_ hF
 have e2:=run_im list om_ list.length 0 om_ now past 0 n' p' m' om_ hr
 have c40:decide ((list.length:Int)>40)=false:=decide_eq_false om_
 unfold impl_DeskRun.f
 refine Eb ei (Ep rfl ?_)
 rw[c40]
 refine Ev.up ?_
 simp only[impl_DeskRun.j0]
 exact En (by simp) (Eb ek e2)
theorem run_noneI (now:List Int) (past:List (List Int)) (list:List S55) (h1:now.length≤1000000) (h2:past.length≤1000000) (h3:∀x∈past,x.length≤1000000) (h:¬(deskB now past=true∧list.length≤40)):Ev (fun k=>impl_DeskRun.f k now past list) ([],[],0):=by
 have g:∀x∈past,x.length≤1000000000:=fun x hx=>by have:=h3 x hx;omega
 have ei:=impl_desk now past om_ om_ g
 have i0:Ev (fun k=>impl_DeskRun.j0 k list true now past) ([],[],0):=by
  refine Ev.up ?_
  simp only[impl_DeskRun.j0]
  exact Ep trivial (Ev.now _)
 unfold impl_DeskRun.f
 cases hb:deskB now past with
 |false=>
  rw[hb]at ei
  exact Eb ei (En (by simp) i0)
 |true=>
  rw[hb]at ei
  have c40:decide ((list.length:Int)>40)=true:=decide_eq_true (by
   have:¬list.length≤40:=fun e=>h ⟨hb,e⟩
   omega)
  refine Eb ei (Ep rfl ?_)
  rw[c40];exact i0
theorem ints_dec (f g:List Int) (hl:f.length≤1000000) (hg:f.length=g.length):∀m i:Nat,i+m=f.length→Ev (fun k=>laws_sameInts.l0 k f g (i:Int)) (decide (f.drop i=g.drop i)):=by
 intro m
 induction m with
 |zero=>
  intro i h
  rw[List.drop_eq_nil_of_le om_,List.drop_eq_nil_of_le om_,decide_eq_true rfl]
  refine Ev.up ?_
  simp only[laws_sameInts.l0]
  exact En om_ (Ev.now _)
 |succ m ih=>
  intro i h
  rw[drop_get (f:=f) om_,drop_get (f:=g) om_]
  refine Ev.up ?_
  have e1:wrap64 ((i:Int)+1)=((i+1:Nat):Int):=w64 om_ om_
  have ih:=ih (i+1) om_
  simp only[laws_sameInts.l0,e1,rdn,List.cons.injEq]
  clear e1
  refine Ep om_ (Ep om_ (Ep om_ ?_))
  by_cases c:f.getD i 0=g.getD i 0
  ·refine Ep c ?_
   simp only[c,true_and]
   exact ih
  ·refine En c ?_
   simp only[c,false_and,decide_false]
   exact Ev.now _
theorem ints_ev (f g:List Int) (hl:f.length≤1000000):Ev (fun k=>laws_sameInts.f k f g) (decide (f=g)):=by
 unfold laws_sameInts.f
 by_cases h:f.length=g.length
 ·exact Ep om_ (ints_dec f g hl h f.length 0 om_)
 ·rw[decide_eq_false (fun e=>h (by rw[e]))]
  exact En om_ (Ev.now _)
theorem dropL_get {f:List (List Int)} {i:Nat} (h:i<f.length):f.drop i=f.getD i []::f.drop (i+1):=by
 rw[List.drop_eq_getElem_cons h,List.getD_eq_getElem?_getD,List.getElem?_eq_getElem h]
 rfl
theorem rows_dec (f g:List (List Int)) (hl:f.length≤1000000) (hx:∀x∈f,x.length≤1000000) (hg:f.length=g.length):∀m i:Nat,i+m=f.length→Ev (fun k=>laws_sameRows.l0 k f g (i:Int)) (decide (f.drop i=g.drop i)):=by
 intro m
 induction m with
 |zero=>
  intro i h
  rw[List.drop_eq_nil_of_le om_,List.drop_eq_nil_of_le om_,decide_eq_true rfl]
  refine Ev.up ?_
  simp only[laws_sameRows.l0]
  exact En om_ (Ev.now _)
 |succ m ih=>
  intro i h
  rw[dropL_get (f:=f) om_,dropL_get (f:=g) om_]
  refine Ev.up ?_
  have e1:wrap64 ((i:Int)+1)=((i+1:Nat):Int):=w64 om_ om_
  have ih:=ih (i+1) om_
  have hs:=ints_ev (f.getD i []) (g.getD i []) (getD_len hx i)
  simp only[laws_sameRows.l0,e1,rdL,List.cons.injEq]
  clear e1
  refine Ep om_ (Ep om_ (Ep om_ (Eb hs ?_)))
  by_cases c:f.getD i []=g.getD i []
  ·rw[decide_eq_true c]
   refine Ep rfl ?_
   simp only[c,true_and]
   exact ih
  ·rw[decide_eq_false c]
   refine En (by simp) ?_
   simp only[c,false_and,decide_false]
   exact Ev.now _
theorem rows_ev (f g:List (List Int)) (hl:f.length≤1000000) (hx:∀x∈f,x.length≤1000000):Ev (fun k=>laws_sameRows.f k f g) (decide (f=g)):=by
 unfold laws_sameRows.f
 by_cases h:f.length=g.length
 ·exact Ep om_ (rows_dec f g hl hx h f.length 0 om_)
 ·rw[decide_eq_false (fun e=>h (by rw[e]))]
  exact En om_ (Ev.now _)
theorem desk_ev (a:List Int) (b:List (List Int)) (c:List Int) (d:List (List Int)) (h1:a.length≤1000000) (h2:b.length≤1000000) (h3:∀x∈b,x.length≤1000000):Ev (fun k=>laws_sameDesk.f k a b c d) (decide (a=c∧b=d)):=by
 have e1:=ints_ev a c h1
 have e2:=rows_ev b d h2 h3
 unfold laws_sameDesk.f
 refine Eb e1 ?_
 by_cases h:a=c
 ·rw[decide_eq_true h]
  simp only[h,true_and]
  exact Ep (by trivial) (Eb e2 (Ev.now _))
 ·rw[decide_eq_false h]
  simp only[h,false_and,decide_false]
  exact En (by simp) (Ev.now _)
def totL:List (List Int)→Nat
 |[]=>0
 |x::r=>x.length+totL r
theorem totL_row:∀(l:List (List Int)) (x:List Int),x∈l→x.length≤totL l
 |[],_,h=>by cases h
 |y::r,x,h=>by
  simp only[totL]
  rcases List.mem_cons.1 h with rfl|h
  ·omega
  ·have:=totL_row r x h;omega
theorem totL_le (b:Nat):∀(l:List (List Int)),(∀x∈l,x.length≤b)→totL l≤l.length*b
 |[],_=>by simp[totL]
 |y::r,h=>by
  have h1:=totL_le b r (fun x hx=>h x (List.mem_cons_of_mem _ hx))
  have h2:=h y (List.mem_cons_self ..)
  simp only[totL,List.length_cons,Nat.add_mul,Nat.one_mul]
  omega
def szD (a:List Int) (l:List (List Int)):Nat:=a.length+l.length+totL l
theorem szD_row {a:List Int} {l:List (List Int)} {b:Nat} (h:szD a l≤b):a.length≤b∧l.length≤b∧totL l≤b∧∀x∈l,x.length≤b:=by
 unfold szD at h
 exact⟨by omega,by omega,by omega,fun x hx=>by have:=totL_row l x hx;omega⟩
theorem deskB_sz {a:List Int} {l:List (List Int)} (h:deskB a l=true):szD a l≤1000:=by
 obtain⟨d1,d2,d3⟩:=deskB_len h
 have:=totL_le 24 l (fun x hx=>by have:=d3 x hx;omega)
 unfold szD
 omega
theorem sameD_ev {a:List Int} {l:List (List Int)} (h:szD a l≤1048576) (hb:deskB a l=true∨(a=[]∧l=[])):Ev (fun k=>laws_sameDesk.f k a l a l) true:=by
 have hz:szD a l≤1000:=by
  rcases hb with hb|⟨rfl,rfl⟩
  ·exact deskB_sz hb
  ·simp[szD,totL]
 obtain⟨h1,h2,_,h3⟩:=szD_row hz
 have e:=desk_ev a l a l om_ om_ (fun x hx=>by have:=h3 x hx;omega)
 rwa [decide_eq_true ⟨rfl,rfl⟩]at e
theorem deskNew_all:(List.range 8).all (fun n=>match spec_DeskNew.f 200 (n:Int)with|some (r,p,_)=>r.length==24&&p.isEmpty|none=>false)=true:=by decide+kernel
theorem deskNew_ev {t:Int} (h0:0≤t) (h1:t<8):∃r b,r.length=24∧Ev (fun k=>spec_DeskNew.f k t) (r,[],b):=by
 have h:=List.all_eq_true.1 deskNew_all t.toNat (List.mem_range.2 om_)
 rw[Int.toNat_of_nonneg h0]at h
 split at h
 ·rename_i r p b hr
  simp only[Bool.and_eq_true,beq_iff_eq,List.isEmpty_iff]at h
  obtain⟨h2,rfl⟩:=h
  exact⟨r,b,h2,Ev.of (spec_DeskNew.mono t) hr⟩
 ·cases h
theorem sp_deskL {bs:List Int} (hb:Bytes bs) (hl:bs.length≤2000) {n:Int} (hn:1≤n):∀m:Nat,m≤100→∀(p:Int) (now:List Int) (past:List (List Int)),0≤p→p+10*m≤100000→Sz now past→now.length=24→∃r1 r2 q,r1.length≤24∧r2.length≤10∧(∀x∈r2,x.length≤24)∧p≤q∧q≤p+10*m+10∧Ev (fun k=>spec_l20Desk.l0 k n (m:Int) bs p now past) (r1,r2,q):=by
 intro m
 induction m with
 |zero=>
  intro _ p now past h0 h1 hs hn24
  obtain⟨s1,s2,s3⟩:=hs
  obtain⟨o,ho⟩:=odd_ev hb hl h0 (by omega:p≤1000000) hn
  cases o with
  |false=>
   refine⟨now,past,p+1,s1,by omega,s3,by omega,by omega,Ev.up ?_⟩
   simp only[spec_l20Desk.l0]
   exact En om_ (Eb ho (En (by simp) (Ev.now _)))
  |true=>
   obtain⟨r,a1,b1,c1⟩:=pick_ev hb hl (by omega:0≤p+1) om_ (by omega:(1:Int)≤3)
   by_cases r0:r=0
   ·refine⟨now.drop 1,past,p+1+1,by simp;omega,by omega,s3,by omega,by omega,Ev.up ?_⟩
    simp only[spec_l20Desk.l0]
    exact En om_ (Eb ho (Ep rfl (Eb c1 (Ep r0 (Ep om_ (Ev.now _))))))
   ·by_cases r1:r=1
    ·refine⟨now,past++[[]],p+1+1,s1,by simp;omega,fun x hx=>?_,by omega,by omega,Ev.up ?_⟩
     ·rcases List.mem_append.1 hx with h|h
      ·exact s3 x h
      ·rw[List.mem_singleton.1 h];simp
     ·simp only[spec_l20Desk.l0]
      exact En om_ (Eb ho (Ep rfl (Eb c1 (En r0 (Ep r1 (Ep om_ (Ev.now _)))))))
    ·refine⟨[],[],p+1+1,by simp,by simp,nofun,by omega,by omega,Ev.up ?_⟩
     simp only[spec_l20Desk.l0]
     exact En om_ (Eb ho (Ep rfl (Eb c1 (En r0 (En r1 (Ev.now _))))))
 |succ m ih=>
  intro hm p now past h0 h1 hs hn24
  obtain⟨a,b,c,q,q1,q2,ed⟩:=deed_ev hb hl h0 (by omega:p≤700000)
  obtain⟨x1,x2,x3,xs,xl,ex⟩:=sp_do now past a b c hs
  have e1:wrap64 (((m+1:Nat):Int)-1)=(m:Int):=by rw[w64 om_ om_];omega
  cases x3 with
  |true=>
   obtain⟨r1,r2,q',g1,g2,g3,g4,g5,e⟩:=ih om_ q x1 x2 om_ om_ xs (xl rfl)
   refine⟨r1,r2,q',g1,g2,g3,by omega,by omega,Ev.up ?_⟩
   simp only[spec_l20Desk.l0,e1]
   clear e1
   exact Ep om_ (Eb ed (Eb ex (Ep rfl e)))
  |false=>
   obtain⟨r1,r2,q',g1,g2,g3,g4,g5,e⟩:=ih om_ q now past om_ om_ hs hn24
   refine⟨r1,r2,q',g1,g2,g3,by omega,by omega,Ev.up ?_⟩
   simp only[spec_l20Desk.l0,e1]
   clear e1
   exact Ep om_ (Eb ed (Eb ex (En (by simp) e)))
theorem sp_l20desk {bs:List Int} (hb:Bytes bs) (hl:bs.length≤2000) {p n:Int} (h0:0≤p) (h1:p≤50000) (hn:1≤n):∃r1 r2 q,r1.length≤24∧r2.length≤10∧(∀x∈r2,x.length≤24)∧p≤q∧q≤p+100∧Ev (fun k=>spec_l20Desk.f k bs p n) (r1,r2,q):=by
 obtain⟨a,a1,a2,ea⟩:=pick_ev hb hl h0 om_ (by omega:(1:Int)≤8)
 obtain⟨r,b,hr,er⟩:=deskNew_ev a1 a2
 obtain⟨m,m1,m2,em⟩:=pick_ev hb hl (by omega:0≤p+1) om_ (by omega:(1:Int)≤5)
 obtain⟨r1,r2,q,g1,g2,g3,g4,g5,e⟩:=sp_deskL hb hl hn m.toNat om_ (p+1+1) r [] om_ om_ ⟨by omega,by simp,nofun⟩ hr
 rw[Int.toNat_of_nonneg m1]at e
 refine⟨r1,r2,q,g1,g2,g3,by omega,by omega,?_⟩
 unfold spec_l20Desk.f
 exact Eb ea (Eb er (Eb em e))
theorem numberOk_eq (a:Int):impl_numberOk.f a=some (decide (1≤a∧a≤10000)):=by
 unfold impl_numberOk.f
 by_cases h:a≥1
 ·rw[if_pos h];simp[h]
 ·rw[if_neg h];congr 1;symm;simp;intro h2;omega
theorem alive_eq:laws_alive.f=some true:=by
 unfold laws_alive.f impl_DividesOk.f
 simp only[numberOk_eq]
 decide+kernel
theorem line_deed {a:List Int} {l:List (List Int)} {x:S55} {r1:List Int} {r2:List (List Int)} {r3:Bool} (hx:(dText x.f0 x.f1 x.f2).size ≠0) (hb:deskB a l=true) (d:Done a l x.f0 x.f1 x.f2 r1 r2 r3):Ev (fun k=>impl_DeskLine.f k a l (dText x.f0 x.f1 x.f2)) (r1,r2,if r3=true then(⟨#[111,107]⟩:ByteArray)else⟨#[110,111,116]⟩):=by
 obtain⟨g1,g2,_,g4⟩:=szD_row (deskB_sz hb)
 have ei:=impl_desk a l om_ om_ (fun x hx=>by have:=g4 x hx;omega)
 rw[hb]at ei
 have ir:=impl_readDeed (dText x.f0 x.f1 x.f2) (by have:=dText_size x.f0 x.f1 x.f2;omega)
 rw[rd_complete rfl hx]at ir
 unfold impl_DeskLine.f
 refine Eb ei (Ep rfl (Eb ir (Ep rfl (Eb d.impl ?_))))
 cases r3 <;> exact Ev.now _
theorem drawText_ev {l0:List Int} (hw:∀x∈l0,(Lit.int .u8 x).wf =true):∃s:ByteArray,s.size≤40000000∧Ev (fun k=>spec_DrawReadJournal.f k l0) s:=by
 obtain⟨bs,h1,h2,h3⟩:=open_ev (Bytes.of hw)
 obtain⟨r,a1,b1,c1⟩:=pick_ev h1 h2 (p:=0) (n:=6) om_ om_ om_
 obtain⟨n,rfl⟩:∃n:Nat,r=n:=⟨r.toNat,by omega⟩
 obtain⟨D,q,hD,q1,q2,hd⟩:=deeds_l h1 h2 n [] (0+1) om_ (by simp;omega) om_ om_
 simp only[List.length_nil]at hD
 obtain⟨L,e1,e2,e3⟩:=written_l D om_ bs q D 0 [] rfl (by simp) (by simp)
 simp only[List.length_nil]at e1
 have hW:Ev (fun k=>spec_l20Written.f k bs 0) (L,q):=by
  unfold spec_l20Written.f spec_l20Deeds.f
  exact Eb (Eb c1 hd) e3
 have hT:=spec_journal L om_
 have hz:=jTxt_size L tNone
 have hz0:tNone.size=0:=rfl
 obtain⟨v,v1,v2,ev⟩:=pick_ev h1 h2 (p:=q) (n:=3) om_ om_ om_
 unfold spec_DrawReadJournal.f
 by_cases c0:v=0
 ·obtain⟨t,q',ht,es⟩:=spoil_ev h1 h2 (p:=q+1) om_ om_ (jTxt L tNone) om_
  exact⟨t,by omega,Ec h3 (Eb hW (Eb hT (Eb ev (Ep c0 (Eb es (Ev.now _))))))⟩
 by_cases c1:v=1
 ·have ew:wrap64 (((jTxt L tNone).size :Int)+1)=((jTxt L tNone).size :Int)+1:=w64 om_ om_
  obtain⟨u,u1,u2,eu⟩:=pick_ev h1 h2 (p:=q+1) (n:=((jTxt L tNone).size :Int)+1) om_ om_ om_
  refine⟨(jTxt L tNone).extract 0 (u:Int).toNat,by rw[ByteArray.size_extract];omega,Ec h3 (Eb hW (Eb hT (Eb ev (En c0 (Ep c1 ?_)))))⟩
  simp only[ew]
  exact Eb eu (Ep u1 (Ep om_ (Ev.now _)))
 ·exact⟨jTxt L tNone,by omega,Ec h3 (Eb hW (Eb hT (Eb ev (En c0 (En c1 (Ev.now _))))))⟩
theorem drawRun_ev {l0:List Int} (hw:∀x∈l0,(Lit.int .u8 x).wf =true):∃(a:List Int) (l:List (List Int)) (D:List S55),a.length≤24∧l.length≤10∧(∀x∈l,x.length≤24)∧Ev (fun k=>spec_DrawDeskRun.f k l0) (a,l,D):=by
 obtain⟨bs,h1,h2,h3⟩:=open_ev (Bytes.of hw)
 obtain⟨now,past,q,g1,g2,g3,q1,q2,e⟩:=sp_l20desk h1 h2 (p:=0) (n:=12) om_ om_ om_
 obtain⟨o,ho⟩:=odd_ev h1 h2 (by omega:0≤q) (by omega:q≤1000000) (by omega:(1:Int)≤30)
 unfold spec_DrawDeskRun.f
 cases o with
 |true=>exact⟨now,past,List.replicate 41 _,g1,g2,g3,Ec h3 (Eb e (Eb ho (Ep rfl (Ep om_ (Ev.now _)))))⟩
 |false=>
  obtain⟨r,a1,b1,c1⟩:=pick_ev h1 h2 (by omega:0≤q+1) om_ (by omega:(1:Int)≤6)
  obtain⟨n,rfl⟩:∃n:Nat,r=n:=⟨r.toNat,by omega⟩
  obtain⟨D,q',hD,_,_,hd⟩:=deeds_l h1 h2 n [] (q+1+1) om_ (by simp;omega) om_ om_
  refine⟨now,past,D,g1,g2,g3,Ec h3 (Eb e (Eb ho (En (by simp) (Eb (g:=fun k=>spec_l20Deeds.f k bs (q+1)) (a:=(D,q')) ?_ (Ev.now _)))))⟩
  unfold spec_l20Deeds.f
  exact Eb c1 hd
theorem FnReadJournal:laws_FnReadJournal.Pure:=by
 intro l0 l1 _ _ hw _ _ hw1
 refine Ev.rounds ?_
 unfold laws_FnReadJournal.f
 have none:Ev (fun k=>laws_FnReadJournal.j0 k l0 l1 true) true:=Es (fun k=>by simp only[laws_FnReadJournal.j0,if_true]) (Ev.now _)
 by_cases hl:(l0.length:Int)>1048576
 ·exact Ep hl none
 refine En hl ?_
 by_cases hl1:(l1.length:Int)>1048576
 ·rw[decide_eq_true hl1];exact none
 rw[decide_eq_false hl1]
 obtain⟨s,hs,hD⟩:=drawText_ev hw
 obtain⟨a,l,D,g1,g2,g3,hE⟩:=drawRun_ev hw1
 have ir:=impl_readJournal s om_
 have sr:=spec_readJournal s om_
 have hlen:=rjV_len s.data.toList (s.size+1) 0 []
 have hcut:=rjV_cut s.data.toList
 obtain⟨q,t1,t2,t3,t4⟩:=rjV_txt s.data.toList (s.size+1) 0 [] rfl (Nat.zero_le _) nofun
 rw[List.length_nil]at hlen
 obtain⟨list,n0,hv⟩:∃list n0,rjV s.data.toList (s.size+1) [] 0=(list,n0):=⟨_,_,rfl⟩
 have hc:∀i:Nat,i≤s.size→(rjV (s.data.toList.take i) (i+1) [] 0).1<+:list∧(rjV (s.data.toList.take i) (i+1) [] 0).2≤(i:Int):=fun i hi=>by
  have:=hcut i (by rw[←size_data];exact hi) (i+1) (s.size+1) 0 [] (Nat.zero_le _) (by rw[←size_data];omega)
  rw[hv]at this
  exact this
 rw[hv]at ir sr hlen t1 t3 t4
 simp only at hlen t1 t3 t4
 subst t1
 rw[←size_data]at t2
 have sd:=sameDeeds_ev list om_
 refine Es (f:=fun k=>(spec_DrawReadJournal.f k l0).bind fun t909=>((impl_ReadJournal.f k t909).bind fun bt910=>((spec_ReadJournal.f k t909).bind fun bt914=>((laws_sameDeeds.f k bt910.1 bt914.1).bind fun t918=>(if t918=true then(laws_FnReadJournal.j1 k l1 t909 bt910.1 bt910.2 (bt910.2 != bt914.2))else(laws_FnReadJournal.j1 k l1 t909 bt910.1 bt910.2 true)))))) (fun k=>by simp only[laws_FnReadJournal.j0];rw[if_neg (by simp)]) ?_
 refine Eb hD (Eb ir (Eb sr (Eb sd (Ep rfl ?_))))
 rw[show((q:Int) != (q:Int))=false from bne_self_eq_false ..]
 refine Es (f:=fun k=>laws_FnReadJournal.l0 k l1 s list (q:Int) 0) (fun k=>by simp only[laws_FnReadJournal.j1];rw[if_neg (by simp)]) ?_
 -- the desk
 have g4:∀x∈l,x.length≤1000000:=fun x hx=>by have:=g3 x hx;omega
 have eo:=spec_desk a l om_ om_ (fun x hx=>by have:=g3 x hx;omega)
 have ej:=impl_journal list om_
 have hT:(jTxt list tNone)=s.extract 0 ((q:Int)).toNat :=by
  have h5:=jTxt_data list tNone t4
  rw[show tNone.data.toList=[]from rfl,List.nil_append,t3]at h5
  rw[←bw_data (jTxt list tNone),h5,show((q:Int)).toNat =q by omega,ext_bw]
  simp
 have finN:∀(n:List Int) (p:List (List Int)) (i:Int) (e1:List Int) (e2:List (List Int)) (c:Int),Ev (fun k=>impl_DeskRun.f k a l list) (e1,e2,c)→(deskB a l=true→list.length≤40→Ev (fun k=>laws_sameDesk.f k n p e1 e2) true)→Ev (fun k=>laws_FnReadJournal.j4 k s list (q:Int) i false a l n p) true:=fun n p i e1 e2 c er he=>by
  refine Ev.up ?_
  simp only[laws_FnReadJournal.j4]
  refine En (by simp) (Eb er (Ep om_ (Eb ej (Ep om_ (Ep (by rw[hT]) (Eb eo ?_))))))
  cases hb:deskB a l with
  |false=>exact En (by simp) (Ec alive_eq (Ev.now _))
  |true=>
   refine Ep rfl ?_
   by_cases h40:(list.length:Int)>40
   ·exact Ep h40 (Ec alive_eq (Ev.now _))
   ·exact En h40 (Eb (he hb om_) (Ep rfl (Ec alive_eq (Ev.now _))))
 have lines:Ev (fun k=>laws_FnReadJournal.l1 k s list (q:Int) 0 a l a l) true:=by
  cases hb:deskB a l with
  |false=>
   rw[hb]at eo
   have er:=run_noneI a l list om_ om_ g4 (by rw[hb];simp)
   have:=finN a l 0 [] [] 0 er (fun z=>by rw[hb]at z;cases z)
   refine Ev.up ?_
   simp only[laws_FnReadJournal.l1]
   by_cases h0:(0:Int)<(list.length:Int)
   ·exact Ep h0 (Eb eo this)
   ·exact En h0 this
  |true=>
   rw[hb]at eo
   obtain⟨n',p',m',hr,hb',hm'⟩:=run_ex list a l 0 hb
   obtain⟨e1,e2,c,er,hsame⟩:∃e1 e2 c,Ev (fun k=>impl_DeskRun.f k a l list) (e1,e2,c)∧(list.length≤40→e1=n'∧e2=p'):=by
    by_cases h40:list.length≤40
    ·exact⟨_,_,_,run_bothI a l list hb h40 hr,fun _=>⟨rfl,rfl⟩⟩
    ·exact⟨_,_,_,run_noneI a l list om_ om_ g4 (fun z=>h40 z.2),fun z=>absurd z h40⟩
   have key:∀(r:List S55) (i:Nat) (n:List Int) (p:List (List Int)) (m:Nat),list.drop i=r→i≤list.length→deskB n p=true→RunR r n p m n' p' m'→Ev (fun k=>laws_FnReadJournal.l1 k s list (q:Int) (i:Int) a l n p) true:=by
    intro r
    induction r with
    |nil=>
     intro i n p m h hi hn hrun
     have:list.length≤i:=List.drop_eq_nil_iff.1 h
     obtain⟨rfl,rfl,rfl⟩:=hrun
     refine Ev.up ?_
     simp only[laws_FnReadJournal.l1]
     refine En om_ (finN n' p' i e1 e2 c er (fun _ h40=>?_))
     obtain⟨rfl,rfl⟩:=hsame h40
     exact sameD_ev (by have:=deskB_sz hn;omega) (.inl hn)
    |cons x r ih=>
     intro i n p m h hi hn hrun
     obtain⟨hlt,hx,hd⟩:=drop_at h
     obtain⟨r1,r2,r3,d,hrun⟩:=hrun
     have hxm:=t4 x (List.mem_of_getElem? hx)
     have eL:=line_deed hxm hn d
     have eT:=impl_deedText x.f0 x.f1 x.f2
     have next:Ev (fun k=>laws_FnReadJournal.l1 k s list (q:Int) (wrap64 ((i:Int)+1)) a l r1 r2) true:=by
      rw[w64 om_ om_]
      cases r3 with
      |true=>exact ih (i+1) r1 r2 (m+1) hd hlt (d.ok rfl).2 (by simpa using hrun)
      |false=>
       obtain⟨rfl,rfl⟩:=d.not hn rfl
       exact ih (i+1) _ _ m hd hlt hn (by simpa using hrun)
     have j4:Ev (fun k=>laws_FnReadJournal.j4 k s list (q:Int) (i:Int) true a l n p) true:=by
      refine Ev.up ?_
      simp only[laws_FnReadJournal.j4,rd_at hx]
      refine Ep trivial (Ep om_ (Ep om_ (Eb eT (Eb eL ?_))))
      cases r3 with
      |true=>exact Ep (bw_toList [111,107]) next
      |false=>exact En (fun z=>absurd ((bw_toList [110,111,116]).symm.trans z) dc_) (Ep (bw_toList [110,111,116]) next)
     refine Ev.up ?_
     simp only[laws_FnReadJournal.l1]
     exact Ep om_ (Eb eo j4)
   exact key list 0 a l 0 rfl (Nat.zero_le _) hb hr
 -- the beginnings
 have loop:∀(f i:Nat),i+f=s.size+1→Ev (fun k=>laws_FnReadJournal.l0 k l1 s list (q:Int) (i:Int)) true:=by
  intro f
  induction f with
  |zero=>
   intro i hi
   refine Ev.up ?_
   simp only[laws_FnReadJournal.l0]
   exact En om_ (Eb hE lines)
  |succ f ih=>
   intro i hi
   obtain⟨c1,c2⟩:=hc i om_
   have hx:s.extract 0 ((i:Int)).toNat =bw (s.data.toList.take i):=by
    rw[show((i:Int)).toNat =i by omega,ext_bw]
    simp
   have hxs:(bw (s.data.toList.take i)).size =i:=by rw[bw_size,List.length_take,←size_data];omega
   have ei:=impl_readJournal (bw (s.data.toList.take i)) om_
   rw[hxs,data_bw]at ei
   obtain⟨x,m,hxm⟩:∃x m,rjV (s.data.toList.take i) (i+1) [] 0=(x,m):=⟨_,_,rfl⟩
   rw[hxm]at c1 c2 ei
   simp only at c1 c2
   have hxl:=c1.length_le
   have sx:=sameDeeds_ev x om_
   have hx0:(0:Int)≤(x.length:Int):=by omega
   have hx1:(x.length:Int)≤(list.length:Int):=by omega
   have hx2:¬m>(i:Int):=by omega
   have hn:=ih (i+1) om_
   have hmn:mn (x.length:Int) (list.length:Int)=(x.length:Int):=by
    unfold mn
    split <;> omega
   have htk:list.take ((x.length:Int)).toNat =x:=by
    rw[Int.toNat_natCast]
    exact(List.prefix_iff_eq_take.1 c1).symm
   refine Ev.up ?_
   simp only[laws_FnReadJournal.l0,hx]
   refine Ep om_ (Ep om_ (Eb ei (En (by simp only;omega) ?_)))
   simp only[hmn,htk]
   have e1:wrap64 ((i:Int)+1)=((i+1:Nat):Int):=w64 om_ om_
   simp only[e1]
   exact Ep hx0 (Ep hx1 (Eb sx (Ep rfl (En hx2 hn))))
 exact loop (s.size+1) 0 om_
end Go.Proofs.YtdmlkjjlgkdnlaaGreatDoor.Pure
