/- Rounds, one by one; lengths of rows. No program in sight.
-/
import Derived.Test.YtdmlkjjlgkdnlaaGreatDoorLibRow
namespace Go.Proofs.YtdmlkjjlgkdnlaaGreatDoor.Lib
open Go.RowKit Go.Proofs.YtdmlkjjlgkdnlaaGreatDoorW.PrintWords
set_option linter.unusedVariables false
set_option linter.unusedSimpArgs false
theorem Ev.up {α:Type} {g:Nat->Option α} {r:α} (h:Ev (fun k=>g (k+1)) r):Ev g r:=Es (fun _=>rfl) h
theorem Il {row:List Int} (h:rowB row=true):row.length=24:=by
 unfold rowB at h
 simp only[Bool.and_eq_true,beq_iff_eq]at h
 omega
theorem Kr {now:List Int} {past:List (List Int)} (h:He now past=true):now.length=24/\past.length<=8/\∀x∈past,x.length=24:=by
 unfold He at h
 simp only[Bool.and_eq_true,decide_eq_true_eq]at h
 refine⟨Il h.2.1,by omega,fun x hx=>?_⟩
 obtain⟨i,hi,rfl⟩:=List.mem_iff_getElem.1 hx
 have:=allF_at _ _ _ h.1 i om_ om_
 simp only[List.getD_eq_getElem?_getD,List.getElem?_eq_getElem hi,Option.getD_some]at this
 exact Il this
end Go.Proofs.YtdmlkjjlgkdnlaaGreatDoor.Lib
