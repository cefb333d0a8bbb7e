-- What the kit's print laid for this claim, without what nothing here uses (wip/shrink.py)
import Derived.Test.YtdmlkjjlgkdnlaaGreatDoorWFootNe
namespace Go.Proofs.YtdmlkjjlgkdnlaaGreatDoorW.PrintWords
open Go.RowKit
section
variable {w w' u:World} {m B g:Nat} {o:Obj} {row:Option Nat} {S:Nat->Prop} {a:Addr} {v:Value}
theorem Kg (hq:w.drewN m=w') (h:Below B u w):Below B u w':=by subst hq;exact Fe h m
end
namespace Kd
section
variable {α:Type} {d:Kd α} {e base n m:Nat} {ok:Nat->Prop} {w w':World} {v:Value} {A:Option Addr} {xs:List α}
theorem R_at (hq:w.drewN m=w') (h:d.R e w base ok v xs):d.R e w' base ok v xs:=by subst hq;exact Hv h m
end
end Kd
end Go.Proofs.YtdmlkjjlgkdnlaaGreatDoorW.PrintWords
