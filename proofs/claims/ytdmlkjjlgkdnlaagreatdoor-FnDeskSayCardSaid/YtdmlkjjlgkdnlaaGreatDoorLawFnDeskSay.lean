/-
  The tied card of the law FnDeskSay: for every argument the call returns true. Conditions: the library's tables start as their own initialisers lay them (tied by the given tie).
-/
import Derived.Test.YtdmlkjjlgkdnlaaGreatDoorCards
import Derived.Test.YtdmlkjjlgkdnlaaGreatDoorTie
import Derived.Test.YtdmlkjjlgkdnlaaGreatDoorPFnDeskSayx38
import Derived.Test.YtdmlkjjlgkdnlaaGreatDoorPureFnDeskSay
import Derived.WalkKit
import Derived.ProofKit
import Derived.OpenShut
import Derived.ShutString
import Derived.ChangeOld
import Derived.ChangeSame
import Derived.Below
import Derived.SizedLaws
import Derived.Deep.DeepHandedRow
import Derived.Deep.DeepWitnessRowRef
import Derived.Lib.LaidTab
import Derived.LaidMore
import Derived.Lay
import Derived.Stop.Joined
import Derived.Deep.Strs
import Derived.Deep.Slices
import Derived.Test.YtdmlkjjlgkdnlaaGreatDoorWSized
namespace Go.Proofs.YtdmlkjjlgkdnlaaGreatDoor.fnDeskSay
open Go.ChangeShapes Go.WideShapes Go.ChangeAt Go.RowKit Go.Deep Go.Proofs.YtdmlkjjlgkdnlaaGreatDoorW.PrintWords
open Go.ChangeMaps (open_string shut_string)
set_option linter.unusedVariables false
def IsRow (k:IntKind) (w:World) (a:Option Addr) (len cap:Nat) (zs:List Int):Prop:=
  (a=none/\len=0/\cap=0/\zs=[])\/
  ∃x,a=some x/\len<=cap/\cap<=maxLen/\zs.length=cap/\(∀i,i<zs.length->w.cell? (x.add i)=some (.int k (zs.getD i 0)))/\∀n∈zs,(Lit.int k n).wf =true
theorem own:ownKnob Tryz.prog.godebug=none:=by kernel_rfl
theorem laidOut:laidOutB Tryz.prog=true:=by kernel_rfl
theorem gPow:Tryz.prog.globalNamed "internal/strconv.uint64pow10" =some 3:=by kernel_rfl
theorem gPowType:(Tryz.prog.globals[3]?).map (·.type)=some 155:=by kernel_rfl
theorem powData:(Rows.laid_internal_strconv_uint64pow10:DataW Unit)=Go.Lib.tabData .u64 Go.Lib.pow10Tab:=by rfl
theorem gSyn:Tryz.prog.globalNamed "strconv.ErrSyntax" =some 1:=by kernel_rfl
theorem gSynT:(Tryz.prog.globals[1]?).map (·.type)=some 98:=by kernel_rfl
theorem gRan:Tryz.prog.globalNamed "strconv.ErrRange" =some 2:=by kernel_rfl
theorem gRanT:(Tryz.prog.globals[2]?).map (·.type)=some 98:=by kernel_rfl
theorem gl_of {W:World} (hL:laidMetH Tryz.prog Rows.fnDeskSayRow.laid W) (hsh:W.ShapedOpen Tryz.prog):PFnDeskSay.GL W:=by
  have h:laidMet Tryz.prog Rows.fnDeskSayRow.laid W:=hL
  obtain⟨ps,⟨g0,t0,cs0,f0,p0,q0,hg0,ht0,hv0,hd0,⟨g1,t1,cs1,f1,p1,q1,hg1,ht1,hv1,hd1,⟨g2,t2,cs2,f2,p2,q2,hg2,ht2,hv2,hd2,⟨g3,t3,cs3,f3,p3,q3,hg3,ht3,hv3,hd3,⟨g4,t4,cs4,f4,p4,q4,hg4,ht4,hv4,hd4,⟨g5,t5,cs5,f5,p5,q5,hg5,ht5,hv5,hd5,⟨g6,t6,cs6,f6,p6,q6,hg6,ht6,hv6,hd6,_,_⟩,_⟩,_⟩,_⟩,_⟩,_⟩,_⟩,_,_⟩:=h
  obtain rfl:=Option.some.inj (gPow.symm.trans hg2)
  obtain rfl:=Option.some.inj (gPowType.symm.trans ht2)
  have tab:Go.Lib.TabIs Tryz.prog W "internal/strconv.uint64pow10" .u64 Go.Lib.pow10Tab:=by
    unfold Go.Lib.TabIs
    rw[powData]at hd2
    rw[hv2,<-Go.Lib.cells_of_tab Tryz.underlying155 Tryz.underlying137 (by kernel_rfl) (by kernel_rfl) hd2]
  have hmax:∃m,W.cell? ⟨0,0,none⟩=some (.int .i64 m):=Go.Proofs.cell_of_shapedOpen_int (zero:=#[.int .i64 0]) (t:=3) hsh (of_decide_eq_true (by kernel_rfl)) (by kernel_rfl) rfl (by kernel_rfl) (by kernel_rfl) Tryz.underlying3
  have eSyn:∃ev,W.cell? ⟨1,0,none⟩=some ev/\(ev= .nilIface \/∃te pe,ev= .iface te pe):=by
    obtain rfl:=Option.some.inj (gSyn.symm.trans hg5)
    obtain rfl:=Option.some.inj (gSynT.symm.trans ht5)
    obtain⟨l_⟩:=cs5
    obtain⟨_,u,v,hcs,_,_⟩:=iface_of_trod Tryz.underlying98 hd5
    have h0:=World.var?_cell gSyn hv5 0
    simp only at hcs
    subst hcs
    exact⟨.iface u v,by simpa using h0,.inr ⟨u,v,rfl⟩⟩
  have eRan:∃ev,W.cell? ⟨2,0,none⟩=some ev/\(ev= .nilIface \/∃te pe,ev= .iface te pe):=by
    obtain rfl:=Option.some.inj (gRan.symm.trans hg4)
    obtain rfl:=Option.some.inj (gRanT.symm.trans ht4)
    obtain⟨l_⟩:=cs4
    obtain⟨_,u,v,hcs,_,_⟩:=iface_of_trod Tryz.underlying98 hd4
    have h0:=World.var?_cell gRan hv4 0
    simp only at hcs
    subst hcs
    exact⟨.iface u v,by simpa using h0,.inr ⟨u,v,rfl⟩⟩
  exact⟨tab,hmax,eSyn,eRan⟩
noncomputable abbrev door (os:Os):World:=World.laidAll Tryz.prog os Rows.fnDeskSayRow.laid
theorem door_met (os:Os) (args:Array Value):laidMet Tryz.prog Rows.fnDeskSayRow.laid ((door os).forCall (fun _ _=>0) ⟨#[],args,[]⟩).memory :=laidMet_laidAll _ (by kernel_rfl) (by kernel_rfl)
theorem reads (os:Os) {H:Type} (enc:TypeId×Value->H):∃places,DataW.whole enc Tryz.prog ((door os).forCall (fun _ _=>0) ⟨#[],#[.slice none 0 0],[]⟩).memory Tryz.f4.params.toList Rows.fnDeskSaySpec.vars false (#[.slice none 0 0]:Array Value).toList 8=some ([.nil],[],places):=
  ⟨[],by kernel_rfl⟩
set_option maxRecDepth 100000 in
theorem lifted (os:Os) (started:os.Started) (H:Type) (enc:TypeId×Value->H) (F:Stop.Interp):
    ReturnsInHanded {} Tryz.checked os 4 .any ((OpenSpec.ofChange Rows.fnDeskSaySpec).preRow enc Tryz.prog Tryz.f4 Rows.fnDeskSayRow.domain false Rows.fnDeskSayRow.laid) (((OpenSpec.ofChange Rows.fnDeskSaySpec).at F).post enc Tryz.prog Tryz.f4 false true false false):=by
  obtain⟨places,hx⟩:=reads os enc
  refine returnsInHanded_of_row (C:=Tryz.checked) (s:=OpenSpec.ofChange Rows.fnDeskSaySpec) own started (by kernel_rfl) Tryz.func4
    ⟨door os,fun _ _=>0,⟨#[],#[.slice none 0 0],[]⟩,World.laidAll_os _ _ _,World.shaped_of_ZipB (by kernel_rfl) (by kernel_rfl),rfl,(Input.okWide_of_okWideB (by kernel_rfl)).2,
      OpenSpec.preRow_of_cond 8 hx (by kernel_rfl) (fun k hk=>by cases hk) (by kernel_rfl) (door_met os _),by
        simp only[Assume.holds]
        exact⟨by simp,by simp,fun _=>Modest.zero,by simp,by simp⟩⟩ ?_
  clear hx places
  intro W base args ds gs before hval0 hW _ _ hsz0 hL hsh _
  have hG:PFnDeskSay.GL W:=gl_of hL hsh
  clear hL hsh
  have hsz:(DataW.weightsEach Tryz.prog (Tryz.f4.params.toList++Rows.fnDeskSaySpec.plain.varTypes Tryz.prog) (ds++gs)).all (· <=reachBytes)=true:=hsz0
  have hval:∀(j:Nat) t v,Tryz.f4.params[j]? =some t->args[j]? =some v->Value.okWide Tryz.prog W .any base t v:=hval0
  have hW':=hW
  obtain⟨p,q,hA0,hV,rfl,hfz,hnd⟩:=hW
  have hA:DataW.TrodAll enc Tryz.prog W 0 (fun _=>true) true Tryz.f4.params.toList args.toList ds p:=hA0
  rw[Tryz.params4]at hA hval hsz
  obtain⟨v0,vs0,d0,ds0,p0,q0,hargs,rfl,rfl,h0,r0⟩:=trodAll_cons hA
  obtain⟨rfl,rfl,rfl⟩:=trodAll_nil r0
  obtain rfl:args=#[v0]:=by cases args;simp_all
  obtain⟨rfl,rfl⟩:=trodVars_none hV
  obtain⟨a0,len0,cap0,rfl⟩:=okWide_slice Tryz.underlying34 (hval 0 34 v0 rfl rfl)
  have k0:=h0
  have lt0:∀x∈p0,x.block<W.heap.size:=by obtain⟨m,hm⟩:=k0;exact DataW.trod_lt m _ _ _ hm
  obtain⟨z0,w0⟩:∃zs,IsRow .u8 W a0 len0 cap0 zs:=by
    obtain⟨fuel,hf⟩:=h0
    rcases open_ints Tryz.underlying34 Tryz.underlying5 (by kernel_rfl) hf with⟨hcs,_⟩|⟨x,l,c,zs,hcs,_,hl,hm,hz,_,hcell,hwz⟩
    · simp[Value.cells]at hcs
      obtain⟨rfl,rfl,rfl⟩:=hcs
      exact⟨[],.inl ⟨rfl,rfl,rfl,rfl⟩⟩
    · simp[Value.cells]at hcs
      obtain⟨rfl,rfl,rfl⟩:=hcs
      exact⟨zs,.inr ⟨_,rfl,hl,hm,by simpa using hz,hcell,hwz⟩⟩
  have y0:len0*1<=140737488351232:=sized_ints hsz (j:=0) (t:=34) rfl rfl Tryz.underlying34 Tryz.underlying5 (by kernel_rfl) (by kernel_rfl) h0
  clear hA0 hval0 hsz0 hsz
  refine(PFnDeskSay.Aq.walk Pure.FnDeskSay a0 len0 cap0 z0 W w0 y0 hG).mono fun e W' ⟨he,bel⟩=>?_
  subst he
  exact⟨_,rfl,_,_,_,[],_,[],hW',trodAll_mk1 (shut_bool Tryz.underlying4 _),(trodAll_cons_mk (Below.trod laidOut (by kernel_rfl) (of_decide_eq_true (by kernel_rfl)) k0 bel lt0) trodAll_mk0),rfl,bel.frame _,fun h=>by cases h⟩
theorem said:Rows.FnDeskSaySaid:=
  OpenClaim.holds_of_cond 4 Tryz.f4 rfl rfl rfl rfl rfl rfl rfl ⟨rfl,rfl,rfl,rfl,rfl⟩ rfl rfl rfl rfl rfl (by kernel_rfl) Tryz.func4 (by kernel_rfl)
    (of_decide_eq_true (by kernel_rfl)) (by unfold Func.isWrapper;first|(rw[if_pos (by decide+kernel)];kernel_rfl)|(rw[if_neg (by decide+kernel)];exact⟨rfl,rfl⟩))
    (fun os started H enc _ F=>by rw[OpenClaim.pre_eq_preRow];exact lifted os started H enc F)
theorem plain (f:FuncId) (fn:Func) (hf:Tryz.pinned.checked.prog.funcNamed "loop.example/divisorrows/laws.FnDeskSay" =some f) (hfn:Tryz.pinned.checked.prog.funcs[f]? =some fn):
    true=Tryz.pinned.checked.prog.looks []/\∀(j:Nat) t,fn.params[j]? =some t->Tryz.pinned.checked.prog.wantsStandIn t=false:=by
  obtain rfl:f=4:=Option.some.inj ((show Tryz.prog.funcNamed "loop.example/divisorrows/laws.FnDeskSay" =some 4 by kernel_rfl).symm.trans hf) |>.symm
  obtain rfl:fn=Tryz.f4:=(Option.some.inj (Tryz.func4.symm.trans hfn)).symm
  refine⟨by kernel_rfl,fun j t ht=>?_⟩
  rw[Tryz.params4]at ht
  obtain rfl:t=34:=by simpa using Array.mem_of_getElem? ht
  exact(show Tryz.prog.wantsStandIn 34=false by kernel_rfl)
theorem card:Rows.FnDeskSayCardSaid:=
  Claim7.holds_tied_plain_at .later [] _ _ _ _ said (fun _ h=>by cases h) (by kernel_rfl) (fun _ h=>by cases h) fnDeskSay_row_tie rfl ⟨rfl,rfl⟩ (by kernel_rfl) rfl plain (by kernel_rfl)
#print axioms card
end Go.Proofs.YtdmlkjjlgkdnlaaGreatDoor.fnDeskSay
namespace Go.Proofs.YtdmlkjjlgkdnlaaGreatDoor
/-- The card, under a short name, for the claim. -/
theorem fnDeskSay_holds:Rows.FnDeskSayCardSaid:=fnDeskSay.card
end Go.Proofs.YtdmlkjjlgkdnlaaGreatDoor
