/-
  CheckDead returns true for every input, and leaves its arguments as they were. No condition.
-/
import Derived.Test.YtjpdadobblffmaaGreatQCheckDead
import Derived.Test.YtjpdadobblffmaaGreatRows
import Derived.WalkKit
import Derived.ProofKit
import Derived.OpenShut
import Derived.Test.YtjpdadobblffmaaGreatCC7
namespace Go.Proofs.YtjpdadobblffmaaGreat
open Go.RowKit Go.ChangeShapes Go.WideShapes Go.ChangeAt Go.Deep
set_option linter.unusedSimpArgs false
set_option linter.unusedVariables false
theorem LP:ownKnob Tryz.prog.godebug=none:=by kernel_rfl
theorem rI:laidOutB Tryz.prog=true:=by kernel_rfl
theorem JR:(Tryz.f6.params.toList.all fun t=>Tryz.prog.readableRec t&&decide (t<Tryz.prog.types.size))=true:=by kernel_rfl
set_option maxRecDepth 100000 in
theorem CM(os:Os)(started:os.Started)(H:Type)(enc:TypeId×Value→H):
  ReturnsInHanded {} Tryz.checked os 6 .any (Rows.checkDeadSpec.pre6 enc Tryz.prog Tryz.f6 Rows.checkDeadRow.domain false) (Rows.checkDeadSpec.post enc Tryz.prog Tryz.f6 false true false false):=by
 refine returnsInHanded_of_change (C:=Tryz.checked) LP started (by kernel_rfl) Tryz.func6
  (ChangeSpec.witness6 (enc:=enc) (C:=Tryz.checked) false ⟨#[],#[.int .i64 0,.slice none 0 0,.int .i64 0],[]⟩ 8 (by kernel_rfl) (by kernel_rfl) (by kernel_rfl) (by kernel_rfl)) ?_
 intro W base args ds gs before hval0 hW hcnd _;have hval:∀(j:Nat) t v,Tryz.f6.params[j]? =some t→args[j]? =some v→Value.okWide Tryz.prog W .any base t v:=hval0;have hW':=hW;obtain⟨p,q,hA0,hV,rfl,hfz,hnd⟩:=hW;have hA:DataW.TrodAll enc Tryz.prog W 0 (fun _=>true) true Tryz.f6.params.toList args.toList ds p:=hA0;rw[Tryz.params6]at hA hval;obtain⟨rfl,rfl⟩:=trodVars_none hV;obtain⟨v0,vs0,d0,ds0,p0,q0,hargs,rfl,rfl,h0,r0⟩:=trodAll_cons hA;obtain⟨v1,vs1,d1,ds1,p1,q1,rfl,rfl,rfl,h1,r1⟩:=trodAll_cons r0;obtain⟨v2,vs2,d2,ds2,p2,q2,rfl,rfl,rfl,h2,r2⟩:=trodAll_cons r1;obtain⟨rfl,rfl,rfl⟩:=trodAll_nil r2;obtain rfl:args=#[v0,v1,v2]:=by cases args;simp_all
 obtain⟨a0,rfl,rfl,rfl,w0⟩:=open_int Tryz.underlying3 (hval 0 3 v0 rfl rfl) h0;obtain⟨A1,n1,c1,rfl⟩:=okWide_slice Tryz.underlying42 (hval 1 42 v1 rfl rfl);obtain⟨x1,k1,s1⟩:=ZK UD rfl h1;obtain⟨a2,rfl,rfl,rfl,w2⟩:=open_int Tryz.underlying3 (hval 2 3 v2 rfl rfl) h2;refine(FK (JQ a0 x1 a2 k1) rfl (lS (VR.int _ a0) (lS s1 (lS (VR.int _ a2) PT)))).mono fun e W' ⟨he,hb⟩=> ?_
 subst he;exact⟨_,rfl,yW rI rfl Tryz.underlying4 rfl rfl (FI JR) hW' hb⟩
theorem EE:Tryz.prog.funcNamed Rows.checkDeadRow.func=some 6:=by kernel_rfl
theorem SE:(Rows.checkDeadRow.wf (OpenSpec.ofChange Rows.checkDeadSpec))=true:=by kernel_rfl
theorem SF:(mapsRowed Tryz.prog)=true:=by kernel_rfl
theorem SG:(Tryz.f6.params.all (Tryz.prog.readableRec ·))=true:=by kernel_rfl
theorem SH:(namedTie Tryz.prog Rows.checkDeadRow.named Rows.checkDeadSpec.vars)=true:=by kernel_rfl
theorem SI:((Rows.checkDeadRow.stops==[]))=true:=by kernel_rfl
theorem SJ:((Tryz.prog.stops==[]))=true:=by kernel_rfl
theorem SK:((Rows.checkDeadRow.knobs==[]))=true:=by kernel_rfl
theorem SM:((Tryz.prog.stopKnobs==[]))=true:=by kernel_rfl
theorem SN:((Rows.checkDeadRow.inPlace==Tryz.prog.inPlace 6))=true:=by kernel_rfl
theorem LQ:((Rows.checkDeadRow.unfollowed==Tryz.prog.unfollowed 6))=true:=by kernel_rfl
theorem LS:((Rows.checkDeadRow.recurses==Tryz.prog.recurses 6))=true:=by kernel_rfl
theorem LT:((Rows.checkDeadRow.named==Tryz.prog.varsNamed 6))=true:=by kernel_rfl
theorem LU:((Rows.checkDeadRow.maps==(Tryz.f6.params.toList++Rows.checkDeadSpec.plain.varTypes Tryz.prog).any (Tryz.prog.mapsRec ·)))=true:=by kernel_rfl
theorem LV:((Rows.checkDeadRow.ifaces==(Tryz.f6.params.toList++Rows.checkDeadSpec.plain.varTypes Tryz.prog).any (Tryz.prog.ifacesRec ·)))=true:=by kernel_rfl
theorem LW:((Rows.checkDeadRow.mapsOut==Tryz.prog.mapsAmong Tryz.f6.resultTypes.toList))=true:=by kernel_rfl
theorem LX:((Rows.checkDeadRow.loops==(Tryz.f6.params.toList++Rows.checkDeadSpec.plain.varTypes Tryz.prog).any (Tryz.prog.loopsFrom ·)))=true:=by kernel_rfl
theorem LY:((Rows.checkDeadRow.wideKeys==(Tryz.f6.params.toList++Rows.checkDeadSpec.plain.varTypes Tryz.prog++Tryz.f6.resultTypes.toList).any (Tryz.prog.wideKeysFrom ·)))=true:=by kernel_rfl
theorem LZ:(Rows.checkDeadSpec.vars.all (Tryz.prog.varReadable ·))=true:=by kernel_rfl
theorem MA:(Tryz.f6.resultTypes.all (fun t=>Tryz.prog.readableRec t&&decide (t<Tryz.prog.types.size)))=true:=by kernel_rfl
theorem MB:((Rows.checkDeadRow.ifacesOut==Tryz.f6.resultTypes.toList.any (Tryz.prog.ifacesRec ·)))=true:=by kernel_rfl
theorem MC:((Rows.checkDeadRow.loopsOut==Tryz.f6.resultTypes.toList.any (Tryz.prog.loopsFrom ·)))=true:=by kernel_rfl
theorem MD:((Rows.checkDeadRow.plainKeys==Tryz.prog.plainKeys))=true:=by kernel_rfl
theorem ME:(Rows.checkDeadRow.shortTexts.isNone)=true:=by kernel_rfl
theorem MF:(Tryz.prog.stopsHeard)=true:=by kernel_rfl
theorem MG:(Tryz.prog.mayEnter)=true:=by kernel_rfl
theorem MH:((Rows.checkDeadRow.lifted==Tryz.prog.liftsFinal))=true:=by kernel_rfl
theorem MI:((Tryz.prog.make==some Rows.checkDeadRow.make))=true:=by kernel_rfl
theorem MJ:((Rows.checkDeadRow.kinds==(if Rows.checkDeadRow.domain.isEmpty then []else Tryz.f6.params.toList.map fun t=>match Tryz.prog.underlying t with|some (.int k)=>some k| _=>none)))=true:=by kernel_rfl
theorem MK:((Rows.checkDeadRow.pinned==Rows.checkDeadRow.pinnedBy))=true:=by kernel_rfl
theorem ML:((Rows.checkDeadRow.veiled==(Tryz.f6.params.toList++Rows.checkDeadSpec.plain.varTypes Tryz.prog++Tryz.f6.resultTypes.toList).any (Tryz.prog.veiledRec ·)))=true:=by kernel_rfl
theorem MM:(Rows.checkDeadRow.veiledFits Tryz.prog Tryz.f6.params.toList (Tryz.f6.params.toList++Rows.checkDeadSpec.plain.varTypes Tryz.prog++Tryz.f6.resultTypes.toList))=true:=by kernel_rfl
set_option maxRecDepth 100000 in
theorem EF:joinedFacts Tryz.prog 6 Tryz.f6 Rows.checkDeadSpec Rows.checkDeadRow=true:=by
 unfold joinedFacts;simp only[Bool.and_eq_true];exact⟨⟨⟨⟨⟨⟨⟨⟨⟨⟨⟨⟨⟨⟨⟨⟨⟨⟨⟨⟨⟨⟨⟨⟨⟨⟨⟨⟨⟨⟨⟨SE,rI⟩,SF⟩,SG⟩,SH⟩,SI⟩,SJ⟩,SK⟩,SM⟩,SN⟩,LQ⟩,LS⟩,LT⟩,LU⟩,LV⟩,LW⟩,LX⟩,LY⟩,LZ⟩,MA⟩,MB⟩,MC⟩,MD⟩,ME⟩,MF⟩,MG⟩,MH⟩,MI⟩,MJ⟩,MK⟩,ML⟩,MM⟩
theorem EG:decide (Tryz.f6.isInstance Tryz.prog Rows.checkDeadRow.origin Rows.checkDeadRow.targs)=true:=by kernel_rfl
theorem JS:Tryz.f6.isWrapper Tryz.prog Rows.checkDeadRow.wrapper Rows.checkDeadRow.mainSum:=by unfold Func.isWrapper;first|(rw[if_pos (by decide+kernel)];kernel_rfl)|(rw[if_neg (by decide+kernel)];exact⟨rfl,rfl⟩)
set_option maxRecDepth 100000 in
theorem checkDead_holds:Rows.CheckDeadSaid:=
 OpenClaim.holds_of_wide 6 Tryz.f6 rfl rfl rfl rfl rfl rfl rfl ⟨rfl,rfl,rfl,rfl,rfl⟩ rfl rfl rfl rfl rfl EE Tryz.func6 EF
  (of_decide_eq_true EG) JS (fun os started H enc _=>CM os started H enc)
end Go.Proofs.YtjpdadobblffmaaGreat
