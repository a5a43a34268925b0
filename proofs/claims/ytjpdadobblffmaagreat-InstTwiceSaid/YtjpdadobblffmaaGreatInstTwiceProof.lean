/-
  InstTwice returns true for every input, and leaves its arguments as they were. No condition.
-/
import Derived.Test.YtjpdadobblffmaaGreatUInstTwice
import Derived.Test.YtjpdadobblffmaaGreatRows
import Derived.WalkKit
import Derived.ProofKit
import Derived.OpenShut
import Derived.Test.YtjpdadobblffmaaGreatIA6
namespace Go.Proofs.YtjpdadobblffmaaGreat
open Go.RowKit Go.ChangeShapes Go.WideShapes Go.ChangeAt Go.Deep
set_option linter.unusedSimpArgs false
set_option linter.unusedVariables false
theorem CH:ownKnob Tryz.prog.godebug=none:=by kernel_rfl
theorem nQ:laidOutB Tryz.prog=true:=by kernel_rfl
theorem AX:(Tryz.f13.params.toList.all fun t=>Tryz.prog.readableRec t&&decide (t<Tryz.prog.types.size))=true:=by kernel_rfl
set_option maxRecDepth 100000 in
theorem wJ(os:Os)(started:os.Started)(H:Type)(enc:TypeId×Value→H):
  ReturnsInHanded {} Tryz.checked os 13 .any (Rows.instTwiceSpec.pre6 enc Tryz.prog Tryz.f13 Rows.instTwiceRow.domain false) (Rows.instTwiceSpec.post enc Tryz.prog Tryz.f13 false true false false):=by
 refine returnsInHanded_of_change (C:=Tryz.checked) CH started (by kernel_rfl) Tryz.func13
  (ChangeSpec.witness6 (enc:=enc) (C:=Tryz.checked) false ⟨#[],#[.int .i64 0,.int .u64 0],[]⟩ 8 (by kernel_rfl) (by kernel_rfl) (by kernel_rfl) (by kernel_rfl)) ?_
 intro W base args ds gs before hval0 hW hcnd _;have hval:∀(j:Nat) t v,Tryz.f13.params[j]? =some t→args[j]? =some v→Value.okWide Tryz.prog W .any base t v:=hval0;have hW':=hW;obtain⟨p,q,hA0,hV,rfl,hfz,hnd⟩:=hW;have hA:DataW.TrodAll enc Tryz.prog W 0 (fun _=>true) true Tryz.f13.params.toList args.toList ds p:=hA0;rw[Tryz.params13]at hA hval;obtain⟨rfl,rfl⟩:=trodVars_none hV;obtain⟨v0,vs0,d0,ds0,p0,q0,hargs,rfl,rfl,h0,r0⟩:=trodAll_cons hA;obtain⟨v1,vs1,d1,ds1,p1,q1,rfl,rfl,rfl,h1,r1⟩:=trodAll_cons r0;obtain⟨rfl,rfl,rfl⟩:=trodAll_nil r1;obtain rfl:args=#[v0,v1]:=by cases args;simp_all
 obtain⟨a0,rfl,rfl,rfl,w0⟩:=open_int Tryz.underlying2 (hval 0 2 v0 rfl rfl) h0;obtain⟨a1,rfl,rfl,rfl,w1⟩:=open_int Tryz.underlying87 (hval 1 87 v1 rfl rfl) h1;refine(FY (CG a0 a1) rfl (uK (VR.int _ a0) (uK (VR.int _ a1) OJ))).mono fun e W' ⟨he,hb⟩=> ?_
 subst he;exact⟨_,rfl,yR nQ rfl Tryz.underlying4 rfl rfl (FX AX) hW' hb⟩
theorem xY:Tryz.prog.funcNamed Rows.instTwiceRow.func=some 13:=by kernel_rfl
theorem JC:(Rows.instTwiceRow.wf (OpenSpec.ofChange Rows.instTwiceSpec))=true:=by kernel_rfl
theorem JD:(mapsRowed Tryz.prog)=true:=by kernel_rfl
theorem JE:(Tryz.f13.params.all (Tryz.prog.readableRec ·))=true:=by kernel_rfl
theorem JF:(namedTie Tryz.prog Rows.instTwiceRow.named Rows.instTwiceSpec.vars)=true:=by kernel_rfl
theorem JG:((Rows.instTwiceRow.stops==[]))=true:=by kernel_rfl
theorem JH:((Tryz.prog.stops==[]))=true:=by kernel_rfl
theorem JI:((Rows.instTwiceRow.knobs==[]))=true:=by kernel_rfl
theorem JJ:((Tryz.prog.stopKnobs==[]))=true:=by kernel_rfl
theorem JK:((Rows.instTwiceRow.inPlace==Tryz.prog.inPlace 13))=true:=by kernel_rfl
theorem CI:((Rows.instTwiceRow.unfollowed==Tryz.prog.unfollowed 13))=true:=by kernel_rfl
theorem CJ:((Rows.instTwiceRow.recurses==Tryz.prog.recurses 13))=true:=by kernel_rfl
theorem CK:((Rows.instTwiceRow.named==Tryz.prog.varsNamed 13))=true:=by kernel_rfl
theorem CL:((Rows.instTwiceRow.maps==(Tryz.f13.params.toList++Rows.instTwiceSpec.plain.varTypes Tryz.prog).any (Tryz.prog.mapsRec ·)))=true:=by kernel_rfl
theorem CM:((Rows.instTwiceRow.ifaces==(Tryz.f13.params.toList++Rows.instTwiceSpec.plain.varTypes Tryz.prog).any (Tryz.prog.ifacesRec ·)))=true:=by kernel_rfl
theorem CN:((Rows.instTwiceRow.mapsOut==Tryz.prog.mapsAmong Tryz.f13.resultTypes.toList))=true:=by kernel_rfl
theorem CO:((Rows.instTwiceRow.loops==(Tryz.f13.params.toList++Rows.instTwiceSpec.plain.varTypes Tryz.prog).any (Tryz.prog.loopsFrom ·)))=true:=by kernel_rfl
theorem CP:((Rows.instTwiceRow.wideKeys==(Tryz.f13.params.toList++Rows.instTwiceSpec.plain.varTypes Tryz.prog++Tryz.f13.resultTypes.toList).any (Tryz.prog.wideKeysFrom ·)))=true:=by kernel_rfl
theorem CQ:(Rows.instTwiceSpec.vars.all (Tryz.prog.varReadable ·))=true:=by kernel_rfl
theorem CR:(Tryz.f13.resultTypes.all (fun t=>Tryz.prog.readableRec t&&decide (t<Tryz.prog.types.size)))=true:=by kernel_rfl
theorem CS:((Rows.instTwiceRow.ifacesOut==Tryz.f13.resultTypes.toList.any (Tryz.prog.ifacesRec ·)))=true:=by kernel_rfl
theorem CT:((Rows.instTwiceRow.loopsOut==Tryz.f13.resultTypes.toList.any (Tryz.prog.loopsFrom ·)))=true:=by kernel_rfl
theorem CU:((Rows.instTwiceRow.plainKeys==Tryz.prog.plainKeys))=true:=by kernel_rfl
theorem CV:(Rows.instTwiceRow.shortTexts.isNone)=true:=by kernel_rfl
theorem CW:(Tryz.prog.stopsHeard)=true:=by kernel_rfl
theorem CX:(Tryz.prog.mayEnter)=true:=by kernel_rfl
theorem CY:((Rows.instTwiceRow.lifted==Tryz.prog.liftsFinal))=true:=by kernel_rfl
theorem CZ:((Tryz.prog.make==some Rows.instTwiceRow.make))=true:=by kernel_rfl
theorem DA:((Rows.instTwiceRow.kinds==(if Rows.instTwiceRow.domain.isEmpty then []else Tryz.f13.params.toList.map fun t=>match Tryz.prog.underlying t with|some (.int k)=>some k| _=>none)))=true:=by kernel_rfl
theorem DB:((Rows.instTwiceRow.pinned==Rows.instTwiceRow.pinnedBy))=true:=by kernel_rfl
theorem DC:((Rows.instTwiceRow.veiled==(Tryz.f13.params.toList++Rows.instTwiceSpec.plain.varTypes Tryz.prog++Tryz.f13.resultTypes.toList).any (Tryz.prog.veiledRec ·)))=true:=by kernel_rfl
theorem DD:(Rows.instTwiceRow.veiledFits Tryz.prog Tryz.f13.params.toList (Tryz.f13.params.toList++Rows.instTwiceSpec.plain.varTypes Tryz.prog++Tryz.f13.resultTypes.toList))=true:=by kernel_rfl
set_option maxRecDepth 100000 in
theorem xZ:joinedFacts Tryz.prog 13 Tryz.f13 Rows.instTwiceSpec Rows.instTwiceRow=true:=by
 unfold joinedFacts;simp only[Bool.and_eq_true];exact⟨⟨⟨⟨⟨⟨⟨⟨⟨⟨⟨⟨⟨⟨⟨⟨⟨⟨⟨⟨⟨⟨⟨⟨⟨⟨⟨⟨⟨⟨⟨JC,nQ⟩,JD⟩,JE⟩,JF⟩,JG⟩,JH⟩,JI⟩,JJ⟩,JK⟩,CI⟩,CJ⟩,CK⟩,CL⟩,CM⟩,CN⟩,CO⟩,CP⟩,CQ⟩,CR⟩,CS⟩,CT⟩,CU⟩,CV⟩,CW⟩,CX⟩,CY⟩,CZ⟩,DA⟩,DB⟩,DC⟩,DD⟩
theorem yA:decide (Tryz.f13.isInstance Tryz.prog Rows.instTwiceRow.origin Rows.instTwiceRow.targs)=true:=by kernel_rfl
theorem AY:Tryz.f13.isWrapper Tryz.prog Rows.instTwiceRow.wrapper Rows.instTwiceRow.mainSum:=by unfold Func.isWrapper;first|(rw[if_pos (by decide+kernel)];kernel_rfl)|(rw[if_neg (by decide+kernel)];exact⟨rfl,rfl⟩)
set_option maxRecDepth 100000 in
theorem instTwice_holds:Rows.InstTwiceSaid:=
 OpenClaim.holds_of_wide 13 Tryz.f13 rfl rfl rfl rfl rfl rfl rfl ⟨rfl,rfl,rfl,rfl,rfl⟩ rfl rfl rfl rfl rfl xY Tryz.func13 xZ
  (of_decide_eq_true yA) AY (fun os started H enc _=>wJ os started H enc)
end Go.Proofs.YtjpdadobblffmaaGreat
