/-
  InstNone returns true for every input, and leaves its arguments as they were. No condition.
-/
import Derived.Test.YtjpdadobblffmaaGreatUInstNone
import Derived.Test.YtjpdadobblffmaaGreatRows
import Derived.WalkKit
import Derived.ProofKit
import Derived.OpenShut
import Derived.Test.YtjpdadobblffmaaGreatIA6
namespace Go.Proofs.YtjpdadobblffmaaGreat
open Go.RowKit Go.ChangeShapes Go.WideShapes Go.ChangeAt Go.Deep
set_option linter.unusedSimpArgs false
set_option linter.unusedVariables false
theorem HD:ownKnob Tryz.prog.godebug=none:=by kernel_rfl
theorem oX:laidOutB Tryz.prog=true:=by kernel_rfl
theorem CC:(Tryz.f11.params.toList.all fun t=>Tryz.prog.readableRec t&&decide (t<Tryz.prog.types.size))=true:=by kernel_rfl
set_option maxRecDepth 100000 in
theorem xW(os:Os)(started:os.Started)(H:Type)(enc:TypeId×Value→H):
  ReturnsInHanded {} Tryz.checked os 11 .any (Rows.instNoneSpec.pre6 enc Tryz.prog Tryz.f11 Rows.instNoneRow.domain false) (Rows.instNoneSpec.post enc Tryz.prog Tryz.f11 false true false false):=by
 refine returnsInHanded_of_change (C:=Tryz.checked) HD started (by kernel_rfl) Tryz.func11
  (ChangeSpec.witness6 (enc:=enc) (C:=Tryz.checked) false ⟨#[],#[],[]⟩ 8 (by kernel_rfl) (by kernel_rfl) (by kernel_rfl) (by kernel_rfl)) ?_
 intro W base args ds gs before hval0 hW hcnd _;have hval:∀(j:Nat) t v,Tryz.f11.params[j]? =some t→args[j]? =some v→Value.okWide Tryz.prog W .any base t v:=hval0;have hW':=hW;obtain⟨p,q,hA0,hV,rfl,hfz,hnd⟩:=hW;have hA:DataW.TrodAll enc Tryz.prog W 0 (fun _=>true) true Tryz.f11.params.toList args.toList ds p:=hA0;rw[Tryz.params11]at hA hval;obtain⟨rfl,rfl⟩:=trodVars_none hV;obtain⟨ha,rfl,rfl⟩:=trodAll_nil hA;obtain rfl:args=#[]:=by cases args;simp_all
 refine(FY HC rfl OJ).mono fun e W' ⟨he,hb⟩=> ?_
 subst he;exact⟨_,rfl,yR oX rfl Tryz.underlying4 rfl rfl (FX CC) hW' hb⟩
theorem AQ:Tryz.prog.funcNamed Rows.instNoneRow.func=some 11:=by kernel_rfl
theorem MR:(Rows.instNoneRow.wf (OpenSpec.ofChange Rows.instNoneSpec))=true:=by kernel_rfl
theorem MT:(mapsRowed Tryz.prog)=true:=by kernel_rfl
theorem MU:(Tryz.f11.params.all (Tryz.prog.readableRec ·))=true:=by kernel_rfl
theorem MV:(namedTie Tryz.prog Rows.instNoneRow.named Rows.instNoneSpec.vars)=true:=by kernel_rfl
theorem MW:((Rows.instNoneRow.stops==[]))=true:=by kernel_rfl
theorem MX:((Tryz.prog.stops==[]))=true:=by kernel_rfl
theorem MY:((Rows.instNoneRow.knobs==[]))=true:=by kernel_rfl
theorem MZ:((Tryz.prog.stopKnobs==[]))=true:=by kernel_rfl
theorem NA:((Rows.instNoneRow.inPlace==Tryz.prog.inPlace 11))=true:=by kernel_rfl
theorem HE:((Rows.instNoneRow.unfollowed==Tryz.prog.unfollowed 11))=true:=by kernel_rfl
theorem HF:((Rows.instNoneRow.recurses==Tryz.prog.recurses 11))=true:=by kernel_rfl
theorem HG:((Rows.instNoneRow.named==Tryz.prog.varsNamed 11))=true:=by kernel_rfl
theorem HI:((Rows.instNoneRow.maps==(Tryz.f11.params.toList++Rows.instNoneSpec.plain.varTypes Tryz.prog).any (Tryz.prog.mapsRec ·)))=true:=by kernel_rfl
theorem HJ:((Rows.instNoneRow.ifaces==(Tryz.f11.params.toList++Rows.instNoneSpec.plain.varTypes Tryz.prog).any (Tryz.prog.ifacesRec ·)))=true:=by kernel_rfl
theorem HK:((Rows.instNoneRow.mapsOut==Tryz.prog.mapsAmong Tryz.f11.resultTypes.toList))=true:=by kernel_rfl
theorem HL:((Rows.instNoneRow.loops==(Tryz.f11.params.toList++Rows.instNoneSpec.plain.varTypes Tryz.prog).any (Tryz.prog.loopsFrom ·)))=true:=by kernel_rfl
theorem HM:((Rows.instNoneRow.wideKeys==(Tryz.f11.params.toList++Rows.instNoneSpec.plain.varTypes Tryz.prog++Tryz.f11.resultTypes.toList).any (Tryz.prog.wideKeysFrom ·)))=true:=by kernel_rfl
theorem HN:(Rows.instNoneSpec.vars.all (Tryz.prog.varReadable ·))=true:=by kernel_rfl
theorem HO:(Tryz.f11.resultTypes.all (fun t=>Tryz.prog.readableRec t&&decide (t<Tryz.prog.types.size)))=true:=by kernel_rfl
theorem HP:((Rows.instNoneRow.ifacesOut==Tryz.f11.resultTypes.toList.any (Tryz.prog.ifacesRec ·)))=true:=by kernel_rfl
theorem HQ:((Rows.instNoneRow.loopsOut==Tryz.f11.resultTypes.toList.any (Tryz.prog.loopsFrom ·)))=true:=by kernel_rfl
theorem HR:((Rows.instNoneRow.plainKeys==Tryz.prog.plainKeys))=true:=by kernel_rfl
theorem HS:(Rows.instNoneRow.shortTexts.isNone)=true:=by kernel_rfl
theorem HT:(Tryz.prog.stopsHeard)=true:=by kernel_rfl
theorem HU:(Tryz.prog.mayEnter)=true:=by kernel_rfl
theorem HV:((Rows.instNoneRow.lifted==Tryz.prog.liftsFinal))=true:=by kernel_rfl
theorem HW:((Tryz.prog.make==some Rows.instNoneRow.make))=true:=by kernel_rfl
theorem HX:((Rows.instNoneRow.kinds==(if Rows.instNoneRow.domain.isEmpty then []else Tryz.f11.params.toList.map fun t=>match Tryz.prog.underlying t with|some (.int k)=>some k| _=>none)))=true:=by kernel_rfl
theorem HY:((Rows.instNoneRow.pinned==Rows.instNoneRow.pinnedBy))=true:=by kernel_rfl
theorem HZ:((Rows.instNoneRow.veiled==(Tryz.f11.params.toList++Rows.instNoneSpec.plain.varTypes Tryz.prog++Tryz.f11.resultTypes.toList).any (Tryz.prog.veiledRec ·)))=true:=by kernel_rfl
theorem IA:(Rows.instNoneRow.veiledFits Tryz.prog Tryz.f11.params.toList (Tryz.f11.params.toList++Rows.instNoneSpec.plain.varTypes Tryz.prog++Tryz.f11.resultTypes.toList))=true:=by kernel_rfl
set_option maxRecDepth 100000 in
theorem AR:joinedFacts Tryz.prog 11 Tryz.f11 Rows.instNoneSpec Rows.instNoneRow=true:=by
 unfold joinedFacts;simp only[Bool.and_eq_true];exact⟨⟨⟨⟨⟨⟨⟨⟨⟨⟨⟨⟨⟨⟨⟨⟨⟨⟨⟨⟨⟨⟨⟨⟨⟨⟨⟨⟨⟨⟨⟨MR,oX⟩,MT⟩,MU⟩,MV⟩,MW⟩,MX⟩,MY⟩,MZ⟩,NA⟩,HE⟩,HF⟩,HG⟩,HI⟩,HJ⟩,HK⟩,HL⟩,HM⟩,HN⟩,HO⟩,HP⟩,HQ⟩,HR⟩,HS⟩,HT⟩,HU⟩,HV⟩,HW⟩,HX⟩,HY⟩,HZ⟩,IA⟩
theorem AS:decide (Tryz.f11.isInstance Tryz.prog Rows.instNoneRow.origin Rows.instNoneRow.targs)=true:=by kernel_rfl
theorem CD:Tryz.f11.isWrapper Tryz.prog Rows.instNoneRow.wrapper Rows.instNoneRow.mainSum:=by unfold Func.isWrapper;first|(rw[if_pos (by decide+kernel)];kernel_rfl)|(rw[if_neg (by decide+kernel)];exact⟨rfl,rfl⟩)
set_option maxRecDepth 100000 in
theorem instNone_holds:Rows.InstNoneSaid:=
 OpenClaim.holds_of_wide 11 Tryz.f11 rfl rfl rfl rfl rfl rfl rfl ⟨rfl,rfl,rfl,rfl,rfl⟩ rfl rfl rfl rfl rfl AQ Tryz.func11 AR
  (of_decide_eq_true AS) CD (fun os started H enc _=>xW os started H enc)
end Go.Proofs.YtjpdadobblffmaaGreat
