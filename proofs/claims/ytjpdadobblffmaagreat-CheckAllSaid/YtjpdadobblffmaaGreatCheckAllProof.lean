/-
  CheckAll returns true for every input, and leaves its arguments as they were. No condition.
-/
import Derived.Test.YtjpdadobblffmaaGreatQCheckAll
import Derived.Test.YtjpdadobblffmaaGreatRows
import Derived.WalkKit
import Derived.ProofKit
import Derived.OpenShut
import Derived.Test.YtjpdadobblffmaaGreatCC7
namespace Go.Proofs.YtjpdadobblffmaaGreat
open Go.RowKit Go.ChangeShapes Go.WideShapes Go.ChangeAt Go.Deep
set_option linter.unusedSimpArgs false
set_option linter.unusedVariables false
theorem RF:ownKnob Tryz.prog.godebug=none:=by kernel_rfl
theorem sZ:laidOutB Tryz.prog=true:=by kernel_rfl
theorem LD:(Tryz.f4.params.toList.all fun t=>Tryz.prog.readableRec t&&decide (t<Tryz.prog.types.size))=true:=by kernel_rfl
set_option maxRecDepth 100000 in
theorem DZ(os:Os)(started:os.Started)(H:Type)(enc:TypeId×Value→H):
  ReturnsInHanded {} Tryz.checked os 4 .any (Rows.checkAllSpec.pre6 enc Tryz.prog Tryz.f4 Rows.checkAllRow.domain false) (Rows.checkAllSpec.post enc Tryz.prog Tryz.f4 false true false false):=by
 refine returnsInHanded_of_change (C:=Tryz.checked) RF started (by kernel_rfl) Tryz.func4
  (ChangeSpec.witness6 (enc:=enc) (C:=Tryz.checked) false ⟨#[],#[.agg #[.slice none 0 0,.slice none 0 0,.slice none 0 0,.bool false,.int .i64 0,.int .i64 0,.bool false,.int .i64 0,.int .i64 0,.slice none 0 0,.slice none 0 0,.slice none 0 0,.slice none 0 0,.slice none 0 0]],[]⟩ 8 (by kernel_rfl) (by kernel_rfl) (by kernel_rfl) (by kernel_rfl)) ?_
 intro W base args ds gs before hval0 hW hcnd _;have hval:∀(j:Nat) t v,Tryz.f4.params[j]? =some t→args[j]? =some v→Value.okWide Tryz.prog W .any base t v:=hval0;have hW':=hW;obtain⟨p,q,hA0,hV,rfl,hfz,hnd⟩:=hW;have hA:DataW.TrodAll enc Tryz.prog W 0 (fun _=>true) true Tryz.f4.params.toList args.toList ds p:=hA0;rw[Tryz.params4]at hA hval;obtain⟨rfl,rfl⟩:=trodVars_none hV;obtain⟨v0,vs0,d0,ds0,p0,q0,hargs,rfl,rfl,h0,r0⟩:=trodAll_cons hA;obtain⟨rfl,rfl,rfl⟩:=trodAll_nil r0;obtain rfl:args=#[v0]:=by cases args;simp_all
 obtain⟨cs0,rfl,-⟩:=okWide_struct Tryz.underlying33 (hval 0 33 v0 rfl rfl);obtain⟨x0,k0,s0⟩:=ZL aJM h0;refine(FK (LC x0 k0) rfl (lS s0 PT)).mono fun e W' ⟨he,hb⟩=> ?_
 subst he;exact⟨_,rfl,yW sZ rfl Tryz.underlying4 rfl rfl (FI LD) hW' hb⟩
theorem IO:Tryz.prog.funcNamed Rows.checkAllRow.func=some 4:=by kernel_rfl
theorem WG:(Rows.checkAllRow.wf (OpenSpec.ofChange Rows.checkAllSpec))=true:=by kernel_rfl
theorem WH:(mapsRowed Tryz.prog)=true:=by kernel_rfl
theorem WI:(Tryz.f4.params.all (Tryz.prog.readableRec ·))=true:=by kernel_rfl
theorem WJ:(namedTie Tryz.prog Rows.checkAllRow.named Rows.checkAllSpec.vars)=true:=by kernel_rfl
theorem WK:((Rows.checkAllRow.stops==[]))=true:=by kernel_rfl
theorem WL:((Tryz.prog.stops==[]))=true:=by kernel_rfl
theorem WM:((Rows.checkAllRow.knobs==[]))=true:=by kernel_rfl
theorem WN:((Tryz.prog.stopKnobs==[]))=true:=by kernel_rfl
theorem WP:((Rows.checkAllRow.inPlace==Tryz.prog.inPlace 4))=true:=by kernel_rfl
theorem RG:((Rows.checkAllRow.unfollowed==Tryz.prog.unfollowed 4))=true:=by kernel_rfl
theorem RH:((Rows.checkAllRow.recurses==Tryz.prog.recurses 4))=true:=by kernel_rfl
theorem RI:((Rows.checkAllRow.named==Tryz.prog.varsNamed 4))=true:=by kernel_rfl
theorem RJ:((Rows.checkAllRow.maps==(Tryz.f4.params.toList++Rows.checkAllSpec.plain.varTypes Tryz.prog).any (Tryz.prog.mapsRec ·)))=true:=by kernel_rfl
theorem RK:((Rows.checkAllRow.ifaces==(Tryz.f4.params.toList++Rows.checkAllSpec.plain.varTypes Tryz.prog).any (Tryz.prog.ifacesRec ·)))=true:=by kernel_rfl
theorem RL:((Rows.checkAllRow.mapsOut==Tryz.prog.mapsAmong Tryz.f4.resultTypes.toList))=true:=by kernel_rfl
theorem RM:((Rows.checkAllRow.loops==(Tryz.f4.params.toList++Rows.checkAllSpec.plain.varTypes Tryz.prog).any (Tryz.prog.loopsFrom ·)))=true:=by kernel_rfl
theorem RN:((Rows.checkAllRow.wideKeys==(Tryz.f4.params.toList++Rows.checkAllSpec.plain.varTypes Tryz.prog++Tryz.f4.resultTypes.toList).any (Tryz.prog.wideKeysFrom ·)))=true:=by kernel_rfl
theorem RO:(Rows.checkAllSpec.vars.all (Tryz.prog.varReadable ·))=true:=by kernel_rfl
theorem RP:(Tryz.f4.resultTypes.all (fun t=>Tryz.prog.readableRec t&&decide (t<Tryz.prog.types.size)))=true:=by kernel_rfl
theorem RQ:((Rows.checkAllRow.ifacesOut==Tryz.f4.resultTypes.toList.any (Tryz.prog.ifacesRec ·)))=true:=by kernel_rfl
theorem RR:((Rows.checkAllRow.loopsOut==Tryz.f4.resultTypes.toList.any (Tryz.prog.loopsFrom ·)))=true:=by kernel_rfl
theorem RU:((Rows.checkAllRow.plainKeys==Tryz.prog.plainKeys))=true:=by kernel_rfl
theorem RV:(Rows.checkAllRow.shortTexts.isNone)=true:=by kernel_rfl
theorem RW:(Tryz.prog.stopsHeard)=true:=by kernel_rfl
theorem RX:(Tryz.prog.mayEnter)=true:=by kernel_rfl
theorem RY:((Rows.checkAllRow.lifted==Tryz.prog.liftsFinal))=true:=by kernel_rfl
theorem RZ:((Tryz.prog.make==some Rows.checkAllRow.make))=true:=by kernel_rfl
theorem SA:((Rows.checkAllRow.kinds==(if Rows.checkAllRow.domain.isEmpty then []else Tryz.f4.params.toList.map fun t=>match Tryz.prog.underlying t with|some (.int k)=>some k| _=>none)))=true:=by kernel_rfl
theorem SB:((Rows.checkAllRow.pinned==Rows.checkAllRow.pinnedBy))=true:=by kernel_rfl
theorem SC:((Rows.checkAllRow.veiled==(Tryz.f4.params.toList++Rows.checkAllSpec.plain.varTypes Tryz.prog++Tryz.f4.resultTypes.toList).any (Tryz.prog.veiledRec ·)))=true:=by kernel_rfl
theorem SD:(Rows.checkAllRow.veiledFits Tryz.prog Tryz.f4.params.toList (Tryz.f4.params.toList++Rows.checkAllSpec.plain.varTypes Tryz.prog++Tryz.f4.resultTypes.toList))=true:=by kernel_rfl
set_option maxRecDepth 100000 in
theorem IP:joinedFacts Tryz.prog 4 Tryz.f4 Rows.checkAllSpec Rows.checkAllRow=true:=by
 unfold joinedFacts;simp only[Bool.and_eq_true];exact⟨⟨⟨⟨⟨⟨⟨⟨⟨⟨⟨⟨⟨⟨⟨⟨⟨⟨⟨⟨⟨⟨⟨⟨⟨⟨⟨⟨⟨⟨⟨WG,sZ⟩,WH⟩,WI⟩,WJ⟩,WK⟩,WL⟩,WM⟩,WN⟩,WP⟩,RG⟩,RH⟩,RI⟩,RJ⟩,RK⟩,RL⟩,RM⟩,RN⟩,RO⟩,RP⟩,RQ⟩,RR⟩,RU⟩,RV⟩,RW⟩,RX⟩,RY⟩,RZ⟩,SA⟩,SB⟩,SC⟩,SD⟩
theorem IQ:decide (Tryz.f4.isInstance Tryz.prog Rows.checkAllRow.origin Rows.checkAllRow.targs)=true:=by kernel_rfl
theorem LF:Tryz.f4.isWrapper Tryz.prog Rows.checkAllRow.wrapper Rows.checkAllRow.mainSum:=by unfold Func.isWrapper;first|(rw[if_pos (by decide+kernel)];kernel_rfl)|(rw[if_neg (by decide+kernel)];exact⟨rfl,rfl⟩)
set_option maxRecDepth 100000 in
theorem checkAll_holds:Rows.CheckAllSaid:=
 OpenClaim.holds_of_wide 4 Tryz.f4 rfl rfl rfl rfl rfl rfl rfl ⟨rfl,rfl,rfl,rfl,rfl⟩ rfl rfl rfl rfl rfl IO Tryz.func4 IP
  (of_decide_eq_true IQ) LF (fun os started H enc _=>DZ os started H enc)
end Go.Proofs.YtjpdadobblffmaaGreat
