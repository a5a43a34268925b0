/-
  InstAll returns true for every input, and leaves its arguments as they were. No condition.
-/
import Derived.Test.YtjpdadobblffmaaGreatUInstAll
import Derived.Test.YtjpdadobblffmaaGreatRows
import Derived.WalkKit
import Derived.ProofKit
import Derived.OpenShut
import Derived.Test.YtjpdadobblffmaaGreatJA8
open Bool renaming and_eq_true->Ap
open Go.Proofs.Tryz
namespace Go.Proofs.YtjpdadobblffmaaGreat
open Go.RowKit Go.ChangeShapes Go.WideShapes Go.ChangeAt Go.Deep
set_option linter.unusedSimpArgs false
set_option linter.unusedVariables false
theorem WF:ownKnob prog.godebug=none:=by kernel_rfl
theorem wN:laidOutB prog=true:=by kernel_rfl
theorem RO:(Tryz.f14.params.toList.all fun t=>prog.readableRec t&&decide (t<prog.types.size))=true:=by kernel_rfl
set_option maxRecDepth 100000 in
theorem KS(os:Os)(started:os.Started)(H:Type)(enc:TypeId×Value->H):
  ReturnsInHanded {} Tryz.checked os 14 .any (Rows.instAllSpec.pre6 enc prog Tryz.f14 Rows.instAllRow.domain false) (Rows.instAllSpec.post enc prog Tryz.f14 false true false false):=by
 refine returnsInHanded_of_change (C:=Tryz.checked) WF started (by kernel_rfl) func14
  (ChangeSpec.witness6 (enc:=enc) (C:=Tryz.checked) false ⟨#[],#[.agg #[.slice none 0 0,.slice none 0 0,.slice none 0 0,.bool false,.int .i64 0,.int .i64 0,.bool false,.int .i64 0,.int .i64 0,.slice none 0 0,.slice none 0 0,.slice none 0 0,.slice none 0 0,.slice none 0 0],.string ⟨#[]⟩,.int .i64 0],[]⟩ 8 (by kernel_rfl) (by kernel_rfl) (by kernel_rfl) (by kernel_rfl)) ?_
 intro W base args ds gs before hval0 hW hcnd _;have hval:∀(j:Nat) t v,Tryz.f14.params[j]? =some t->args[j]? =some v->Value.okWide prog W .any base t v:=hval0;have hW':=hW;obtain⟨p,q,hA0,hV,rfl,hfz,hnd⟩:=hW;have hA:DataW.TrodAll enc prog W 0 (fun _=>true) true Tryz.f14.params.toList args.toList ds p:=hA0;rw[Tryz.params14]at hA hval;obtain⟨rfl,rfl⟩:=trodVars_none hV;obtain⟨v0,vs0,d0,ds0,p0,q0,hargs,rfl,rfl,h0,r0⟩:=trodAll_cons hA;obtain⟨v1,vs1,d1,ds1,p1,q1,rfl,rfl,rfl,h1,r1⟩:=trodAll_cons r0;obtain⟨v2,vs2,d2,ds2,p2,q2,rfl,rfl,rfl,h2,r2⟩:=trodAll_cons r1;obtain⟨rfl,rfl,rfl⟩:=trodAll_nil r2;obtain rfl:args=#[v0,v1,v2]:=by cases args;simp_all
 obtain⟨cs0,rfl,-⟩:=okWide_struct Tryz.underlying33 (hval 0 33 v0 rfl rfl);obtain⟨x0,k0,s0⟩:=aGw aLN h0;obtain⟨a1,rfl⟩:=okWide_string Tryz.underlying9 (hval 1 9 v1 rfl rfl);obtain⟨a2,rfl,rfl,rfl,w2⟩:=open_int Tryz.underlying3 (hval 2 3 v2 rfl rfl) h2;refine(aGx (WE x0 a1 a2 k0 (EL w2)) rfl (PP s0 (PP (VR.str a1) (PP (VR.int _ a2) aJ8)))).mono fun e W' ⟨he,hb⟩=> ?_
 subst he;exact⟨_,rfl,aCP wN rfl Tryz.underlying4 rfl rfl (aGu RO) hW' hb⟩
theorem LX:prog.funcNamed Rows.instAllRow.func=some 14:=by kernel_rfl
theorem aAc:(Rows.instAllRow.wf (OpenSpec.ofChange Rows.instAllSpec))=true:=by kernel_rfl
theorem aAd:(mapsRowed prog)=true:=by kernel_rfl
theorem aAe:(Tryz.f14.params.all (prog.readableRec ·))=true:=by kernel_rfl
theorem aAf:(namedTie prog Rows.instAllRow.named Rows.instAllSpec.vars)=true:=by kernel_rfl
theorem aAg:((Rows.instAllRow.stops==[]))=true:=by kernel_rfl
theorem aAh:((prog.stops==[]))=true:=by kernel_rfl
theorem aAi:((Rows.instAllRow.knobs==[]))=true:=by kernel_rfl
theorem aAj:((prog.stopKnobs==[]))=true:=by kernel_rfl
theorem aAk:((Rows.instAllRow.inPlace==prog.inPlace 14))=true:=by kernel_rfl
theorem WG:((Rows.instAllRow.unfollowed==prog.unfollowed 14))=true:=by kernel_rfl
theorem WH:((Rows.instAllRow.recurses==prog.recurses 14))=true:=by kernel_rfl
theorem WI:((Rows.instAllRow.named==prog.varsNamed 14))=true:=by kernel_rfl
theorem WJ:((Rows.instAllRow.maps==(Tryz.f14.params.toList++Rows.instAllSpec.plain.varTypes prog).any (prog.mapsRec ·)))=true:=by kernel_rfl
theorem WK:((Rows.instAllRow.ifaces==(Tryz.f14.params.toList++Rows.instAllSpec.plain.varTypes prog).any (prog.ifacesRec ·)))=true:=by kernel_rfl
theorem WL:((Rows.instAllRow.mapsOut==prog.mapsAmong Tryz.f14.resultTypes.toList))=true:=by kernel_rfl
theorem WM:((Rows.instAllRow.loops==(Tryz.f14.params.toList++Rows.instAllSpec.plain.varTypes prog).any (prog.loopsFrom ·)))=true:=by kernel_rfl
theorem WN:((Rows.instAllRow.wideKeys==(Tryz.f14.params.toList++Rows.instAllSpec.plain.varTypes prog++Tryz.f14.resultTypes.toList).any (prog.wideKeysFrom ·)))=true:=by kernel_rfl
theorem WP:(Rows.instAllSpec.vars.all (prog.varReadable ·))=true:=by kernel_rfl
theorem WQ:(Tryz.f14.resultTypes.all (fun t=>prog.readableRec t&&decide (t<prog.types.size)))=true:=by kernel_rfl
theorem WR:((Rows.instAllRow.ifacesOut==Tryz.f14.resultTypes.toList.any (prog.ifacesRec ·)))=true:=by kernel_rfl
theorem WS:((Rows.instAllRow.loopsOut==Tryz.f14.resultTypes.toList.any (prog.loopsFrom ·)))=true:=by kernel_rfl
theorem WT:((Rows.instAllRow.plainKeys==prog.plainKeys))=true:=by kernel_rfl
theorem WU:(Rows.instAllRow.shortTexts.isNone)=true:=by kernel_rfl
theorem WV:(prog.stopsHeard)=true:=by kernel_rfl
theorem WW:(prog.mayEnter)=true:=by kernel_rfl
theorem WX:((Rows.instAllRow.lifted==prog.liftsFinal))=true:=by kernel_rfl
theorem WY:((prog.make==some Rows.instAllRow.make))=true:=by kernel_rfl
theorem WZ:((Rows.instAllRow.kinds==(if Rows.instAllRow.domain.isEmpty then []else Tryz.f14.params.toList.map fun t=>match prog.underlying t with|some (.int k)=>some k| _=>none)))=true:=by kernel_rfl
theorem XA:((Rows.instAllRow.pinned==Rows.instAllRow.pinnedBy))=true:=by kernel_rfl
theorem XB:((Rows.instAllRow.veiled==(Tryz.f14.params.toList++Rows.instAllSpec.plain.varTypes prog++Tryz.f14.resultTypes.toList).any (prog.veiledRec ·)))=true:=by kernel_rfl
theorem XC:(Rows.instAllRow.veiledFits prog Tryz.f14.params.toList (Tryz.f14.params.toList++Rows.instAllSpec.plain.varTypes prog++Tryz.f14.resultTypes.toList))=true:=by kernel_rfl
set_option maxRecDepth 100000 in
theorem LY:joinedFacts prog 14 Tryz.f14 Rows.instAllSpec Rows.instAllRow=true:=by
 unfold joinedFacts;simp only[Ap];exact⟨⟨⟨⟨⟨⟨⟨⟨⟨⟨⟨⟨⟨⟨⟨⟨⟨⟨⟨⟨⟨⟨⟨⟨⟨⟨⟨⟨⟨⟨⟨aAc,wN⟩,aAd⟩,aAe⟩,aAf⟩,aAg⟩,aAh⟩,aAi⟩,aAj⟩,aAk⟩,WG⟩,WH⟩,WI⟩,WJ⟩,WK⟩,WL⟩,WM⟩,WN⟩,WP⟩,WQ⟩,WR⟩,WS⟩,WT⟩,WU⟩,WV⟩,WW⟩,WX⟩,WY⟩,WZ⟩,XA⟩,XB⟩,XC⟩
theorem LZ:decide (Tryz.f14.isInstance prog Rows.instAllRow.origin Rows.instAllRow.targs)=true:=by kernel_rfl
theorem RP:Tryz.f14.isWrapper prog Rows.instAllRow.wrapper Rows.instAllRow.mainSum:=by unfold Func.isWrapper;first|(rw[Dc (by decide+kernel)];kernel_rfl)|(rw[Db (by decide+kernel)];exact⟨rfl,rfl⟩)
set_option maxRecDepth 100000 in
theorem instAll_holds:Rows.InstAllSaid:=
 OpenClaim.holds_of_wide 14 Tryz.f14 rfl rfl rfl rfl rfl rfl rfl ⟨rfl,rfl,rfl,rfl,rfl⟩ rfl rfl rfl rfl rfl LX func14 LY
  (of_decide_eq_true LZ) RP (fun os started H enc _=>KS os started H enc)
end Go.Proofs.YtjpdadobblffmaaGreat
