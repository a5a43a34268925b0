/-
  InstOver returns true for every input, and leaves its arguments as they were. No condition.
-/
import Derived.Test.YtjpdadobblffmaaGreatUInstOver
import Derived.Test.YtjpdadobblffmaaGreatRows
import Derived.WalkKit
import Derived.ProofKit
import Derived.OpenShut
import Derived.Test.YtjpdadobblffmaaGreatIA6
namespace Go.Proofs.YtjpdadobblffmaaGreat
open Go.RowKit Go.ChangeShapes Go.WideShapes Go.ChangeAt Go.Deep
set_option linter.unusedSimpArgs false
set_option linter.unusedVariables false
theorem IF:ownKnob Tryz.prog.godebug=none:=by kernel_rfl
theorem oY:laidOutB Tryz.prog=true:=by kernel_rfl
theorem CE:(Tryz.f12.params.toList.all fun t=>Tryz.prog.readableRec t&&decide (t<Tryz.prog.types.size))=true:=by kernel_rfl
set_option maxRecDepth 100000 in
theorem xX(os:Os)(started:os.Started)(H:Type)(enc:TypeId×Value→H):
  ReturnsInHanded {} Tryz.checked os 12 .any (Rows.instOverSpec.pre6 enc Tryz.prog Tryz.f12 Rows.instOverRow.domain false) (Rows.instOverSpec.post enc Tryz.prog Tryz.f12 false true false false):=by
 refine returnsInHanded_of_change (C:=Tryz.checked) IF started (by kernel_rfl) Tryz.func12
  (ChangeSpec.witness6 (enc:=enc) (C:=Tryz.checked) false ⟨#[],#[.int .i64 0,.int .i64 0,.int .i64 0],[]⟩ 8 (by kernel_rfl) (by kernel_rfl) (by kernel_rfl) (by kernel_rfl)) ?_
 intro W base args ds gs before hval0 hW hcnd _;have hval:∀(j:Nat) t v,Tryz.f12.params[j]? =some t→args[j]? =some v→Value.okWide Tryz.prog W .any base t v:=hval0;have hW':=hW;obtain⟨p,q,hA0,hV,rfl,hfz,hnd⟩:=hW;have hA:DataW.TrodAll enc Tryz.prog W 0 (fun _=>true) true Tryz.f12.params.toList args.toList ds p:=hA0;rw[Tryz.params12]at hA hval;obtain⟨rfl,rfl⟩:=trodVars_none hV;obtain⟨v0,vs0,d0,ds0,p0,q0,hargs,rfl,rfl,h0,r0⟩:=trodAll_cons hA;obtain⟨v1,vs1,d1,ds1,p1,q1,rfl,rfl,rfl,h1,r1⟩:=trodAll_cons r0;obtain⟨v2,vs2,d2,ds2,p2,q2,rfl,rfl,rfl,h2,r2⟩:=trodAll_cons r1;obtain⟨rfl,rfl,rfl⟩:=trodAll_nil r2;obtain rfl:args=#[v0,v1,v2]:=by cases args;simp_all
 obtain⟨a0,rfl,rfl,rfl,w0⟩:=open_int Tryz.underlying3 (hval 0 3 v0 rfl rfl) h0;obtain⟨a1,rfl,rfl,rfl,w1⟩:=open_int Tryz.underlying3 (hval 1 3 v1 rfl rfl) h1;obtain⟨a2,rfl,rfl,rfl,w2⟩:=open_int Tryz.underlying3 (hval 2 3 v2 rfl rfl) h2;refine(FY (IE a0 a1 a2) rfl (uK (VR.int _ a0) (uK (VR.int _ a1) (uK (VR.int _ a2) OJ)))).mono fun e W' ⟨he,hb⟩=> ?_
 subst he;exact⟨_,rfl,yR oY rfl Tryz.underlying4 rfl rfl (FX CE) hW' hb⟩
theorem AT:Tryz.prog.funcNamed Rows.instOverRow.func=some 12:=by kernel_rfl
theorem NB:(Rows.instOverRow.wf (OpenSpec.ofChange Rows.instOverSpec))=true:=by kernel_rfl
theorem NC:(mapsRowed Tryz.prog)=true:=by kernel_rfl
theorem ND:(Tryz.f12.params.all (Tryz.prog.readableRec ·))=true:=by kernel_rfl
theorem NE:(namedTie Tryz.prog Rows.instOverRow.named Rows.instOverSpec.vars)=true:=by kernel_rfl
theorem NF:((Rows.instOverRow.stops==[]))=true:=by kernel_rfl
theorem NG:((Tryz.prog.stops==[]))=true:=by kernel_rfl
theorem NH:((Rows.instOverRow.knobs==[]))=true:=by kernel_rfl
theorem NJ:((Tryz.prog.stopKnobs==[]))=true:=by kernel_rfl
theorem NK:((Rows.instOverRow.inPlace==Tryz.prog.inPlace 12))=true:=by kernel_rfl
theorem IG:((Rows.instOverRow.unfollowed==Tryz.prog.unfollowed 12))=true:=by kernel_rfl
theorem IH:((Rows.instOverRow.recurses==Tryz.prog.recurses 12))=true:=by kernel_rfl
theorem II:((Rows.instOverRow.named==Tryz.prog.varsNamed 12))=true:=by kernel_rfl
theorem IJ:((Rows.instOverRow.maps==(Tryz.f12.params.toList++Rows.instOverSpec.plain.varTypes Tryz.prog).any (Tryz.prog.mapsRec ·)))=true:=by kernel_rfl
theorem IK:((Rows.instOverRow.ifaces==(Tryz.f12.params.toList++Rows.instOverSpec.plain.varTypes Tryz.prog).any (Tryz.prog.ifacesRec ·)))=true:=by kernel_rfl
theorem IL:((Rows.instOverRow.mapsOut==Tryz.prog.mapsAmong Tryz.f12.resultTypes.toList))=true:=by kernel_rfl
theorem IM:((Rows.instOverRow.loops==(Tryz.f12.params.toList++Rows.instOverSpec.plain.varTypes Tryz.prog).any (Tryz.prog.loopsFrom ·)))=true:=by kernel_rfl
theorem IN:((Rows.instOverRow.wideKeys==(Tryz.f12.params.toList++Rows.instOverSpec.plain.varTypes Tryz.prog++Tryz.f12.resultTypes.toList).any (Tryz.prog.wideKeysFrom ·)))=true:=by kernel_rfl
theorem IO:(Rows.instOverSpec.vars.all (Tryz.prog.varReadable ·))=true:=by kernel_rfl
theorem IP:(Tryz.f12.resultTypes.all (fun t=>Tryz.prog.readableRec t&&decide (t<Tryz.prog.types.size)))=true:=by kernel_rfl
theorem IQ:((Rows.instOverRow.ifacesOut==Tryz.f12.resultTypes.toList.any (Tryz.prog.ifacesRec ·)))=true:=by kernel_rfl
theorem IR:((Rows.instOverRow.loopsOut==Tryz.f12.resultTypes.toList.any (Tryz.prog.loopsFrom ·)))=true:=by kernel_rfl
theorem IS:((Rows.instOverRow.plainKeys==Tryz.prog.plainKeys))=true:=by kernel_rfl
theorem IT:(Rows.instOverRow.shortTexts.isNone)=true:=by kernel_rfl
theorem IU:(Tryz.prog.stopsHeard)=true:=by kernel_rfl
theorem IV:(Tryz.prog.mayEnter)=true:=by kernel_rfl
theorem IW:((Rows.instOverRow.lifted==Tryz.prog.liftsFinal))=true:=by kernel_rfl
theorem IX:((Tryz.prog.make==some Rows.instOverRow.make))=true:=by kernel_rfl
theorem IY:((Rows.instOverRow.kinds==(if Rows.instOverRow.domain.isEmpty then []else Tryz.f12.params.toList.map fun t=>match Tryz.prog.underlying t with|some (.int k)=>some k| _=>none)))=true:=by kernel_rfl
theorem IZ:((Rows.instOverRow.pinned==Rows.instOverRow.pinnedBy))=true:=by kernel_rfl
theorem JA:((Rows.instOverRow.veiled==(Tryz.f12.params.toList++Rows.instOverSpec.plain.varTypes Tryz.prog++Tryz.f12.resultTypes.toList).any (Tryz.prog.veiledRec ·)))=true:=by kernel_rfl
theorem JB:(Rows.instOverRow.veiledFits Tryz.prog Tryz.f12.params.toList (Tryz.f12.params.toList++Rows.instOverSpec.plain.varTypes Tryz.prog++Tryz.f12.resultTypes.toList))=true:=by kernel_rfl
set_option maxRecDepth 100000 in
theorem AU:joinedFacts Tryz.prog 12 Tryz.f12 Rows.instOverSpec Rows.instOverRow=true:=by
 unfold joinedFacts;simp only[Bool.and_eq_true];exact⟨⟨⟨⟨⟨⟨⟨⟨⟨⟨⟨⟨⟨⟨⟨⟨⟨⟨⟨⟨⟨⟨⟨⟨⟨⟨⟨⟨⟨⟨⟨NB,oY⟩,NC⟩,ND⟩,NE⟩,NF⟩,NG⟩,NH⟩,NJ⟩,NK⟩,IG⟩,IH⟩,II⟩,IJ⟩,IK⟩,IL⟩,IM⟩,IN⟩,IO⟩,IP⟩,IQ⟩,IR⟩,IS⟩,IT⟩,IU⟩,IV⟩,IW⟩,IX⟩,IY⟩,IZ⟩,JA⟩,JB⟩
theorem AW:decide (Tryz.f12.isInstance Tryz.prog Rows.instOverRow.origin Rows.instOverRow.targs)=true:=by kernel_rfl
theorem CF:Tryz.f12.isWrapper Tryz.prog Rows.instOverRow.wrapper Rows.instOverRow.mainSum:=by unfold Func.isWrapper;first|(rw[if_pos (by decide+kernel)];kernel_rfl)|(rw[if_neg (by decide+kernel)];exact⟨rfl,rfl⟩)
set_option maxRecDepth 100000 in
theorem instOver_holds:Rows.InstOverSaid:=
 OpenClaim.holds_of_wide 12 Tryz.f12 rfl rfl rfl rfl rfl rfl rfl ⟨rfl,rfl,rfl,rfl,rfl⟩ rfl rfl rfl rfl rfl AT Tryz.func12 AU
  (of_decide_eq_true AW) CF (fun os started H enc _=>xX os started H enc)
end Go.Proofs.YtjpdadobblffmaaGreat
