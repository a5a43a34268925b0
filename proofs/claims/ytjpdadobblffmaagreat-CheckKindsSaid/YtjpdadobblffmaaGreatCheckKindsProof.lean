/-
  CheckKinds returns true for every input, and leaves its arguments as they were. No condition.
-/
import Derived.Test.YtjpdadobblffmaaGreatQCheckKinds
import Derived.Test.YtjpdadobblffmaaGreatRows
import Derived.WalkKit
import Derived.ProofKit
import Derived.OpenShut
import Derived.Test.YtjpdadobblffmaaGreatCC7
namespace Go.Proofs.YtjpdadobblffmaaGreat
open Go.RowKit Go.ChangeShapes Go.WideShapes Go.ChangeAt Go.Deep
set_option linter.unusedSimpArgs false
set_option linter.unusedVariables false
theorem IR:ownKnob Tryz.prog.godebug=none:=by kernel_rfl
theorem qT:laidOutB Tryz.prog=true:=by kernel_rfl
theorem EC:(Tryz.f7.params.toList.all fun t=>Tryz.prog.readableRec t&&decide (t<Tryz.prog.types.size))=true:=by kernel_rfl
set_option maxRecDepth 100000 in
theorem BF(os:Os)(started:os.Started)(H:Type)(enc:TypeId×Value→H):
  ReturnsInHanded {} Tryz.checked os 7 .any (Rows.checkKindsSpec.pre6 enc Tryz.prog Tryz.f7 Rows.checkKindsRow.domain false) (Rows.checkKindsSpec.post enc Tryz.prog Tryz.f7 false true false false):=by
 refine returnsInHanded_of_change (C:=Tryz.checked) IR started (by kernel_rfl) Tryz.func7
  (ChangeSpec.witness6 (enc:=enc) (C:=Tryz.checked) false ⟨#[],#[.agg #[.int .i64 0,.int .i64 0,.int .i64 0,.slice none 0 0],.int .i64 0,.int .i64 0,.int .i64 0],[]⟩ 8 (by kernel_rfl) (by kernel_rfl) (by kernel_rfl) (by kernel_rfl)) ?_
 intro W base args ds gs before hval0 hW hcnd _;have hval:∀(j:Nat) t v,Tryz.f7.params[j]? =some t→args[j]? =some v→Value.okWide Tryz.prog W .any base t v:=hval0;have hW':=hW;obtain⟨p,q,hA0,hV,rfl,hfz,hnd⟩:=hW;have hA:DataW.TrodAll enc Tryz.prog W 0 (fun _=>true) true Tryz.f7.params.toList args.toList ds p:=hA0;rw[Tryz.params7]at hA hval;obtain⟨rfl,rfl⟩:=trodVars_none hV;obtain⟨v0,vs0,d0,ds0,p0,q0,hargs,rfl,rfl,h0,r0⟩:=trodAll_cons hA;obtain⟨v1,vs1,d1,ds1,p1,q1,rfl,rfl,rfl,h1,r1⟩:=trodAll_cons r0;obtain⟨v2,vs2,d2,ds2,p2,q2,rfl,rfl,rfl,h2,r2⟩:=trodAll_cons r1;obtain⟨v3,vs3,d3,ds3,p3,q3,rfl,rfl,rfl,h3,r3⟩:=trodAll_cons r2;obtain⟨rfl,rfl,rfl⟩:=trodAll_nil r3;obtain rfl:args=#[v0,v1,v2,v3]:=by cases args;simp_all
 obtain⟨cs0,rfl,-⟩:=okWide_struct Tryz.underlying46 (hval 0 46 v0 rfl rfl);obtain⟨x0,k0,s0⟩:=ZL ZM h0;obtain⟨a1,rfl,rfl,rfl,w1⟩:=open_int Tryz.underlying3 (hval 1 3 v1 rfl rfl) h1;obtain⟨a2,rfl,rfl,rfl,w2⟩:=open_int Tryz.underlying3 (hval 2 3 v2 rfl rfl) h2;obtain⟨a3,rfl,rfl,rfl,w3⟩:=open_int Tryz.underlying3 (hval 3 3 v3 rfl rfl) h3;refine(FK (EB x0 a1 a2 a3 k0) rfl (lS s0 (lS (VR.int _ a1) (lS (VR.int _ a2) (lS (VR.int _ a3) PT))))).mono fun e W' ⟨he,hb⟩=> ?_
 subst he;exact⟨_,rfl,yW qT rfl Tryz.underlying4 rfl rfl (FI EC) hW' hb⟩
theorem CJ:Tryz.prog.funcNamed Rows.checkKindsRow.func=some 7:=by kernel_rfl
theorem LG:(Rows.checkKindsRow.wf (OpenSpec.ofChange Rows.checkKindsSpec))=true:=by kernel_rfl
theorem LH:(mapsRowed Tryz.prog)=true:=by kernel_rfl
theorem LI:(Tryz.f7.params.all (Tryz.prog.readableRec ·))=true:=by kernel_rfl
theorem LJ:(namedTie Tryz.prog Rows.checkKindsRow.named Rows.checkKindsSpec.vars)=true:=by kernel_rfl
theorem LK:((Rows.checkKindsRow.stops==[]))=true:=by kernel_rfl
theorem LL:((Tryz.prog.stops==[]))=true:=by kernel_rfl
theorem LM:((Rows.checkKindsRow.knobs==[]))=true:=by kernel_rfl
theorem LN:((Tryz.prog.stopKnobs==[]))=true:=by kernel_rfl
theorem LO:((Rows.checkKindsRow.inPlace==Tryz.prog.inPlace 7))=true:=by kernel_rfl
theorem IS:((Rows.checkKindsRow.unfollowed==Tryz.prog.unfollowed 7))=true:=by kernel_rfl
theorem IT:((Rows.checkKindsRow.recurses==Tryz.prog.recurses 7))=true:=by kernel_rfl
theorem IU:((Rows.checkKindsRow.named==Tryz.prog.varsNamed 7))=true:=by kernel_rfl
theorem IV:((Rows.checkKindsRow.maps==(Tryz.f7.params.toList++Rows.checkKindsSpec.plain.varTypes Tryz.prog).any (Tryz.prog.mapsRec ·)))=true:=by kernel_rfl
theorem IW:((Rows.checkKindsRow.ifaces==(Tryz.f7.params.toList++Rows.checkKindsSpec.plain.varTypes Tryz.prog).any (Tryz.prog.ifacesRec ·)))=true:=by kernel_rfl
theorem IX:((Rows.checkKindsRow.mapsOut==Tryz.prog.mapsAmong Tryz.f7.resultTypes.toList))=true:=by kernel_rfl
theorem IY:((Rows.checkKindsRow.loops==(Tryz.f7.params.toList++Rows.checkKindsSpec.plain.varTypes Tryz.prog).any (Tryz.prog.loopsFrom ·)))=true:=by kernel_rfl
theorem IZ:((Rows.checkKindsRow.wideKeys==(Tryz.f7.params.toList++Rows.checkKindsSpec.plain.varTypes Tryz.prog++Tryz.f7.resultTypes.toList).any (Tryz.prog.wideKeysFrom ·)))=true:=by kernel_rfl
theorem JA:(Rows.checkKindsSpec.vars.all (Tryz.prog.varReadable ·))=true:=by kernel_rfl
theorem JB:(Tryz.f7.resultTypes.all (fun t=>Tryz.prog.readableRec t&&decide (t<Tryz.prog.types.size)))=true:=by kernel_rfl
theorem JC:((Rows.checkKindsRow.ifacesOut==Tryz.f7.resultTypes.toList.any (Tryz.prog.ifacesRec ·)))=true:=by kernel_rfl
theorem JD:((Rows.checkKindsRow.loopsOut==Tryz.f7.resultTypes.toList.any (Tryz.prog.loopsFrom ·)))=true:=by kernel_rfl
theorem JE:((Rows.checkKindsRow.plainKeys==Tryz.prog.plainKeys))=true:=by kernel_rfl
theorem JF:(Rows.checkKindsRow.shortTexts.isNone)=true:=by kernel_rfl
theorem JG:(Tryz.prog.stopsHeard)=true:=by kernel_rfl
theorem JH:(Tryz.prog.mayEnter)=true:=by kernel_rfl
theorem JI:((Rows.checkKindsRow.lifted==Tryz.prog.liftsFinal))=true:=by kernel_rfl
theorem JJ:((Tryz.prog.make==some Rows.checkKindsRow.make))=true:=by kernel_rfl
theorem JK:((Rows.checkKindsRow.kinds==(if Rows.checkKindsRow.domain.isEmpty then []else Tryz.f7.params.toList.map fun t=>match Tryz.prog.underlying t with|some (.int k)=>some k| _=>none)))=true:=by kernel_rfl
theorem JL:((Rows.checkKindsRow.pinned==Rows.checkKindsRow.pinnedBy))=true:=by kernel_rfl
theorem JM:((Rows.checkKindsRow.veiled==(Tryz.f7.params.toList++Rows.checkKindsSpec.plain.varTypes Tryz.prog++Tryz.f7.resultTypes.toList).any (Tryz.prog.veiledRec ·)))=true:=by kernel_rfl
theorem JN:(Rows.checkKindsRow.veiledFits Tryz.prog Tryz.f7.params.toList (Tryz.f7.params.toList++Rows.checkKindsSpec.plain.varTypes Tryz.prog++Tryz.f7.resultTypes.toList))=true:=by kernel_rfl
set_option maxRecDepth 100000 in
theorem CK:joinedFacts Tryz.prog 7 Tryz.f7 Rows.checkKindsSpec Rows.checkKindsRow=true:=by
 unfold joinedFacts;simp only[Bool.and_eq_true];exact⟨⟨⟨⟨⟨⟨⟨⟨⟨⟨⟨⟨⟨⟨⟨⟨⟨⟨⟨⟨⟨⟨⟨⟨⟨⟨⟨⟨⟨⟨⟨LG,qT⟩,LH⟩,LI⟩,LJ⟩,LK⟩,LL⟩,LM⟩,LN⟩,LO⟩,IS⟩,IT⟩,IU⟩,IV⟩,IW⟩,IX⟩,IY⟩,IZ⟩,JA⟩,JB⟩,JC⟩,JD⟩,JE⟩,JF⟩,JG⟩,JH⟩,JI⟩,JJ⟩,JK⟩,JL⟩,JM⟩,JN⟩
theorem CL:decide (Tryz.f7.isInstance Tryz.prog Rows.checkKindsRow.origin Rows.checkKindsRow.targs)=true:=by kernel_rfl
theorem ED:Tryz.f7.isWrapper Tryz.prog Rows.checkKindsRow.wrapper Rows.checkKindsRow.mainSum:=by unfold Func.isWrapper;first|(rw[if_pos (by decide+kernel)];kernel_rfl)|(rw[if_neg (by decide+kernel)];exact⟨rfl,rfl⟩)
set_option maxRecDepth 100000 in
theorem checkKinds_holds:Rows.CheckKindsSaid:=
 OpenClaim.holds_of_wide 7 Tryz.f7 rfl rfl rfl rfl rfl rfl rfl ⟨rfl,rfl,rfl,rfl,rfl⟩ rfl rfl rfl rfl rfl CJ Tryz.func7 CK
  (of_decide_eq_true CL) ED (fun os started H enc _=>BF os started H enc)
end Go.Proofs.YtjpdadobblffmaaGreat
