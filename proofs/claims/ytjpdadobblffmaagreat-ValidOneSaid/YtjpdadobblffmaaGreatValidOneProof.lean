/-
  ValidOne returns true for every input, and leaves its arguments as they were. No condition.
-/
import Derived.Test.YtjpdadobblffmaaGreatVValidOne
import Derived.Test.YtjpdadobblffmaaGreatVA3
import Derived.Test.YtjpdadobblffmaaGreatRows
import Derived.WalkKit
import Derived.ProofKit
import Derived.OpenShut
import Derived.Test.YtjpdadobblffmaaGreatVA7
namespace Go.Proofs.YtjpdadobblffmaaGreat
open Go.RowKit Go.ChangeShapes Go.WideShapes Go.ChangeAt Go.Deep
set_option linter.unusedSimpArgs false
set_option linter.unusedVariables false
theorem OU:ownKnob Tryz.prog.godebug=none:=by kernel_rfl
theorem tH:laidOutB Tryz.prog=true:=by kernel_rfl
theorem JH:(Tryz.f10.params.toList.all fun t=>Tryz.prog.readableRec t&&decide (t<Tryz.prog.types.size))=true:=by kernel_rfl
set_option maxRecDepth 100000 in
theorem EJ(os:Os)(started:os.Started)(H:Type)(enc:TypeId×Value→H):
  ReturnsInHanded {} Tryz.checked os 10 .any (Rows.validOneSpec.pre6 enc Tryz.prog Tryz.f10 Rows.validOneRow.domain false) (Rows.validOneSpec.post enc Tryz.prog Tryz.f10 false true false false):=by
 refine returnsInHanded_of_change (C:=Tryz.checked) OU started (by kernel_rfl) Tryz.func10
  (ChangeSpec.witness6 (enc:=enc) (C:=Tryz.checked) false ⟨#[],#[.slice none 0 0,.int .i64 0,.int .i64 0,.int .i64 0],[]⟩ 8 (by kernel_rfl) (by kernel_rfl) (by kernel_rfl) (by kernel_rfl)) ?_
 intro W base args ds gs before hval0 hW hcnd _;have hval:∀(j:Nat) t v,Tryz.f10.params[j]? =some t→args[j]? =some v→Value.okWide Tryz.prog W .any base t v:=hval0;have hW':=hW;obtain⟨p,q,hA0,hV,rfl,hfz,hnd⟩:=hW;have hA:DataW.TrodAll enc Tryz.prog W 0 (fun _=>true) true Tryz.f10.params.toList args.toList ds p:=hA0;rw[Tryz.params10]at hA hval;obtain⟨rfl,rfl⟩:=trodVars_none hV;obtain⟨v0,vs0,d0,ds0,p0,q0,hargs,rfl,rfl,h0,r0⟩:=trodAll_cons hA;obtain⟨v1,vs1,d1,ds1,p1,q1,rfl,rfl,rfl,h1,r1⟩:=trodAll_cons r0;obtain⟨v2,vs2,d2,ds2,p2,q2,rfl,rfl,rfl,h2,r2⟩:=trodAll_cons r1;obtain⟨v3,vs3,d3,ds3,p3,q3,rfl,rfl,rfl,h3,r3⟩:=trodAll_cons r2;obtain⟨rfl,rfl,rfl⟩:=trodAll_nil r3;obtain rfl:args=#[v0,v1,v2,v3]:=by cases args;simp_all
 obtain⟨A0,n0,c0,rfl⟩:=okWide_slice Tryz.underlying24 (hval 0 24 v0 rfl rfl);obtain⟨x0,k0,s0⟩:=aEt qU rfl h0;obtain⟨a1,rfl,rfl,rfl,w1⟩:=open_int Tryz.underlying3 (hval 1 3 v1 rfl rfl) h1;obtain⟨a2,rfl,rfl,rfl,w2⟩:=open_int Tryz.underlying3 (hval 2 3 v2 rfl rfl) h2;obtain⟨a3,rfl,rfl,rfl,w3⟩:=open_int Tryz.underlying3 (hval 3 3 v3 rfl rfl) h3;refine(XM (JG x0 a1 a2 a3) rfl (AP s0 (AP (VR.int _ a1) (AP (VR.int _ a2) (AP (VR.int _ a3) aBW))))).mono fun e W' ⟨he,hb⟩=> ?_
 subst he;exact⟨_,rfl,PW tH rfl Tryz.underlying4 rfl rfl (XL JH) hW' hb⟩
theorem HT:Tryz.prog.funcNamed Rows.validOneRow.func=some 10:=by kernel_rfl
theorem TU:(Rows.validOneRow.wf (OpenSpec.ofChange Rows.validOneSpec))=true:=by kernel_rfl
theorem TV:(mapsRowed Tryz.prog)=true:=by kernel_rfl
theorem TW:(Tryz.f10.params.all (Tryz.prog.readableRec ·))=true:=by kernel_rfl
theorem TX:(namedTie Tryz.prog Rows.validOneRow.named Rows.validOneSpec.vars)=true:=by kernel_rfl
theorem TY:((Rows.validOneRow.stops==[]))=true:=by kernel_rfl
theorem TZ:((Tryz.prog.stops==[]))=true:=by kernel_rfl
theorem UA:((Rows.validOneRow.knobs==[]))=true:=by kernel_rfl
theorem UB:((Tryz.prog.stopKnobs==[]))=true:=by kernel_rfl
theorem UC:((Rows.validOneRow.inPlace==Tryz.prog.inPlace 10))=true:=by kernel_rfl
theorem OV:((Rows.validOneRow.unfollowed==Tryz.prog.unfollowed 10))=true:=by kernel_rfl
theorem OW:((Rows.validOneRow.recurses==Tryz.prog.recurses 10))=true:=by kernel_rfl
theorem OX:((Rows.validOneRow.named==Tryz.prog.varsNamed 10))=true:=by kernel_rfl
theorem OY:((Rows.validOneRow.maps==(Tryz.f10.params.toList++Rows.validOneSpec.plain.varTypes Tryz.prog).any (Tryz.prog.mapsRec ·)))=true:=by kernel_rfl
theorem OZ:((Rows.validOneRow.ifaces==(Tryz.f10.params.toList++Rows.validOneSpec.plain.varTypes Tryz.prog).any (Tryz.prog.ifacesRec ·)))=true:=by kernel_rfl
theorem PA:((Rows.validOneRow.mapsOut==Tryz.prog.mapsAmong Tryz.f10.resultTypes.toList))=true:=by kernel_rfl
theorem PB:((Rows.validOneRow.loops==(Tryz.f10.params.toList++Rows.validOneSpec.plain.varTypes Tryz.prog).any (Tryz.prog.loopsFrom ·)))=true:=by kernel_rfl
theorem PC:((Rows.validOneRow.wideKeys==(Tryz.f10.params.toList++Rows.validOneSpec.plain.varTypes Tryz.prog++Tryz.f10.resultTypes.toList).any (Tryz.prog.wideKeysFrom ·)))=true:=by kernel_rfl
theorem PD:(Rows.validOneSpec.vars.all (Tryz.prog.varReadable ·))=true:=by kernel_rfl
theorem PE:(Tryz.f10.resultTypes.all (fun t=>Tryz.prog.readableRec t&&decide (t<Tryz.prog.types.size)))=true:=by kernel_rfl
theorem PF:((Rows.validOneRow.ifacesOut==Tryz.f10.resultTypes.toList.any (Tryz.prog.ifacesRec ·)))=true:=by kernel_rfl
theorem PG:((Rows.validOneRow.loopsOut==Tryz.f10.resultTypes.toList.any (Tryz.prog.loopsFrom ·)))=true:=by kernel_rfl
theorem PH:((Rows.validOneRow.plainKeys==Tryz.prog.plainKeys))=true:=by kernel_rfl
theorem PI:(Rows.validOneRow.shortTexts.isNone)=true:=by kernel_rfl
theorem PJ:(Tryz.prog.stopsHeard)=true:=by kernel_rfl
theorem PK:(Tryz.prog.mayEnter)=true:=by kernel_rfl
theorem PL:((Rows.validOneRow.lifted==Tryz.prog.liftsFinal))=true:=by kernel_rfl
theorem PM:((Tryz.prog.make==some Rows.validOneRow.make))=true:=by kernel_rfl
theorem PN:((Rows.validOneRow.kinds==(if Rows.validOneRow.domain.isEmpty then []else Tryz.f10.params.toList.map fun t=>match Tryz.prog.underlying t with|some (.int k)=>some k| _=>none)))=true:=by kernel_rfl
theorem PO:((Rows.validOneRow.pinned==Rows.validOneRow.pinnedBy))=true:=by kernel_rfl
theorem PP:((Rows.validOneRow.veiled==(Tryz.f10.params.toList++Rows.validOneSpec.plain.varTypes Tryz.prog++Tryz.f10.resultTypes.toList).any (Tryz.prog.veiledRec ·)))=true:=by kernel_rfl
theorem PQ:(Rows.validOneRow.veiledFits Tryz.prog Tryz.f10.params.toList (Tryz.f10.params.toList++Rows.validOneSpec.plain.varTypes Tryz.prog++Tryz.f10.resultTypes.toList))=true:=by kernel_rfl
set_option maxRecDepth 100000 in
theorem HU:joinedFacts Tryz.prog 10 Tryz.f10 Rows.validOneSpec Rows.validOneRow=true:=by
 unfold joinedFacts;simp only[Bool.and_eq_true];exact⟨⟨⟨⟨⟨⟨⟨⟨⟨⟨⟨⟨⟨⟨⟨⟨⟨⟨⟨⟨⟨⟨⟨⟨⟨⟨⟨⟨⟨⟨⟨TU,tH⟩,TV⟩,TW⟩,TX⟩,TY⟩,TZ⟩,UA⟩,UB⟩,UC⟩,OV⟩,OW⟩,OX⟩,OY⟩,OZ⟩,PA⟩,PB⟩,PC⟩,PD⟩,PE⟩,PF⟩,PG⟩,PH⟩,PI⟩,PJ⟩,PK⟩,PL⟩,PM⟩,PN⟩,PO⟩,PP⟩,PQ⟩
theorem HV:decide (Tryz.f10.isInstance Tryz.prog Rows.validOneRow.origin Rows.validOneRow.targs)=true:=by kernel_rfl
theorem JI:Tryz.f10.isWrapper Tryz.prog Rows.validOneRow.wrapper Rows.validOneRow.mainSum:=by unfold Func.isWrapper;first|(rw[if_pos (by decide+kernel)];kernel_rfl)|(rw[if_neg (by decide+kernel)];exact⟨rfl,rfl⟩)
set_option maxRecDepth 100000 in
theorem validOne_holds:Rows.ValidOneSaid:=
 OpenClaim.holds_of_wide 10 Tryz.f10 rfl rfl rfl rfl rfl rfl rfl ⟨rfl,rfl,rfl,rfl,rfl⟩ rfl rfl rfl rfl rfl HT Tryz.func10 HU
  (of_decide_eq_true HV) JI (fun os started H enc _=>EJ os started H enc)
end Go.Proofs.YtjpdadobblffmaaGreat
