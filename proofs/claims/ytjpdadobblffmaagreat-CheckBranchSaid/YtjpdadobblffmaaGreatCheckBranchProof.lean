/-
  CheckBranch returns true for every input, and leaves its arguments as they were. No condition.
-/
import Derived.Test.YtjpdadobblffmaaGreatQCheckBranch
import Derived.Test.YtjpdadobblffmaaGreatRows
import Derived.WalkKit
import Derived.ProofKit
import Derived.OpenShut
import Derived.Test.YtjpdadobblffmaaGreatCC7
namespace Go.Proofs.YtjpdadobblffmaaGreat
open Go.RowKit Go.ChangeShapes Go.WideShapes Go.ChangeAt Go.Deep
set_option linter.unusedSimpArgs false
set_option linter.unusedVariables false
theorem EH:ownKnob Tryz.prog.godebug=none:=by kernel_rfl
theorem pA:laidOutB Tryz.prog=true:=by kernel_rfl
theorem CP:(Tryz.f8.params.toList.all fun t=>Tryz.prog.readableRec t&&decide (t<Tryz.prog.types.size))=true:=by kernel_rfl
set_option maxRecDepth 100000 in
theorem yS(os:Os)(started:os.Started)(H:Type)(enc:TypeId×Value→H):
  ReturnsInHanded {} Tryz.checked os 8 .any (Rows.checkBranchSpec.pre6 enc Tryz.prog Tryz.f8 Rows.checkBranchRow.domain false) (Rows.checkBranchSpec.post enc Tryz.prog Tryz.f8 false true false false):=by
 refine returnsInHanded_of_change (C:=Tryz.checked) EH started (by kernel_rfl) Tryz.func8
  (ChangeSpec.witness6 (enc:=enc) (C:=Tryz.checked) false ⟨#[],#[.slice none 0 0,.int .i64 0,.int .i64 0,.int .i64 0],[]⟩ 8 (by kernel_rfl) (by kernel_rfl) (by kernel_rfl) (by kernel_rfl)) ?_
 intro W base args ds gs before hval0 hW hcnd _;have hval:∀(j:Nat) t v,Tryz.f8.params[j]? =some t→args[j]? =some v→Value.okWide Tryz.prog W .any base t v:=hval0;have hW':=hW;obtain⟨p,q,hA0,hV,rfl,hfz,hnd⟩:=hW;have hA:DataW.TrodAll enc Tryz.prog W 0 (fun _=>true) true Tryz.f8.params.toList args.toList ds p:=hA0;rw[Tryz.params8]at hA hval;obtain⟨rfl,rfl⟩:=trodVars_none hV;obtain⟨v0,vs0,d0,ds0,p0,q0,hargs,rfl,rfl,h0,r0⟩:=trodAll_cons hA;obtain⟨v1,vs1,d1,ds1,p1,q1,rfl,rfl,rfl,h1,r1⟩:=trodAll_cons r0;obtain⟨v2,vs2,d2,ds2,p2,q2,rfl,rfl,rfl,h2,r2⟩:=trodAll_cons r1;obtain⟨v3,vs3,d3,ds3,p3,q3,rfl,rfl,rfl,h3,r3⟩:=trodAll_cons r2;obtain⟨rfl,rfl,rfl⟩:=trodAll_nil r3;obtain rfl:args=#[v0,v1,v2,v3]:=by cases args;simp_all
 obtain⟨A0,n0,c0,rfl⟩:=okWide_slice Tryz.underlying24 (hval 0 24 v0 rfl rfl);obtain⟨x0,k0,s0⟩:=ZK qC rfl h0;obtain⟨a1,rfl,rfl,rfl,w1⟩:=open_int Tryz.underlying3 (hval 1 3 v1 rfl rfl) h1;obtain⟨a2,rfl,rfl,rfl,w2⟩:=open_int Tryz.underlying3 (hval 2 3 v2 rfl rfl) h2;obtain⟨a3,rfl,rfl,rfl,w3⟩:=open_int Tryz.underlying3 (hval 3 3 v3 rfl rfl) h3;refine(FK (CO x0 a1 a2 a3 k0) rfl (lS s0 (lS (VR.int _ a1) (lS (VR.int _ a2) (lS (VR.int _ a3) PT))))).mono fun e W' ⟨he,hb⟩=> ?_
 subst he;exact⟨_,rfl,yW pA rfl Tryz.underlying4 rfl rfl (FI CP) hW' hb⟩
theorem BG:Tryz.prog.funcNamed Rows.checkBranchRow.func=some 8:=by kernel_rfl
theorem JT:(Rows.checkBranchRow.wf (OpenSpec.ofChange Rows.checkBranchSpec))=true:=by kernel_rfl
theorem JU:(mapsRowed Tryz.prog)=true:=by kernel_rfl
theorem JV:(Tryz.f8.params.all (Tryz.prog.readableRec ·))=true:=by kernel_rfl
theorem JW:(namedTie Tryz.prog Rows.checkBranchRow.named Rows.checkBranchSpec.vars)=true:=by kernel_rfl
theorem JX:((Rows.checkBranchRow.stops==[]))=true:=by kernel_rfl
theorem JY:((Tryz.prog.stops==[]))=true:=by kernel_rfl
theorem JZ:((Rows.checkBranchRow.knobs==[]))=true:=by kernel_rfl
theorem KA:((Tryz.prog.stopKnobs==[]))=true:=by kernel_rfl
theorem KB:((Rows.checkBranchRow.inPlace==Tryz.prog.inPlace 8))=true:=by kernel_rfl
theorem EI:((Rows.checkBranchRow.unfollowed==Tryz.prog.unfollowed 8))=true:=by kernel_rfl
theorem EJ:((Rows.checkBranchRow.recurses==Tryz.prog.recurses 8))=true:=by kernel_rfl
theorem EK:((Rows.checkBranchRow.named==Tryz.prog.varsNamed 8))=true:=by kernel_rfl
theorem EL:((Rows.checkBranchRow.maps==(Tryz.f8.params.toList++Rows.checkBranchSpec.plain.varTypes Tryz.prog).any (Tryz.prog.mapsRec ·)))=true:=by kernel_rfl
theorem EM:((Rows.checkBranchRow.ifaces==(Tryz.f8.params.toList++Rows.checkBranchSpec.plain.varTypes Tryz.prog).any (Tryz.prog.ifacesRec ·)))=true:=by kernel_rfl
theorem EN:((Rows.checkBranchRow.mapsOut==Tryz.prog.mapsAmong Tryz.f8.resultTypes.toList))=true:=by kernel_rfl
theorem EO:((Rows.checkBranchRow.loops==(Tryz.f8.params.toList++Rows.checkBranchSpec.plain.varTypes Tryz.prog).any (Tryz.prog.loopsFrom ·)))=true:=by kernel_rfl
theorem EP:((Rows.checkBranchRow.wideKeys==(Tryz.f8.params.toList++Rows.checkBranchSpec.plain.varTypes Tryz.prog++Tryz.f8.resultTypes.toList).any (Tryz.prog.wideKeysFrom ·)))=true:=by kernel_rfl
theorem EQ:(Rows.checkBranchSpec.vars.all (Tryz.prog.varReadable ·))=true:=by kernel_rfl
theorem ES:(Tryz.f8.resultTypes.all (fun t=>Tryz.prog.readableRec t&&decide (t<Tryz.prog.types.size)))=true:=by kernel_rfl
theorem ET:((Rows.checkBranchRow.ifacesOut==Tryz.f8.resultTypes.toList.any (Tryz.prog.ifacesRec ·)))=true:=by kernel_rfl
theorem EU:((Rows.checkBranchRow.loopsOut==Tryz.f8.resultTypes.toList.any (Tryz.prog.loopsFrom ·)))=true:=by kernel_rfl
theorem EV:((Rows.checkBranchRow.plainKeys==Tryz.prog.plainKeys))=true:=by kernel_rfl
theorem EW:(Rows.checkBranchRow.shortTexts.isNone)=true:=by kernel_rfl
theorem EX:(Tryz.prog.stopsHeard)=true:=by kernel_rfl
theorem EY:(Tryz.prog.mayEnter)=true:=by kernel_rfl
theorem EZ:((Rows.checkBranchRow.lifted==Tryz.prog.liftsFinal))=true:=by kernel_rfl
theorem FA:((Tryz.prog.make==some Rows.checkBranchRow.make))=true:=by kernel_rfl
theorem FB:((Rows.checkBranchRow.kinds==(if Rows.checkBranchRow.domain.isEmpty then []else Tryz.f8.params.toList.map fun t=>match Tryz.prog.underlying t with|some (.int k)=>some k| _=>none)))=true:=by kernel_rfl
theorem FC:((Rows.checkBranchRow.pinned==Rows.checkBranchRow.pinnedBy))=true:=by kernel_rfl
theorem FD:((Rows.checkBranchRow.veiled==(Tryz.f8.params.toList++Rows.checkBranchSpec.plain.varTypes Tryz.prog++Tryz.f8.resultTypes.toList).any (Tryz.prog.veiledRec ·)))=true:=by kernel_rfl
theorem FE:(Rows.checkBranchRow.veiledFits Tryz.prog Tryz.f8.params.toList (Tryz.f8.params.toList++Rows.checkBranchSpec.plain.varTypes Tryz.prog++Tryz.f8.resultTypes.toList))=true:=by kernel_rfl
set_option maxRecDepth 100000 in
theorem BH:joinedFacts Tryz.prog 8 Tryz.f8 Rows.checkBranchSpec Rows.checkBranchRow=true:=by
 unfold joinedFacts;simp only[Bool.and_eq_true];exact⟨⟨⟨⟨⟨⟨⟨⟨⟨⟨⟨⟨⟨⟨⟨⟨⟨⟨⟨⟨⟨⟨⟨⟨⟨⟨⟨⟨⟨⟨⟨JT,pA⟩,JU⟩,JV⟩,JW⟩,JX⟩,JY⟩,JZ⟩,KA⟩,KB⟩,EI⟩,EJ⟩,EK⟩,EL⟩,EM⟩,EN⟩,EO⟩,EP⟩,EQ⟩,ES⟩,ET⟩,EU⟩,EV⟩,EW⟩,EX⟩,EY⟩,EZ⟩,FA⟩,FB⟩,FC⟩,FD⟩,FE⟩
theorem BI:decide (Tryz.f8.isInstance Tryz.prog Rows.checkBranchRow.origin Rows.checkBranchRow.targs)=true:=by kernel_rfl
theorem CQ:Tryz.f8.isWrapper Tryz.prog Rows.checkBranchRow.wrapper Rows.checkBranchRow.mainSum:=by unfold Func.isWrapper;first|(rw[if_pos (by decide+kernel)];kernel_rfl)|(rw[if_neg (by decide+kernel)];exact⟨rfl,rfl⟩)
set_option maxRecDepth 100000 in
theorem checkBranch_holds:Rows.CheckBranchSaid:=
 OpenClaim.holds_of_wide 8 Tryz.f8 rfl rfl rfl rfl rfl rfl rfl ⟨rfl,rfl,rfl,rfl,rfl⟩ rfl rfl rfl rfl rfl BG Tryz.func8 BH
  (of_decide_eq_true BI) CQ (fun os started H enc _=>yS os started H enc)
end Go.Proofs.YtjpdadobblffmaaGreat
