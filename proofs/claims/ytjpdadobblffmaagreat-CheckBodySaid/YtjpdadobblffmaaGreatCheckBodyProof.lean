/-
  CheckBody returns true for every input, and leaves its arguments as they were. No condition.
-/
import Derived.Test.YtjpdadobblffmaaGreatCB7
import Derived.Test.YtjpdadobblffmaaGreatRows
import Derived.WalkKit
import Derived.ProofKit
import Derived.OpenShut
namespace Go.Proofs.YtjpdadobblffmaaGreat
open Go.RowKit Go.ChangeShapes Go.WideShapes Go.ChangeAt Go.Deep
set_option linter.unusedSimpArgs false
set_option linter.unusedVariables false
theorem FM:ownKnob Tryz.prog.godebug=none:=by kernel_rfl
theorem qD:laidOutB Tryz.prog=true:=by kernel_rfl
theorem EK:(Tryz.f5.params.toList.all fun t=>Tryz.prog.readableRec t&&decide (t<Tryz.prog.types.size))=true:=by kernel_rfl
set_option maxRecDepth 100000 in
theorem zY(os:Os)(started:os.Started)(H:Type)(enc:TypeId×Value→H):
  ReturnsInHanded {} Tryz.checked os 5 .any (Rows.checkBodySpec.pre6 enc Tryz.prog Tryz.f5 Rows.checkBodyRow.domain false) (Rows.checkBodySpec.post enc Tryz.prog Tryz.f5 false true false false):=by
 refine returnsInHanded_of_change (C:=Tryz.checked) FM started (by kernel_rfl) Tryz.func5
  (ChangeSpec.witness6 (enc:=enc) (C:=Tryz.checked) false ⟨#[],#[.slice none 0 0,.slice none 0 0,.slice none 0 0,.int .i64 0],[]⟩ 8 (by kernel_rfl) (by kernel_rfl) (by kernel_rfl) (by kernel_rfl)) ?_
 intro W base args ds gs before hval0 hW hcnd _;have hval:∀(j:Nat) t v,Tryz.f5.params[j]? =some t→args[j]? =some v→Value.okWide Tryz.prog W .any base t v:=hval0;have hW':=hW;obtain⟨p,q,hA0,hV,rfl,hfz,hnd⟩:=hW;have hA:DataW.TrodAll enc Tryz.prog W 0 (fun _=>true) true Tryz.f5.params.toList args.toList ds p:=hA0;rw[Tryz.params5]at hA hval;obtain⟨rfl,rfl⟩:=trodVars_none hV;obtain⟨v0,vs0,d0,ds0,p0,q0,hargs,rfl,rfl,h0,r0⟩:=trodAll_cons hA;obtain⟨v1,vs1,d1,ds1,p1,q1,rfl,rfl,rfl,h1,r1⟩:=trodAll_cons r0;obtain⟨v2,vs2,d2,ds2,p2,q2,rfl,rfl,rfl,h2,r2⟩:=trodAll_cons r1;obtain⟨v3,vs3,d3,ds3,p3,q3,rfl,rfl,rfl,h3,r3⟩:=trodAll_cons r2;obtain⟨rfl,rfl,rfl⟩:=trodAll_nil r3;obtain rfl:args=#[v0,v1,v2,v3]:=by cases args;simp_all
 obtain⟨A0,n0,c0,rfl⟩:=okWide_slice Tryz.underlying42 (hval 0 42 v0 rfl rfl);obtain⟨x0,k0,s0⟩:=JN YG rfl h0;obtain⟨A1,n1,c1,rfl⟩:=okWide_slice Tryz.underlying24 (hval 1 24 v1 rfl rfl);obtain⟨x1,k1,s1⟩:=JN CU rfl h1;obtain⟨A2,n2,c2,rfl⟩:=okWide_slice Tryz.underlying24 (hval 2 24 v2 rfl rfl);obtain⟨x2,k2,s2⟩:=JN CU rfl h2;obtain⟨a3,rfl,rfl,rfl,w3⟩:=open_int Tryz.underlying3 (hval 3 3 v3 rfl rfl) h3;refine(aBJ (EJ x0 x1 x2 a3 k0) rfl (BH s0 (BH s1 (BH s2 (BH (VR.int _ a3) aEI))))).mono fun e W' ⟨he,hb⟩=> ?_
 subst he;exact⟨_,rfl,WI qD rfl Tryz.underlying4 rfl rfl (aBH EK) hW' hb⟩
theorem BB:Tryz.prog.funcNamed Rows.checkBodyRow.func=some 5:=by kernel_rfl
theorem KU:(Rows.checkBodyRow.wf (OpenSpec.ofChange Rows.checkBodySpec))=true:=by kernel_rfl
theorem KV:(mapsRowed Tryz.prog)=true:=by kernel_rfl
theorem KW:(Tryz.f5.params.all (Tryz.prog.readableRec ·))=true:=by kernel_rfl
theorem KX:(namedTie Tryz.prog Rows.checkBodyRow.named Rows.checkBodySpec.vars)=true:=by kernel_rfl
theorem KY:((Rows.checkBodyRow.stops==[]))=true:=by kernel_rfl
theorem KZ:((Tryz.prog.stops==[]))=true:=by kernel_rfl
theorem LA:((Rows.checkBodyRow.knobs==[]))=true:=by kernel_rfl
theorem LB:((Tryz.prog.stopKnobs==[]))=true:=by kernel_rfl
theorem LC:((Rows.checkBodyRow.inPlace==Tryz.prog.inPlace 5))=true:=by kernel_rfl
theorem FN:((Rows.checkBodyRow.unfollowed==Tryz.prog.unfollowed 5))=true:=by kernel_rfl
theorem FO:((Rows.checkBodyRow.recurses==Tryz.prog.recurses 5))=true:=by kernel_rfl
theorem FP:((Rows.checkBodyRow.named==Tryz.prog.varsNamed 5))=true:=by kernel_rfl
theorem FQ:((Rows.checkBodyRow.maps==(Tryz.f5.params.toList++Rows.checkBodySpec.plain.varTypes Tryz.prog).any (Tryz.prog.mapsRec ·)))=true:=by kernel_rfl
theorem FR:((Rows.checkBodyRow.ifaces==(Tryz.f5.params.toList++Rows.checkBodySpec.plain.varTypes Tryz.prog).any (Tryz.prog.ifacesRec ·)))=true:=by kernel_rfl
theorem FS:((Rows.checkBodyRow.mapsOut==Tryz.prog.mapsAmong Tryz.f5.resultTypes.toList))=true:=by kernel_rfl
theorem FU:((Rows.checkBodyRow.loops==(Tryz.f5.params.toList++Rows.checkBodySpec.plain.varTypes Tryz.prog).any (Tryz.prog.loopsFrom ·)))=true:=by kernel_rfl
theorem FV:((Rows.checkBodyRow.wideKeys==(Tryz.f5.params.toList++Rows.checkBodySpec.plain.varTypes Tryz.prog++Tryz.f5.resultTypes.toList).any (Tryz.prog.wideKeysFrom ·)))=true:=by kernel_rfl
theorem FW:(Rows.checkBodySpec.vars.all (Tryz.prog.varReadable ·))=true:=by kernel_rfl
theorem FX:(Tryz.f5.resultTypes.all (fun t=>Tryz.prog.readableRec t&&decide (t<Tryz.prog.types.size)))=true:=by kernel_rfl
theorem FY:((Rows.checkBodyRow.ifacesOut==Tryz.f5.resultTypes.toList.any (Tryz.prog.ifacesRec ·)))=true:=by kernel_rfl
theorem FZ:((Rows.checkBodyRow.loopsOut==Tryz.f5.resultTypes.toList.any (Tryz.prog.loopsFrom ·)))=true:=by kernel_rfl
theorem GA:((Rows.checkBodyRow.plainKeys==Tryz.prog.plainKeys))=true:=by kernel_rfl
theorem GB:(Rows.checkBodyRow.shortTexts.isNone)=true:=by kernel_rfl
theorem GC:(Tryz.prog.stopsHeard)=true:=by kernel_rfl
theorem GD:(Tryz.prog.mayEnter)=true:=by kernel_rfl
theorem GE:((Rows.checkBodyRow.lifted==Tryz.prog.liftsFinal))=true:=by kernel_rfl
theorem GF:((Tryz.prog.make==some Rows.checkBodyRow.make))=true:=by kernel_rfl
theorem GG:((Rows.checkBodyRow.kinds==(if Rows.checkBodyRow.domain.isEmpty then []else Tryz.f5.params.toList.map fun t=>match Tryz.prog.underlying t with|some (.int k)=>some k| _=>none)))=true:=by kernel_rfl
theorem GH:((Rows.checkBodyRow.pinned==Rows.checkBodyRow.pinnedBy))=true:=by kernel_rfl
theorem GI:((Rows.checkBodyRow.veiled==(Tryz.f5.params.toList++Rows.checkBodySpec.plain.varTypes Tryz.prog++Tryz.f5.resultTypes.toList).any (Tryz.prog.veiledRec ·)))=true:=by kernel_rfl
theorem GJ:(Rows.checkBodyRow.veiledFits Tryz.prog Tryz.f5.params.toList (Tryz.f5.params.toList++Rows.checkBodySpec.plain.varTypes Tryz.prog++Tryz.f5.resultTypes.toList))=true:=by kernel_rfl
set_option maxRecDepth 100000 in
theorem BC:joinedFacts Tryz.prog 5 Tryz.f5 Rows.checkBodySpec Rows.checkBodyRow=true:=by
 unfold joinedFacts;simp only[Bool.and_eq_true];exact⟨⟨⟨⟨⟨⟨⟨⟨⟨⟨⟨⟨⟨⟨⟨⟨⟨⟨⟨⟨⟨⟨⟨⟨⟨⟨⟨⟨⟨⟨⟨KU,qD⟩,KV⟩,KW⟩,KX⟩,KY⟩,KZ⟩,LA⟩,LB⟩,LC⟩,FN⟩,FO⟩,FP⟩,FQ⟩,FR⟩,FS⟩,FU⟩,FV⟩,FW⟩,FX⟩,FY⟩,FZ⟩,GA⟩,GB⟩,GC⟩,GD⟩,GE⟩,GF⟩,GG⟩,GH⟩,GI⟩,GJ⟩
theorem BD:decide (Tryz.f5.isInstance Tryz.prog Rows.checkBodyRow.origin Rows.checkBodyRow.targs)=true:=by kernel_rfl
theorem EL:Tryz.f5.isWrapper Tryz.prog Rows.checkBodyRow.wrapper Rows.checkBodyRow.mainSum:=by unfold Func.isWrapper;first|(rw[if_pos (by decide+kernel)];kernel_rfl)|(rw[if_neg (by decide+kernel)];exact⟨rfl,rfl⟩)
set_option maxRecDepth 100000 in
theorem checkBody_holds:Rows.CheckBodySaid:=
 OpenClaim.holds_of_wide 5 Tryz.f5 rfl rfl rfl rfl rfl rfl rfl ⟨rfl,rfl,rfl,rfl,rfl⟩ rfl rfl rfl rfl rfl BB Tryz.func5 BC
  (of_decide_eq_true BD) EL (fun os started H enc _=>zY os started H enc)
end Go.Proofs.YtjpdadobblffmaaGreat
