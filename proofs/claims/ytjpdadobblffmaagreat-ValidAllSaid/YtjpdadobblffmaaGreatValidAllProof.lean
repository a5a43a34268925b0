/-
  ValidAll returns true for every input, and leaves its arguments as they were. No condition.
-/
import Derived.Test.YtjpdadobblffmaaGreatVValidAll
import Derived.Test.YtjpdadobblffmaaGreatRows
import Derived.WalkKit
import Derived.ProofKit
import Derived.OpenShut
import Derived.Test.YtjpdadobblffmaaGreatVA7
namespace Go.Proofs.YtjpdadobblffmaaGreat
open Go.RowKit Go.ChangeShapes Go.WideShapes Go.ChangeAt Go.Deep
set_option linter.unusedSimpArgs false
set_option linter.unusedVariables false
theorem NW:ownKnob Tryz.prog.godebug=none:=by kernel_rfl
theorem tG:laidOutB Tryz.prog=true:=by kernel_rfl
theorem JD:(Tryz.f9.params.toList.all fun t=>Tryz.prog.readableRec t&&decide (t<Tryz.prog.types.size))=true:=by kernel_rfl
set_option maxRecDepth 100000 in
theorem EH(os:Os)(started:os.Started)(H:Type)(enc:TypeId×Value→H):
  ReturnsInHanded {} Tryz.checked os 9 .any (Rows.validAllSpec.pre6 enc Tryz.prog Tryz.f9 Rows.validAllRow.domain false) (Rows.validAllSpec.post enc Tryz.prog Tryz.f9 false true false false):=by
 refine returnsInHanded_of_change (C:=Tryz.checked) NW started (by kernel_rfl) Tryz.func9
  (ChangeSpec.witness6 (enc:=enc) (C:=Tryz.checked) false ⟨#[],#[.agg #[.slice none 0 0,.slice none 0 0,.slice none 0 0,.bool false,.int .i64 0,.int .i64 0,.bool false,.int .i64 0,.int .i64 0,.slice none 0 0,.slice none 0 0,.slice none 0 0,.slice none 0 0,.slice none 0 0]],[]⟩ 8 (by kernel_rfl) (by kernel_rfl) (by kernel_rfl) (by kernel_rfl)) ?_
 intro W base args ds gs before hval0 hW hcnd _;have hval:∀(j:Nat) t v,Tryz.f9.params[j]? =some t→args[j]? =some v→Value.okWide Tryz.prog W .any base t v:=hval0;have hW':=hW;obtain⟨p,q,hA0,hV,rfl,hfz,hnd⟩:=hW;have hA:DataW.TrodAll enc Tryz.prog W 0 (fun _=>true) true Tryz.f9.params.toList args.toList ds p:=hA0;rw[Tryz.params9]at hA hval;obtain⟨rfl,rfl⟩:=trodVars_none hV;obtain⟨v0,vs0,d0,ds0,p0,q0,hargs,rfl,rfl,h0,r0⟩:=trodAll_cons hA;obtain⟨rfl,rfl,rfl⟩:=trodAll_nil r0;obtain rfl:args=#[v0]:=by cases args;simp_all
 obtain⟨cs0,rfl,-⟩:=okWide_struct Tryz.underlying33 (hval 0 33 v0 rfl rfl);obtain⟨x0,k0,s0⟩:=aEu aJo h0;refine(XM (JC x0 k0) rfl (AP s0 aBW)).mono fun e W' ⟨he,hb⟩=> ?_
 subst he;exact⟨_,rfl,PW tG rfl Tryz.underlying4 rfl rfl (XL JD) hW' hb⟩
theorem HQ:Tryz.prog.funcNamed Rows.validAllRow.func=some 9:=by kernel_rfl
theorem TK:(Rows.validAllRow.wf (OpenSpec.ofChange Rows.validAllSpec))=true:=by kernel_rfl
theorem TL:(mapsRowed Tryz.prog)=true:=by kernel_rfl
theorem TM:(Tryz.f9.params.all (Tryz.prog.readableRec ·))=true:=by kernel_rfl
theorem TN:(namedTie Tryz.prog Rows.validAllRow.named Rows.validAllSpec.vars)=true:=by kernel_rfl
theorem TO:((Rows.validAllRow.stops==[]))=true:=by kernel_rfl
theorem TP:((Tryz.prog.stops==[]))=true:=by kernel_rfl
theorem TQ:((Rows.validAllRow.knobs==[]))=true:=by kernel_rfl
theorem TR:((Tryz.prog.stopKnobs==[]))=true:=by kernel_rfl
theorem TT:((Rows.validAllRow.inPlace==Tryz.prog.inPlace 9))=true:=by kernel_rfl
theorem NX:((Rows.validAllRow.unfollowed==Tryz.prog.unfollowed 9))=true:=by kernel_rfl
theorem NY:((Rows.validAllRow.recurses==Tryz.prog.recurses 9))=true:=by kernel_rfl
theorem NZ:((Rows.validAllRow.named==Tryz.prog.varsNamed 9))=true:=by kernel_rfl
theorem OA:((Rows.validAllRow.maps==(Tryz.f9.params.toList++Rows.validAllSpec.plain.varTypes Tryz.prog).any (Tryz.prog.mapsRec ·)))=true:=by kernel_rfl
theorem OC:((Rows.validAllRow.ifaces==(Tryz.f9.params.toList++Rows.validAllSpec.plain.varTypes Tryz.prog).any (Tryz.prog.ifacesRec ·)))=true:=by kernel_rfl
theorem OD:((Rows.validAllRow.mapsOut==Tryz.prog.mapsAmong Tryz.f9.resultTypes.toList))=true:=by kernel_rfl
theorem OE:((Rows.validAllRow.loops==(Tryz.f9.params.toList++Rows.validAllSpec.plain.varTypes Tryz.prog).any (Tryz.prog.loopsFrom ·)))=true:=by kernel_rfl
theorem OF:((Rows.validAllRow.wideKeys==(Tryz.f9.params.toList++Rows.validAllSpec.plain.varTypes Tryz.prog++Tryz.f9.resultTypes.toList).any (Tryz.prog.wideKeysFrom ·)))=true:=by kernel_rfl
theorem OG:(Rows.validAllSpec.vars.all (Tryz.prog.varReadable ·))=true:=by kernel_rfl
theorem OH:(Tryz.f9.resultTypes.all (fun t=>Tryz.prog.readableRec t&&decide (t<Tryz.prog.types.size)))=true:=by kernel_rfl
theorem OI:((Rows.validAllRow.ifacesOut==Tryz.f9.resultTypes.toList.any (Tryz.prog.ifacesRec ·)))=true:=by kernel_rfl
theorem OJ:((Rows.validAllRow.loopsOut==Tryz.f9.resultTypes.toList.any (Tryz.prog.loopsFrom ·)))=true:=by kernel_rfl
theorem OK:((Rows.validAllRow.plainKeys==Tryz.prog.plainKeys))=true:=by kernel_rfl
theorem OL:(Rows.validAllRow.shortTexts.isNone)=true:=by kernel_rfl
theorem OM:(Tryz.prog.stopsHeard)=true:=by kernel_rfl
theorem ON:(Tryz.prog.mayEnter)=true:=by kernel_rfl
theorem OO:((Rows.validAllRow.lifted==Tryz.prog.liftsFinal))=true:=by kernel_rfl
theorem OP:((Tryz.prog.make==some Rows.validAllRow.make))=true:=by kernel_rfl
theorem OQ:((Rows.validAllRow.kinds==(if Rows.validAllRow.domain.isEmpty then []else Tryz.f9.params.toList.map fun t=>match Tryz.prog.underlying t with|some (.int k)=>some k| _=>none)))=true:=by kernel_rfl
theorem OR:((Rows.validAllRow.pinned==Rows.validAllRow.pinnedBy))=true:=by kernel_rfl
theorem OS:((Rows.validAllRow.veiled==(Tryz.f9.params.toList++Rows.validAllSpec.plain.varTypes Tryz.prog++Tryz.f9.resultTypes.toList).any (Tryz.prog.veiledRec ·)))=true:=by kernel_rfl
theorem OT:(Rows.validAllRow.veiledFits Tryz.prog Tryz.f9.params.toList (Tryz.f9.params.toList++Rows.validAllSpec.plain.varTypes Tryz.prog++Tryz.f9.resultTypes.toList))=true:=by kernel_rfl
set_option maxRecDepth 100000 in
theorem HR:joinedFacts Tryz.prog 9 Tryz.f9 Rows.validAllSpec Rows.validAllRow=true:=by
 unfold joinedFacts;simp only[Bool.and_eq_true];exact⟨⟨⟨⟨⟨⟨⟨⟨⟨⟨⟨⟨⟨⟨⟨⟨⟨⟨⟨⟨⟨⟨⟨⟨⟨⟨⟨⟨⟨⟨⟨TK,tG⟩,TL⟩,TM⟩,TN⟩,TO⟩,TP⟩,TQ⟩,TR⟩,TT⟩,NX⟩,NY⟩,NZ⟩,OA⟩,OC⟩,OD⟩,OE⟩,OF⟩,OG⟩,OH⟩,OI⟩,OJ⟩,OK⟩,OL⟩,OM⟩,ON⟩,OO⟩,OP⟩,OQ⟩,OR⟩,OS⟩,OT⟩
theorem HS:decide (Tryz.f9.isInstance Tryz.prog Rows.validAllRow.origin Rows.validAllRow.targs)=true:=by kernel_rfl
theorem JE:Tryz.f9.isWrapper Tryz.prog Rows.validAllRow.wrapper Rows.validAllRow.mainSum:=by unfold Func.isWrapper;first|(rw[if_pos (by decide+kernel)];kernel_rfl)|(rw[if_neg (by decide+kernel)];exact⟨rfl,rfl⟩)
set_option maxRecDepth 100000 in
theorem validAll_holds:Rows.ValidAllSaid:=
 OpenClaim.holds_of_wide 9 Tryz.f9 rfl rfl rfl rfl rfl rfl rfl ⟨rfl,rfl,rfl,rfl,rfl⟩ rfl rfl rfl rfl rfl HQ Tryz.func9 HR
  (of_decide_eq_true HS) JE (fun os started H enc _=>EH os started H enc)
end Go.Proofs.YtjpdadobblffmaaGreat
