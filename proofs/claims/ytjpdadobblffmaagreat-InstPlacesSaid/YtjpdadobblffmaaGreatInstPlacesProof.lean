/-
  InstPlaces returns true for every input, and leaves its arguments as they were. No condition.
-/
import Derived.Test.YtjpdadobblffmaaGreatUInstPlaces
import Derived.Test.YtjpdadobblffmaaGreatRows
import Derived.WalkKit
import Derived.ProofKit
import Derived.OpenShut
import Derived.Test.YtjpdadobblffmaaGreatIP7
namespace Go.Proofs.YtjpdadobblffmaaGreat
open Go.RowKit Go.ChangeShapes Go.WideShapes Go.ChangeAt Go.Deep
set_option linter.unusedSimpArgs false
set_option linter.unusedVariables false
theorem FV:ownKnob Tryz.prog.godebug=none:=by kernel_rfl
theorem qG:laidOutB Tryz.prog=true:=by kernel_rfl
theorem CN:(Tryz.f15.params.toList.all fun t=>Tryz.prog.readableRec t&&decide (t<Tryz.prog.types.size))=true:=by kernel_rfl
set_option maxRecDepth 100000 in
theorem AF(os:Os)(started:os.Started)(H:Type)(enc:TypeId×Value→H):
  ReturnsInHanded {} Tryz.checked os 15 .any (Rows.instPlacesSpec.pre6 enc Tryz.prog Tryz.f15 Rows.instPlacesRow.domain false) (Rows.instPlacesSpec.post enc Tryz.prog Tryz.f15 false true false false):=by
 refine returnsInHanded_of_change (C:=Tryz.checked) FV started (by kernel_rfl) Tryz.func15
  (ChangeSpec.witness6 (enc:=enc) (C:=Tryz.checked) false ⟨#[],#[.int .i64 0,.int .i64 0,.int .i64 0,.int .i64 0],[]⟩ 8 (by kernel_rfl) (by kernel_rfl) (by kernel_rfl) (by kernel_rfl)) ?_
 intro W base args ds gs before hval0 hW hcnd _;have hval:∀(j:Nat) t v,Tryz.f15.params[j]? =some t→args[j]? =some v→Value.okWide Tryz.prog W .any base t v:=hval0;have hW':=hW;obtain⟨p,q,hA0,hV,rfl,hfz,hnd⟩:=hW;have hA:DataW.TrodAll enc Tryz.prog W 0 (fun _=>true) true Tryz.f15.params.toList args.toList ds p:=hA0;rw[Tryz.params15]at hA hval;obtain⟨rfl,rfl⟩:=trodVars_none hV;obtain⟨v0,vs0,d0,ds0,p0,q0,hargs,rfl,rfl,h0,r0⟩:=trodAll_cons hA;obtain⟨v1,vs1,d1,ds1,p1,q1,rfl,rfl,rfl,h1,r1⟩:=trodAll_cons r0;obtain⟨v2,vs2,d2,ds2,p2,q2,rfl,rfl,rfl,h2,r2⟩:=trodAll_cons r1;obtain⟨v3,vs3,d3,ds3,p3,q3,rfl,rfl,rfl,h3,r3⟩:=trodAll_cons r2;obtain⟨rfl,rfl,rfl⟩:=trodAll_nil r3;obtain rfl:args=#[v0,v1,v2,v3]:=by cases args;simp_all
 obtain⟨a0,rfl,rfl,rfl,w0⟩:=open_int Tryz.underlying3 (hval 0 3 v0 rfl rfl) h0;obtain⟨a1,rfl,rfl,rfl,w1⟩:=open_int Tryz.underlying3 (hval 1 3 v1 rfl rfl) h1;obtain⟨a2,rfl,rfl,rfl,w2⟩:=open_int Tryz.underlying3 (hval 2 3 v2 rfl rfl) h2;obtain⟨a3,rfl,rfl,rfl,w3⟩:=open_int Tryz.underlying3 (hval 3 3 v3 rfl rfl) h3;refine(aDl (FU a0 a1 a2 a3) rfl (CR (VR.int _ a0) (CR (VR.int _ a1) (CR (VR.int _ a2) (CR (VR.int _ a3) aGB))))).mono fun e W' ⟨he,hb⟩=> ?_
 subst he;exact⟨_,rfl,ZT qG rfl Tryz.underlying4 rfl rfl (aDk CN) hW' hb⟩
theorem BE:Tryz.prog.funcNamed Rows.instPlacesRow.func=some 15:=by kernel_rfl
theorem IB:(Rows.instPlacesRow.wf (OpenSpec.ofChange Rows.instPlacesSpec))=true:=by kernel_rfl
theorem IC:(mapsRowed Tryz.prog)=true:=by kernel_rfl
theorem ID:(Tryz.f15.params.all (Tryz.prog.readableRec ·))=true:=by kernel_rfl
theorem IE:(namedTie Tryz.prog Rows.instPlacesRow.named Rows.instPlacesSpec.vars)=true:=by kernel_rfl
theorem IF:((Rows.instPlacesRow.stops==[]))=true:=by kernel_rfl
theorem IG:((Tryz.prog.stops==[]))=true:=by kernel_rfl
theorem IH:((Rows.instPlacesRow.knobs==[]))=true:=by kernel_rfl
theorem II:((Tryz.prog.stopKnobs==[]))=true:=by kernel_rfl
theorem IJ:((Rows.instPlacesRow.inPlace==Tryz.prog.inPlace 15))=true:=by kernel_rfl
theorem FW:((Rows.instPlacesRow.unfollowed==Tryz.prog.unfollowed 15))=true:=by kernel_rfl
theorem FX:((Rows.instPlacesRow.recurses==Tryz.prog.recurses 15))=true:=by kernel_rfl
theorem FY:((Rows.instPlacesRow.named==Tryz.prog.varsNamed 15))=true:=by kernel_rfl
theorem FZ:((Rows.instPlacesRow.maps==(Tryz.f15.params.toList++Rows.instPlacesSpec.plain.varTypes Tryz.prog).any (Tryz.prog.mapsRec ·)))=true:=by kernel_rfl
theorem GA:((Rows.instPlacesRow.ifaces==(Tryz.f15.params.toList++Rows.instPlacesSpec.plain.varTypes Tryz.prog).any (Tryz.prog.ifacesRec ·)))=true:=by kernel_rfl
theorem GB:((Rows.instPlacesRow.mapsOut==Tryz.prog.mapsAmong Tryz.f15.resultTypes.toList))=true:=by kernel_rfl
theorem GC:((Rows.instPlacesRow.loops==(Tryz.f15.params.toList++Rows.instPlacesSpec.plain.varTypes Tryz.prog).any (Tryz.prog.loopsFrom ·)))=true:=by kernel_rfl
theorem GD:((Rows.instPlacesRow.wideKeys==(Tryz.f15.params.toList++Rows.instPlacesSpec.plain.varTypes Tryz.prog++Tryz.f15.resultTypes.toList).any (Tryz.prog.wideKeysFrom ·)))=true:=by kernel_rfl
theorem GE:(Rows.instPlacesSpec.vars.all (Tryz.prog.varReadable ·))=true:=by kernel_rfl
theorem GF:(Tryz.f15.resultTypes.all (fun t=>Tryz.prog.readableRec t&&decide (t<Tryz.prog.types.size)))=true:=by kernel_rfl
theorem GG:((Rows.instPlacesRow.ifacesOut==Tryz.f15.resultTypes.toList.any (Tryz.prog.ifacesRec ·)))=true:=by kernel_rfl
theorem GH:((Rows.instPlacesRow.loopsOut==Tryz.f15.resultTypes.toList.any (Tryz.prog.loopsFrom ·)))=true:=by kernel_rfl
theorem GI:((Rows.instPlacesRow.plainKeys==Tryz.prog.plainKeys))=true:=by kernel_rfl
theorem GJ:(Rows.instPlacesRow.shortTexts.isNone)=true:=by kernel_rfl
theorem GK:(Tryz.prog.stopsHeard)=true:=by kernel_rfl
theorem GL:(Tryz.prog.mayEnter)=true:=by kernel_rfl
theorem GM:((Rows.instPlacesRow.lifted==Tryz.prog.liftsFinal))=true:=by kernel_rfl
theorem GN:((Tryz.prog.make==some Rows.instPlacesRow.make))=true:=by kernel_rfl
theorem GO:((Rows.instPlacesRow.kinds==(if Rows.instPlacesRow.domain.isEmpty then []else Tryz.f15.params.toList.map fun t=>match Tryz.prog.underlying t with|some (.int k)=>some k| _=>none)))=true:=by kernel_rfl
theorem GP:((Rows.instPlacesRow.pinned==Rows.instPlacesRow.pinnedBy))=true:=by kernel_rfl
theorem GQ:((Rows.instPlacesRow.veiled==(Tryz.f15.params.toList++Rows.instPlacesSpec.plain.varTypes Tryz.prog++Tryz.f15.resultTypes.toList).any (Tryz.prog.veiledRec ·)))=true:=by kernel_rfl
theorem GR:(Rows.instPlacesRow.veiledFits Tryz.prog Tryz.f15.params.toList (Tryz.f15.params.toList++Rows.instPlacesSpec.plain.varTypes Tryz.prog++Tryz.f15.resultTypes.toList))=true:=by kernel_rfl
set_option maxRecDepth 100000 in
theorem BF:joinedFacts Tryz.prog 15 Tryz.f15 Rows.instPlacesSpec Rows.instPlacesRow=true:=by
 unfold joinedFacts;simp only[Bool.and_eq_true];exact⟨⟨⟨⟨⟨⟨⟨⟨⟨⟨⟨⟨⟨⟨⟨⟨⟨⟨⟨⟨⟨⟨⟨⟨⟨⟨⟨⟨⟨⟨⟨IB,qG⟩,IC⟩,ID⟩,IE⟩,IF⟩,IG⟩,IH⟩,II⟩,IJ⟩,FW⟩,FX⟩,FY⟩,FZ⟩,GA⟩,GB⟩,GC⟩,GD⟩,GE⟩,GF⟩,GG⟩,GH⟩,GI⟩,GJ⟩,GK⟩,GL⟩,GM⟩,GN⟩,GO⟩,GP⟩,GQ⟩,GR⟩
theorem BG:decide (Tryz.f15.isInstance Tryz.prog Rows.instPlacesRow.origin Rows.instPlacesRow.targs)=true:=by kernel_rfl
theorem CO:Tryz.f15.isWrapper Tryz.prog Rows.instPlacesRow.wrapper Rows.instPlacesRow.mainSum:=by unfold Func.isWrapper;first|(rw[if_pos (by decide+kernel)];kernel_rfl)|(rw[if_neg (by decide+kernel)];exact⟨rfl,rfl⟩)
set_option maxRecDepth 100000 in
theorem instPlaces_holds:Rows.InstPlacesSaid:=
 OpenClaim.holds_of_wide 15 Tryz.f15 rfl rfl rfl rfl rfl rfl rfl ⟨rfl,rfl,rfl,rfl,rfl⟩ rfl rfl rfl rfl rfl BE Tryz.func15 BF
  (of_decide_eq_true BG) CO (fun os started H enc _=>AF os started H enc)
end Go.Proofs.YtjpdadobblffmaaGreat
