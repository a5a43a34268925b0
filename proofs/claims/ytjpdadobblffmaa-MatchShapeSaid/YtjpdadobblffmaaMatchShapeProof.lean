/-
  MatchShape returns true for every input, and leaves its arguments as they were. No condition.
-/
import Derived.Test.YtjpdadobblffmaaMC4
import Derived.Test.YtjpdadobblffmaaRows
import Derived.WalkKit
import Derived.ProofKit
import Derived.OpenShut
namespace Go.Proofs.Ytjpdadobblffmaa
open Go.RowKit Go.ChangeShapes Go.WideShapes Go.ChangeAt Go.Deep
set_option linter.unusedSimpArgs false
set_option linter.unusedVariables false

theorem matchShape_own : ownKnob Try.prog.godebug = none := by kernel_rfl
theorem matchShape_laidOut : laidOutB Try.prog = true := by kernel_rfl
theorem matchShape_read : (Try.f3.params.toList.all fun t => Try.prog.readableRec t && decide (t < Try.prog.types.size)) = true := by kernel_rfl
set_option maxRecDepth 100000 in
theorem matchShape_lifted (os : Os) (started : os.Started) (H : Type) (enc : TypeId × Value → H) :
    ReturnsInHanded {} Try.checked os 3 .any (Rows.matchShapeSpec.pre6 enc Try.prog Try.f3 Rows.matchShapeRow.domain false) (Rows.matchShapeSpec.post enc Try.prog Try.f3 false true false false) := by
  refine returnsInHanded_of_change (C := Try.checked) matchShape_own started (by kernel_rfl) Try.func3
    (ChangeSpec.witness6 (enc := enc) (C := Try.checked) false ⟨#[], #[.slice none 0 0], []⟩ 8 (by kernel_rfl) (by kernel_rfl) (by kernel_rfl) (by kernel_rfl)) ?_
  intro W base args ds gs before hval0 hW hcnd _
  have hval : ∀ (j : Nat) t v, Try.f3.params[j]? = some t → args[j]? = some v → Value.okWide Try.prog W .any base t v := hval0
  have hW' := hW
  obtain ⟨p, q, hA0, hV, rfl, hfz, hnd⟩ := hW
  have hA : DataW.TrodAll enc Try.prog W 0 (fun _ => true) true Try.f3.params.toList args.toList ds p := hA0
  rw [Try.params3] at hA hval
  obtain ⟨rfl, rfl⟩ := trodVars_none hV
  obtain ⟨v0, vs0, d0, ds0, p0, q0, hargs, rfl, rfl, h0, r0⟩ := trodAll_cons hA
  obtain ⟨rfl, rfl, rfl⟩ := trodAll_nil r0
  obtain rfl : args = #[v0] := by cases args; simp_all
  obtain ⟨A0, n0, c0, rfl⟩ := okWide_slice Try.underlying22 (hval 0 22 v0 rfl rfl)
  obtain ⟨x0, k0, s0⟩ := arg_one rda_ints rfl h0
  refine (law_run (law_matchShape x0) rfl (vs_cons s0 vs_nil)).mono fun e W' ⟨he, hb⟩ => ?_
  subst he
  exact ⟨_, rfl, post_law matchShape_laidOut rfl Try.underlying4 rfl rfl (read_of matchShape_read) hW' hb⟩

theorem matchShape_named : Try.prog.funcNamed Rows.matchShapeRow.func = some 3 := by kernel_rfl
theorem matchShape_k0 : (Rows.matchShapeRow.wf (OpenSpec.ofChange Rows.matchShapeSpec)) = true := by kernel_rfl
theorem matchShape_k2 : (mapsRowed Try.prog) = true := by kernel_rfl
theorem matchShape_k3 : (Try.f3.params.all (Try.prog.readableRec ·)) = true := by kernel_rfl
theorem matchShape_k4 : (namedTie Try.prog Rows.matchShapeRow.named Rows.matchShapeSpec.vars) = true := by kernel_rfl
theorem matchShape_k5 : ((Rows.matchShapeRow.stops == [])) = true := by kernel_rfl
theorem matchShape_k6 : ((Try.prog.stops == [])) = true := by kernel_rfl
theorem matchShape_k7 : ((Rows.matchShapeRow.knobs == [])) = true := by kernel_rfl
theorem matchShape_k8 : ((Try.prog.stopKnobs == [])) = true := by kernel_rfl
theorem matchShape_k9 : ((Rows.matchShapeRow.inPlace == Try.prog.inPlace 3)) = true := by kernel_rfl
theorem matchShape_k10 : ((Rows.matchShapeRow.unfollowed == Try.prog.unfollowed 3)) = true := by kernel_rfl
theorem matchShape_k11 : ((Rows.matchShapeRow.recurses == Try.prog.recurses 3)) = true := by kernel_rfl
theorem matchShape_k12 : ((Rows.matchShapeRow.named == Try.prog.varsNamed 3)) = true := by kernel_rfl
theorem matchShape_k13 : ((Rows.matchShapeRow.maps == (Try.f3.params.toList ++ Rows.matchShapeSpec.plain.varTypes Try.prog).any (Try.prog.mapsRec ·))) = true := by kernel_rfl
theorem matchShape_k14 : ((Rows.matchShapeRow.ifaces == (Try.f3.params.toList ++ Rows.matchShapeSpec.plain.varTypes Try.prog).any (Try.prog.ifacesRec ·))) = true := by kernel_rfl
theorem matchShape_k15 : ((Rows.matchShapeRow.mapsOut == Try.prog.mapsAmong Try.f3.resultTypes.toList)) = true := by kernel_rfl
theorem matchShape_k16 : ((Rows.matchShapeRow.loops == (Try.f3.params.toList ++ Rows.matchShapeSpec.plain.varTypes Try.prog).any (Try.prog.loopsFrom ·))) = true := by kernel_rfl
theorem matchShape_k17 : ((Rows.matchShapeRow.wideKeys == (Try.f3.params.toList ++ Rows.matchShapeSpec.plain.varTypes Try.prog ++ Try.f3.resultTypes.toList).any (Try.prog.wideKeysFrom ·))) = true := by kernel_rfl
theorem matchShape_k18 : (Rows.matchShapeSpec.vars.all (Try.prog.varReadable ·)) = true := by kernel_rfl
theorem matchShape_k19 : (Try.f3.resultTypes.all (fun t => Try.prog.readableRec t && decide (t < Try.prog.types.size))) = true := by kernel_rfl
theorem matchShape_k20 : ((Rows.matchShapeRow.ifacesOut == Try.f3.resultTypes.toList.any (Try.prog.ifacesRec ·))) = true := by kernel_rfl
theorem matchShape_k21 : ((Rows.matchShapeRow.loopsOut == Try.f3.resultTypes.toList.any (Try.prog.loopsFrom ·))) = true := by kernel_rfl
theorem matchShape_k22 : ((Rows.matchShapeRow.plainKeys == Try.prog.plainKeys)) = true := by kernel_rfl
theorem matchShape_k23 : (Rows.matchShapeRow.shortTexts.isNone) = true := by kernel_rfl
theorem matchShape_k24 : (Try.prog.stopsHeard) = true := by kernel_rfl
theorem matchShape_k25 : (Try.prog.mayEnter) = true := by kernel_rfl
theorem matchShape_k26 : ((Rows.matchShapeRow.lifted == Try.prog.liftsFinal)) = true := by kernel_rfl
theorem matchShape_k27 : ((Try.prog.make == some Rows.matchShapeRow.make)) = true := by kernel_rfl
theorem matchShape_k28 : ((Rows.matchShapeRow.kinds == (if Rows.matchShapeRow.domain.isEmpty then [] else Try.f3.params.toList.map fun t => match Try.prog.underlying t with | some (.int k) => some k | _ => none))) = true := by kernel_rfl
theorem matchShape_k29 : ((Rows.matchShapeRow.pinned == Rows.matchShapeRow.pinnedBy)) = true := by kernel_rfl
theorem matchShape_k30 : ((Rows.matchShapeRow.veiled == (Try.f3.params.toList ++ Rows.matchShapeSpec.plain.varTypes Try.prog ++ Try.f3.resultTypes.toList).any (Try.prog.veiledRec ·))) = true := by kernel_rfl
theorem matchShape_k31 : (Rows.matchShapeRow.veiledFits Try.prog Try.f3.params.toList (Try.f3.params.toList ++ Rows.matchShapeSpec.plain.varTypes Try.prog ++ Try.f3.resultTypes.toList)) = true := by kernel_rfl
set_option maxRecDepth 100000 in
theorem matchShape_facts : joinedFacts Try.prog 3 Try.f3 Rows.matchShapeSpec Rows.matchShapeRow = true := by
  unfold joinedFacts
  simp only [Bool.and_eq_true]
  exact ⟨⟨⟨⟨⟨⟨⟨⟨⟨⟨⟨⟨⟨⟨⟨⟨⟨⟨⟨⟨⟨⟨⟨⟨⟨⟨⟨⟨⟨⟨⟨matchShape_k0, matchShape_laidOut⟩, matchShape_k2⟩, matchShape_k3⟩, matchShape_k4⟩, matchShape_k5⟩, matchShape_k6⟩, matchShape_k7⟩, matchShape_k8⟩, matchShape_k9⟩, matchShape_k10⟩, matchShape_k11⟩, matchShape_k12⟩, matchShape_k13⟩, matchShape_k14⟩, matchShape_k15⟩, matchShape_k16⟩, matchShape_k17⟩, matchShape_k18⟩, matchShape_k19⟩, matchShape_k20⟩, matchShape_k21⟩, matchShape_k22⟩, matchShape_k23⟩, matchShape_k24⟩, matchShape_k25⟩, matchShape_k26⟩, matchShape_k27⟩, matchShape_k28⟩, matchShape_k29⟩, matchShape_k30⟩, matchShape_k31⟩
theorem matchShape_roots : decide (Try.f3.isInstance Try.prog Rows.matchShapeRow.origin Rows.matchShapeRow.targs) = true := by kernel_rfl
theorem matchShape_wrap : Try.f3.isWrapper Try.prog Rows.matchShapeRow.wrapper Rows.matchShapeRow.mainSum := by unfold Func.isWrapper; first | (rw [if_pos (by decide +kernel)]; kernel_rfl) | (rw [if_neg (by decide +kernel)]; exact ⟨rfl, rfl⟩)
set_option maxRecDepth 100000 in
theorem matchShape_holds : Rows.MatchShapeSaid :=
  OpenClaim.holds_of_wide 3 Try.f3 rfl rfl rfl rfl rfl rfl rfl ⟨rfl, rfl, rfl, rfl, rfl⟩ rfl rfl rfl rfl rfl matchShape_named Try.func3 matchShape_facts
    (of_decide_eq_true matchShape_roots) matchShape_wrap (fun os started H enc _ => matchShape_lifted os started H enc)

end Go.Proofs.Ytjpdadobblffmaa
