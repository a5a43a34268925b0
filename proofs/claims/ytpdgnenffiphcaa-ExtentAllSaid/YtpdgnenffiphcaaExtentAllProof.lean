/-
  ExtentAll returns true for every input, and leaves its arguments as they were. No condition.
-/
import Derived.Test.YtpdgnenffiphcaaExtentO
import Derived.Test.YtpdgnenffiphcaaSymM
import Derived.Test.YtpdgnenffiphcaaRows
import Derived.WalkKit
import Derived.ProofKit
import Derived.OpenShut
namespace Go.Proofs.Ytpdgnenffiphcaa
open Go.RowKit Go.ChangeShapes Go.WideShapes Go.ChangeAt Go.Deep
set_option linter.unusedSimpArgs false
set_option linter.unusedVariables false

abbrev I64 (a : Int) : Prop := (Lit.int .i64 a).wf = true
theorem rda_i : RdA Try.prog 3 Int 1 (fun n => [.int .i64 n]) I64 := rda_int (t := 3) (k := .i64) rfl
theorem rda_xop : RdA Try.prog 63 XOp 3 encX (fun o => I64 o.1 ∧ I64 o.2.1 ∧ I64 o.2.2) := by
  refine rda_struct ?_
  show RdF _ _ _ XOp 3 (fun p : XOp => [.int .i64 p.1] ++ (fun p : Int × Int => [.int .i64 p.1] ++ [.int .i64 p.2]) p.2) _
  refine rdf_cons (f := ⟨_, _, _, _, _, _, _⟩) (sz' := 2) (en := fun n => [.int .i64 n]) (ok := I64) (en' := fun p : Int × Int => [.int .i64 p.1] ++ [.int .i64 p.2]) (ok' := fun p => I64 p.1 ∧ I64 p.2) rda_i rfl ?_
  refine rdf_cons (f := ⟨_, _, _, _, _, _, _⟩) (sz' := 1) (en := fun n => [.int .i64 n]) (ok := I64) (en' := fun n => [.int .i64 n]) (ok' := I64) rda_i rfl ?_
  exact rdf_one rda_i rfl
theorem rda_xops : RdA Try.prog 58 (List XOp) 1 (fun l => [.ro 3 (l.map encX) .any]) (fun l => l.length ≤ maxLen ∧ ∀ o ∈ l, I64 o.1 ∧ I64 o.2.1 ∧ I64 o.2.2) := rda_slice rfl (by decide) rda_xop
theorem extentAll_own : ownKnob Try.prog.godebug = none := by kernel_rfl
theorem extentAll_laidOut : laidOutB Try.prog = true := by kernel_rfl
theorem extentAll_read : (Try.f6.params.toList.all fun t => Try.prog.readableRec t && decide (t < Try.prog.types.size)) = true := by kernel_rfl
set_option maxRecDepth 100000 in
theorem extentAll_lifted (os : Os) (started : os.Started) (H : Type) (enc : TypeId × Value → H) :
    ReturnsInHanded {} Try.checked os 6 .any (Rows.extentAllSpec.pre6 enc Try.prog Try.f6 Rows.extentAllRow.domain false) (Rows.extentAllSpec.post enc Try.prog Try.f6 false true false false) := by
  refine returnsInHanded_of_change (C := Try.checked) extentAll_own started (by kernel_rfl) Try.func6
    (ChangeSpec.witness6 (enc := enc) (C := Try.checked) false ⟨#[], #[.int .i64 0, .int .i64 0, .slice none 0 0], []⟩ 8 (by kernel_rfl) (by kernel_rfl) (by kernel_rfl) (by kernel_rfl)) ?_
  intro W base args ds gs before hval0 hW hcnd _
  have hval : ∀ (j : Nat) t v, Try.f6.params[j]? = some t → args[j]? = some v → Value.okWide Try.prog W .any base t v := hval0
  have hW' := hW
  obtain ⟨p, q, hA0, hV, rfl, hfz, hnd⟩ := hW
  have hA : DataW.TrodAll enc Try.prog W 0 (fun _ => true) true Try.f6.params.toList args.toList ds p := hA0
  rw [Try.params6] at hA hval
  obtain ⟨rfl, rfl⟩ := trodVars_none hV
  obtain ⟨v0, vs0, d0, ds0, p0, q0, hargs, rfl, rfl, h0, r0⟩ := trodAll_cons hA
  obtain ⟨v1, vs1, d1, ds1, p1, q1, rfl, rfl, rfl, h1, r1⟩ := trodAll_cons r0
  obtain ⟨v2, vs2, d2, ds2, p2, q2, rfl, rfl, rfl, h2, r2⟩ := trodAll_cons r1
  obtain ⟨rfl, rfl, rfl⟩ := trodAll_nil r2
  obtain rfl : args = #[v0, v1, v2] := by cases args; simp_all
  obtain ⟨a0, rfl, rfl, rfl, w0⟩ := open_int Try.underlying3 (hval 0 3 v0 rfl rfl) h0
  obtain ⟨a1, rfl, rfl, rfl, w1⟩ := open_int Try.underlying3 (hval 1 3 v1 rfl rfl) h1
  obtain ⟨A2, n2, c2, rfl⟩ := okWide_slice Try.underlying58 (hval 2 58 v2 rfl rfl)
  obtain ⟨x2, k2, s2⟩ := arg_one rda_xops rfl h2
  refine (law_run (law_extentAll a0 a1 x2 (fun o ho => ⟨(bd_of_wf (k2.2 o ho).2.1).2, (bd_of_wf (k2.2 o ho).2.2).2⟩)) rfl (vs_cons (VR.int _ a0) (vs_cons (VR.int _ a1) (vs_cons s2 vs_nil)))).mono fun e W' ⟨he, hb⟩ => ?_
  subst he
  exact ⟨_, rfl, post_law extentAll_laidOut rfl Try.underlying4 rfl rfl (read_of extentAll_read) hW' hb⟩

theorem extentAll_holds : Rows.ExtentAllSaid :=
  OpenClaim.holds_of_wide 6 Try.f6 rfl rfl rfl rfl rfl rfl rfl ⟨rfl, rfl, rfl, rfl, rfl⟩ rfl rfl rfl rfl rfl (by kernel_rfl) Try.func6 (by kernel_rfl)
    (of_decide_eq_true (by kernel_rfl)) (by unfold Func.isWrapper; first | (rw [if_pos (by decide +kernel)]; kernel_rfl) | (rw [if_neg (by decide +kernel)]; exact ⟨rfl, rfl⟩))
    (fun os started H enc _ => extentAll_lifted os started H enc)

end Go.Proofs.Ytpdgnenffiphcaa
