/-
  SpaceAll returns true for every input, and leaves its arguments as they were. No condition.
-/
import Derived.Test.YtpdgnenffiphcaaSpaceI
import Derived.Test.YtpdgnenffiphcaaSymM
import Derived.Test.YtpdgnenffiphcaaRows
import Derived.WalkKit
import Derived.ProofKit
import Derived.OpenShut
namespace Go.Proofs.Ytpdgnenffiphcaa
open Go.RowKit Go.ChangeShapes Go.WideShapes Go.ChangeAt Go.Deep
set_option linter.unusedSimpArgs false
set_option linter.unusedVariables false

theorem rda_ints : RdA Try.prog 29 (List Int) 1 (fun l => [.ro 1 (l.map encI) .any]) (fun l => l.length ≤ maxLen ∧ ∀ a ∈ l, (Lit.int .i64 a).wf = true) := rda_slice rfl (by decide) (rda_int (t := 3) (k := .i64) rfl)
abbrev I64 (a : Int) : Prop := (Lit.int .i64 a).wf = true
theorem rda_i : RdA Try.prog 3 Int 1 (fun n => [.int .i64 n]) I64 := rda_int (t := 3) (k := .i64) rfl
theorem rda_i64 : RdA Try.prog 2 Int 1 (fun n => [.int .i64 n]) I64 := rda_int (t := 2) (k := .i64) rfl
theorem rda_val : RdA Try.prog 39 (Int × Int) 2 encV (fun p => I64 p.1 ∧ I64 p.2) := by
  refine rda_struct ?_
  exact rdf_cons (sz' := 1) (en := fun n => [.int .i64 n]) (ok := I64) (en' := fun n => [.int .i64 n]) (ok' := I64) rda_i rfl (rdf_one rda_i64 rfl)
theorem rda_vals : RdA Try.prog 22 (List (Int × Int)) 1 (fun l => [.ro 2 (l.map encV) .any]) (fun l => l.length ≤ maxLen ∧ ∀ a ∈ l, I64 a.1 ∧ I64 a.2) := rda_slice rfl (by decide) rda_val
theorem rda_op : RdA Try.prog 45 SOp 5 encO (fun o => I64 o.1 ∧ I64 o.2.1 ∧ (o.2.2.1.length ≤ maxLen ∧ ∀ a ∈ o.2.2.1, I64 a) ∧ (I64 o.2.2.2.1 ∧ I64 o.2.2.2.2)) := by
  refine rda_struct ?_
  have h3 : RdA Try.prog 29 (List Int) 1 (fun l => [.ro 1 (l.map encI) .any]) (fun l => l.length ≤ maxLen ∧ ∀ a ∈ l, I64 a) := rda_ints
  show RdF _ _ _ SOp 5 (fun p : SOp => [.int .i64 p.1] ++ (fun p : Int × List Int × (Int × Int) => [.int .i64 p.1] ++ (fun p : List Int × (Int × Int) => [.ro 1 (p.1.map encI) .any] ++ encV p.2) p.2) p.2) _
  refine rdf_cons (f := ⟨_, _, _, _, _, _, _⟩) (sz' := 4) (en := fun n => [.int .i64 n]) (ok := I64) (en' := fun p : Int × List Int × (Int × Int) => [.int .i64 p.1] ++ (fun p : List Int × (Int × Int) => [.ro 1 (p.1.map encI) .any] ++ encV p.2) p.2) (ok' := fun p => I64 p.1 ∧ (p.2.1.length ≤ maxLen ∧ ∀ a ∈ p.2.1, I64 a) ∧ (I64 p.2.2.1 ∧ I64 p.2.2.2)) rda_i rfl ?_
  refine rdf_cons (f := ⟨_, _, _, _, _, _, _⟩) (sz' := 3) (en := fun n => [.int .i64 n]) (ok := I64) (en' := fun p : List Int × (Int × Int) => [.ro 1 (p.1.map encI) .any] ++ encV p.2) (ok' := fun p => (p.1.length ≤ maxLen ∧ ∀ a ∈ p.1, I64 a) ∧ (I64 p.2.1 ∧ I64 p.2.2)) rda_i rfl ?_
  refine rdf_cons (f := ⟨_, _, _, _, _, _, _⟩) (sz' := 2) (en := fun l : List Int => [.ro 1 (l.map encI) .any]) (ok := fun l : List Int => l.length ≤ maxLen ∧ ∀ a ∈ l, I64 a) (en' := encV) (ok' := fun p => I64 p.1 ∧ I64 p.2) h3 rfl ?_
  exact rdf_one rda_val rfl
theorem rda_ops : RdA Try.prog 23 (List SOp) 1 (fun l => [.ro 5 (l.map encO) .any]) (fun l => l.length ≤ maxLen ∧ ∀ o ∈ l, I64 o.1 ∧ I64 o.2.1 ∧ (o.2.2.1.length ≤ maxLen ∧ ∀ a ∈ o.2.2.1, I64 a) ∧ (I64 o.2.2.2.1 ∧ I64 o.2.2.2.2)) := rda_slice rfl (by decide) rda_op
theorem spaceAll_own : ownKnob Try.prog.godebug = none := by kernel_rfl
theorem spaceAll_laidOut : laidOutB Try.prog = true := by kernel_rfl
theorem spaceAll_read : (Try.f3.params.toList.all fun t => Try.prog.readableRec t && decide (t < Try.prog.types.size)) = true := by kernel_rfl
set_option maxRecDepth 100000 in
theorem spaceAll_lifted (os : Os) (started : os.Started) (H : Type) (enc : TypeId × Value → H) :
    ReturnsInHanded {} Try.checked os 3 .any (Rows.spaceAllSpec.pre6 enc Try.prog Try.f3 Rows.spaceAllRow.domain false) (Rows.spaceAllSpec.post enc Try.prog Try.f3 false true false false) := by
  refine returnsInHanded_of_change (C := Try.checked) spaceAll_own started (by kernel_rfl) Try.func3
    (ChangeSpec.witness6 (enc := enc) (C := Try.checked) false ⟨#[], #[.int .i64 0, .slice none 0 0, .slice none 0 0, .int .i64 0], []⟩ 8 (by kernel_rfl) (by kernel_rfl) (by kernel_rfl) (by kernel_rfl)) ?_
  intro W base args ds gs before hval0 hW hcnd _
  have hval : ∀ (j : Nat) t v, Try.f3.params[j]? = some t → args[j]? = some v → Value.okWide Try.prog W .any base t v := hval0
  have hW' := hW
  obtain ⟨p, q, hA0, hV, rfl, hfz, hnd⟩ := hW
  have hA : DataW.TrodAll enc Try.prog W 0 (fun _ => true) true Try.f3.params.toList args.toList ds p := hA0
  rw [Try.params3] at hA hval
  obtain ⟨rfl, rfl⟩ := trodVars_none hV
  obtain ⟨v0, vs0, d0, ds0, p0, q0, hargs, rfl, rfl, h0, r0⟩ := trodAll_cons hA
  obtain ⟨v1, vs1, d1, ds1, p1, q1, rfl, rfl, rfl, h1, r1⟩ := trodAll_cons r0
  obtain ⟨v2, vs2, d2, ds2, p2, q2, rfl, rfl, rfl, h2, r2⟩ := trodAll_cons r1
  obtain ⟨v3, vs3, d3, ds3, p3, q3, rfl, rfl, rfl, h3, r3⟩ := trodAll_cons r2
  obtain ⟨rfl, rfl, rfl⟩ := trodAll_nil r3
  obtain rfl : args = #[v0, v1, v2, v3] := by cases args; simp_all
  obtain ⟨a0, rfl, rfl, rfl, w0⟩ := open_int Try.underlying3 (hval 0 3 v0 rfl rfl) h0
  obtain ⟨A1, n1, c1, rfl⟩ := okWide_slice Try.underlying22 (hval 1 22 v1 rfl rfl)
  obtain ⟨x1, k1, s1⟩ := arg_one rda_vals rfl h1
  obtain ⟨A2, n2, c2, rfl⟩ := okWide_slice Try.underlying23 (hval 2 23 v2 rfl rfl)
  obtain ⟨x2, k2, s2⟩ := arg_one rda_ops rfl h2
  obtain ⟨a3, rfl, rfl, rfl, w3⟩ := open_int Try.underlying2 (hval 3 2 v3 rfl rfl) h3
  refine (law_run (law_spaceAll a0 x1 x2 a3) rfl (vs_cons (VR.int _ a0) (vs_cons s1 (vs_cons s2 (vs_cons (VR.int _ a3) vs_nil))))).mono fun e W' ⟨he, hb⟩ => ?_
  subst he
  exact ⟨_, rfl, post_law spaceAll_laidOut rfl Try.underlying4 rfl rfl (read_of spaceAll_read) hW' hb⟩

theorem spaceAll_holds : Rows.SpaceAllSaid :=
  OpenClaim.holds_of_wide 3 Try.f3 rfl rfl rfl rfl rfl rfl rfl ⟨rfl, rfl, rfl, rfl, rfl⟩ rfl rfl rfl rfl rfl (by kernel_rfl) Try.func3 (by kernel_rfl)
    (of_decide_eq_true (by kernel_rfl)) (by unfold Func.isWrapper; first | (rw [if_pos (by decide +kernel)]; kernel_rfl) | (rw [if_neg (by decide +kernel)]; exact ⟨rfl, rfl⟩))
    (fun os started H enc _ => spaceAll_lifted os started H enc)

end Go.Proofs.Ytpdgnenffiphcaa
