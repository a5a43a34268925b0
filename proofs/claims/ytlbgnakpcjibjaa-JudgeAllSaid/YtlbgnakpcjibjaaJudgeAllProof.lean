/-
  JudgeAll returns true for every input, and leaves its arguments as they were. No condition.
-/
import Derived.Test.YtlbgnakpcjibjaaJudgeX
import Derived.Test.YtlbgnakpcjibjaaSymM
import Derived.Test.YtlbgnakpcjibjaaRows
import Derived.WalkKit
import Derived.ProofKit
import Derived.OpenShut
namespace Go.Proofs.Ytlbgnakpcjibjaa
open Go.RowKit Go.ChangeShapes Go.WideShapes Go.ChangeAt Go.Deep
set_option linter.unusedSimpArgs false
set_option linter.unusedVariables false

abbrev I64 (a : Int) : Prop := (Lit.int .i64 a).wf = true
theorem rda_i : RdA Try.prog 3 Int 1 (fun n => [.int .i64 n]) I64 := rda_int (t := 3) (k := .i64) rfl
theorem rda_i64 : RdA Try.prog 2 Int 1 (fun n => [.int .i64 n]) I64 := rda_int (t := 2) (k := .i64) rfl
theorem rda_b : RdA Try.prog 4 Bool 1 (fun n => [.bool n]) (fun _ => True) := rda_bool (t := 4) rfl
theorem rda_val : RdA Try.prog 28 (Int × Int) 2 encV (fun p => I64 p.1 ∧ I64 p.2) := by
  refine rda_struct ?_
  exact rdf_cons (sz' := 1) (en := fun n => [.int .i64 n]) (ok := I64) (en' := fun n => [.int .i64 n]) (ok' := I64) rda_i rfl (rdf_one rda_i64 rfl)
theorem rda_vals : RdA Try.prog 23 (List (Int × Int)) 1 (fun l => [.ro 2 (l.map encV) .any]) (fun l => l.length ≤ maxLen ∧ ∀ a ∈ l, I64 a.1 ∧ I64 a.2) := rda_slice rfl (by decide) rda_val
theorem rda_map {P : Program} {t : TypeId} {α β : Type} {sz : Nat} {en : α → List AV} {ok : α → Prop} (f : α → β) (g : β → α) (hg : ∀ a, g (f a) = a) (h : RdA P t α sz en ok) : RdA P t β sz (fun b => en (g b)) (fun b => ok (g b)) :=
  ⟨h.cells, fun b => h.shape (g b), fun H enc W fuel cs x hx => by
    obtain ⟨a, h1, h2, h3⟩ := h.read H enc W fuel cs x hx
    exact ⟨f a, by rw [hg]; exact h1, h2, by rw [hg]; exact h3⟩⟩
abbrev TC := Int × Int × Int × List (Int × Int) × Bool × Int
theorem rda_call : RdA Try.prog 34 Cl_ 6 encC (fun _ => True) := by
  have h : RdA Try.prog 34 TC 6 (fun p : TC => [.int .i64 p.1] ++ (fun p : Int × Int × List (Int × Int) × Bool × Int => [.int .i64 p.1] ++ (fun p : Int × List (Int × Int) × Bool × Int => [.int .i64 p.1] ++ (fun p : List (Int × Int) × Bool × Int => [.ro 2 (p.1.map encV) .any] ++ (fun p : Bool × Int => [.bool p.1] ++ [.int .i64 p.2]) p.2) p.2) p.2) p.2) (fun p => I64 p.1 ∧ I64 p.2.1 ∧ I64 p.2.2.1 ∧ (p.2.2.2.1.length ≤ maxLen ∧ ∀ a ∈ p.2.2.2.1, I64 a.1 ∧ I64 a.2) ∧ True ∧ I64 p.2.2.2.2.2) := by
    refine rda_struct ?_
    refine rdf_cons (f := ⟨_, _, _, _, _, _, _⟩) (sz' := 5) (en := fun n => [.int .i64 n]) (ok := I64) (en' := fun p : Int × Int × List (Int × Int) × Bool × Int => [.int .i64 p.1] ++ (fun p : Int × List (Int × Int) × Bool × Int => [.int .i64 p.1] ++ (fun p : List (Int × Int) × Bool × Int => [.ro 2 (p.1.map encV) .any] ++ (fun p : Bool × Int => [.bool p.1] ++ [.int .i64 p.2]) p.2) p.2) p.2) (ok' := fun p => I64 p.1 ∧ I64 p.2.1 ∧ (p.2.2.1.length ≤ maxLen ∧ ∀ a ∈ p.2.2.1, I64 a.1 ∧ I64 a.2) ∧ True ∧ I64 p.2.2.2.2) rda_i rfl ?_
    refine rdf_cons (f := ⟨_, _, _, _, _, _, _⟩) (sz' := 4) (en := fun n => [.int .i64 n]) (ok := I64) (en' := fun p : Int × List (Int × Int) × Bool × Int => [.int .i64 p.1] ++ (fun p : List (Int × Int) × Bool × Int => [.ro 2 (p.1.map encV) .any] ++ (fun p : Bool × Int => [.bool p.1] ++ [.int .i64 p.2]) p.2) p.2) (ok' := fun p => I64 p.1 ∧ (p.2.1.length ≤ maxLen ∧ ∀ a ∈ p.2.1, I64 a.1 ∧ I64 a.2) ∧ True ∧ I64 p.2.2.2) rda_i rfl ?_
    refine rdf_cons (f := ⟨_, _, _, _, _, _, _⟩) (sz' := 3) (en := fun n => [.int .i64 n]) (ok := I64) (en' := fun p : List (Int × Int) × Bool × Int => [.ro 2 (p.1.map encV) .any] ++ (fun p : Bool × Int => [.bool p.1] ++ [.int .i64 p.2]) p.2) (ok' := fun p => (p.1.length ≤ maxLen ∧ ∀ a ∈ p.1, I64 a.1 ∧ I64 a.2) ∧ True ∧ I64 p.2.2) rda_i rfl ?_
    refine rdf_cons (f := ⟨_, _, _, _, _, _, _⟩) (sz' := 2) (en := fun l : List (Int × Int) => [.ro 2 (l.map encV) .any]) (ok := fun l : List (Int × Int) => l.length ≤ maxLen ∧ ∀ a ∈ l, I64 a.1 ∧ I64 a.2) (en' := fun p : Bool × Int => [.bool p.1] ++ [.int .i64 p.2]) (ok' := fun p => True ∧ I64 p.2) rda_vals rfl ?_
    refine rdf_cons (f := ⟨_, _, _, _, _, _, _⟩) (sz' := 1) (en := fun n => [.bool n]) (ok := fun _ => True) (en' := fun n => [.int .i64 n]) (ok' := I64) rda_b rfl ?_
    exact rdf_one rda_i64 rfl
  have h2 := rda_map (fun p : TC => (⟨p.1, p.2.1, p.2.2.1, p.2.2.2.1, p.2.2.2.2.1, p.2.2.2.2.2⟩ : Cl_)) (fun c => (c.n, c.fn, c.at_, c.args, c.has, c.ans)) (fun _ => rfl) h
  exact ⟨h2.cells, fun a => h2.shape a, fun H enc W fuel cs x hx => by
    obtain ⟨a, _, h3, h4⟩ := h2.read H enc W fuel cs x hx
    exact ⟨a, trivial, h3, h4⟩⟩
theorem rda_calls : RdA Try.prog 31 (List Cl_) 1 (fun l => [.ro 6 (l.map encC) .any]) (fun l => l.length ≤ maxLen ∧ ∀ o ∈ l, True) := rda_slice rfl (by decide) rda_call
theorem judgeAll_own : ownKnob Try.prog.godebug = none := by kernel_rfl
theorem judgeAll_laidOut : laidOutB Try.prog = true := by kernel_rfl
theorem judgeAll_read : (Try.f6.params.toList.all fun t => Try.prog.readableRec t && decide (t < Try.prog.types.size)) = true := by kernel_rfl
set_option maxRecDepth 100000 in
theorem judgeAll_lifted (os : Os) (started : os.Started) (H : Type) (enc : TypeId × Value → H) :
    ReturnsInHanded {} Try.checked os 6 .any (Rows.judgeAllSpec.pre6 enc Try.prog Try.f6 Rows.judgeAllRow.domain false) (Rows.judgeAllSpec.post enc Try.prog Try.f6 false true false false) := by
  refine returnsInHanded_of_change (C := Try.checked) judgeAll_own started (by kernel_rfl) Try.func6
    (ChangeSpec.witness6 (enc := enc) (C := Try.checked) false ⟨#[], #[.slice none 0 0, .slice none 0 0], []⟩ 8 (by kernel_rfl) (by kernel_rfl) (by kernel_rfl) (by kernel_rfl)) ?_
  intro W base args ds gs before hval0 hW hcnd _
  have hval : ∀ (j : Nat) t v, Try.f6.params[j]? = some t → args[j]? = some v → Value.okWide Try.prog W .any base t v := hval0
  have hW' := hW
  obtain ⟨p, q, hA0, hV, rfl, hfz, hnd⟩ := hW
  have hA : DataW.TrodAll enc Try.prog W 0 (fun _ => true) true Try.f6.params.toList args.toList ds p := hA0
  rw [Try.params6] at hA hval
  obtain ⟨rfl, rfl⟩ := trodVars_none hV
  obtain ⟨v0, vs0, d0, ds0, p0, q0, hargs, rfl, rfl, h0, r0⟩ := trodAll_cons hA
  obtain ⟨v1, vs1, d1, ds1, p1, q1, rfl, rfl, rfl, h1, r1⟩ := trodAll_cons r0
  obtain ⟨rfl, rfl, rfl⟩ := trodAll_nil r1
  obtain rfl : args = #[v0, v1] := by cases args; simp_all
  obtain ⟨A0, n0, c0, rfl⟩ := okWide_slice Try.underlying31 (hval 0 31 v0 rfl rfl)
  obtain ⟨x0, k0, s0⟩ := arg_one rda_calls rfl h0
  obtain ⟨A1, n1, c1, rfl⟩ := okWide_slice Try.underlying31 (hval 1 31 v1 rfl rfl)
  obtain ⟨x1, k1, s1⟩ := arg_one rda_calls rfl h1
  refine (law_run (law_judgeAll x0 x1) rfl (vs_cons s0 (vs_cons s1 vs_nil))).mono fun e W' ⟨he, hb⟩ => ?_
  subst he
  exact ⟨_, rfl, post_law judgeAll_laidOut rfl Try.underlying4 rfl rfl (read_of judgeAll_read) hW' hb⟩

theorem judgeAll_holds : Rows.JudgeAllSaid :=
  OpenClaim.holds_of_wide 6 Try.f6 rfl rfl rfl rfl rfl rfl rfl ⟨rfl, rfl, rfl, rfl, rfl⟩ rfl rfl rfl rfl rfl (by kernel_rfl) Try.func6 (by kernel_rfl)
    (of_decide_eq_true (by kernel_rfl)) (by unfold Func.isWrapper; first | (rw [if_pos (by decide +kernel)]; kernel_rfl) | (rw [if_neg (by decide +kernel)]; exact ⟨rfl, rfl⟩))
    (fun os started H enc _ => judgeAll_lifted os started H enc)

end Go.Proofs.Ytlbgnakpcjibjaa
