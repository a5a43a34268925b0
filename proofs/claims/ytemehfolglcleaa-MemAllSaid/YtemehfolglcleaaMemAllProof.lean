/-
  MemAll returns true for every input, and leaves its arguments as they were. No condition.
-/
import Derived.Test.YtemehfolglcleaaMemO
import Derived.Test.YtemehfolglcleaaSymM
import Derived.Test.YtemehfolglcleaaRows
import Derived.WalkKit
import Derived.ProofKit
import Derived.OpenShut
namespace Go.Proofs.Ytemehfolglcleaa
open Go.RowKit Go.ChangeShapes Go.WideShapes Go.ChangeAt Go.Deep
set_option linter.unusedSimpArgs false
set_option linter.unusedVariables false

abbrev I64 (a : Int) : Prop := (Lit.int .i64 a).wf = true
abbrev U64 (a : Int) : Prop := (Lit.int .u64 a).wf = true
theorem bd_u64 {n : Int} (h : (Lit.int .u64 n).wf = true) : 0 ≤ n ∧ n ≤ 18446744073709551615 := by
  simp [Lit.wf, IntKind.min, IntKind.max, IntKind.signed, IntKind.bits] at h
  omega
theorem rda_i : RdA Try.prog 3 Int 1 (fun n => [.int .i64 n]) I64 := rda_int (t := 3) (k := .i64) rfl
theorem rda_i64 : RdA Try.prog 2 Int 1 (fun n => [.int .i64 n]) I64 := rda_int (t := 2) (k := .i64) rfl
theorem rda_u64 : RdA Try.prog 22 Int 1 (fun n => [.int .u64 n]) U64 := rda_int (t := 22) (k := .u64) rfl
theorem rda_b : RdA Try.prog 4 Bool 1 (fun b => [.bool b]) (fun _ => True) := rda_bool (t := 4) rfl
def encLim (p : Bool × Int × Int) : List AV := [.bool p.1, .int .i64 p.2.1, .int .i64 p.2.2]
theorem rda_lim : RdA Try.prog 27 (Bool × Int × Int) 3 encLim (fun p => True ∧ I64 p.2.1 ∧ I64 p.2.2) := by
  refine rda_struct ?_
  show RdF _ _ _ (Bool × Int × Int) 3 (fun p : Bool × Int × Int => [.bool p.1] ++ (fun p : Int × Int => [.int .i64 p.1] ++ [.int .i64 p.2]) p.2) _
  refine rdf_cons (f := ⟨_, _, _, _, _, _, _⟩) (sz' := 2) (en := fun b => [.bool b]) (ok := fun _ => True) (en' := fun p : Int × Int => [.int .i64 p.1] ++ [.int .i64 p.2]) (ok' := fun p => I64 p.1 ∧ I64 p.2) rda_b rfl ?_
  refine rdf_cons (f := ⟨_, _, _, _, _, _, _⟩) (sz' := 1) (en := fun n => [.int .i64 n]) (ok := I64) (en' := fun n => [.int .i64 n]) (ok' := I64) rda_i rfl ?_
  exact rdf_one rda_i rfl
theorem rda_mop : RdA Try.prog 47 MOp 5 encM (fun o => I64 o.1 ∧ I64 o.2.1 ∧ I64 o.2.2.1 ∧ I64 o.2.2.2.1 ∧ U64 o.2.2.2.2) := by
  refine rda_struct ?_
  show RdF _ _ _ MOp 5 (fun p : MOp => [.int .i64 p.1] ++ (fun p : Int × Int × Int × Int => [.int .i64 p.1] ++ (fun p : Int × Int × Int => [.int .i64 p.1] ++ (fun p : Int × Int => [.int .i64 p.1] ++ [.int .u64 p.2]) p.2) p.2) p.2) _
  refine rdf_cons (f := ⟨_, _, _, _, _, _, _⟩) (sz' := 4) (en := fun n => [.int .i64 n]) (ok := I64) (en' := fun p : Int × Int × Int × Int => [.int .i64 p.1] ++ (fun p : Int × Int × Int => [.int .i64 p.1] ++ (fun p : Int × Int => [.int .i64 p.1] ++ [.int .u64 p.2]) p.2) p.2) (ok' := fun p => I64 p.1 ∧ I64 p.2.1 ∧ I64 p.2.2.1 ∧ U64 p.2.2.2) rda_i rfl ?_
  refine rdf_cons (f := ⟨_, _, _, _, _, _, _⟩) (sz' := 3) (en := fun n => [.int .i64 n]) (ok := I64) (en' := fun p : Int × Int × Int => [.int .i64 p.1] ++ (fun p : Int × Int => [.int .i64 p.1] ++ [.int .u64 p.2]) p.2) (ok' := fun p => I64 p.1 ∧ I64 p.2.1 ∧ U64 p.2.2) rda_i rfl ?_
  refine rdf_cons (f := ⟨_, _, _, _, _, _, _⟩) (sz' := 2) (en := fun n => [.int .i64 n]) (ok := I64) (en' := fun p : Int × Int => [.int .i64 p.1] ++ [.int .u64 p.2]) (ok' := fun p => I64 p.1 ∧ U64 p.2) rda_i64 rfl ?_
  refine rdf_cons (f := ⟨_, _, _, _, _, _, _⟩) (sz' := 1) (en := fun n => [.int .i64 n]) (ok := I64) (en' := fun n => [.int .u64 n]) (ok' := U64) rda_i64 rfl ?_
  exact rdf_one rda_u64 rfl
theorem rda_mops : RdA Try.prog 44 (List MOp) 1 (fun l => [.ro 5 (l.map encM) .any]) (fun l => l.length ≤ maxLen ∧ ∀ o ∈ l, I64 o.1 ∧ I64 o.2.1 ∧ I64 o.2.2.1 ∧ I64 o.2.2.2.1 ∧ U64 o.2.2.2.2) := rda_slice rfl (by decide) rda_mop
theorem law_memAll2 (p : Bool × Int × Int) (l : List MOp) (hl : ∀ o ∈ l, I64 o.1 ∧ I64 o.2.1 ∧ I64 o.2.2.1 ∧ I64 o.2.2.2.1 ∧ U64 o.2.2.2.2) : SCall Try.prog 7 [.agg (encLim p), .ro 5 (l.map encM) .any] [] (fun x _ => x = .bool true) :=
  law_memAll p.1 p.2.1 p.2.2 l fun o ho => ⟨bd_of_wf (hl o ho).2.1, bd_of_wf (hl o ho).2.2.1, bd_of_wf (hl o ho).2.2.2.1, bd_u64 (hl o ho).2.2.2.2⟩
theorem memAll_own : ownKnob Try.prog.godebug = none := by kernel_rfl
theorem memAll_laidOut : laidOutB Try.prog = true := by kernel_rfl
theorem memAll_read : (Try.f7.params.toList.all fun t => Try.prog.readableRec t && decide (t < Try.prog.types.size)) = true := by kernel_rfl
set_option maxRecDepth 100000 in
theorem memAll_lifted (os : Os) (started : os.Started) (H : Type) (enc : TypeId × Value → H) :
    ReturnsInHanded {} Try.checked os 7 .any (Rows.memAllSpec.pre6 enc Try.prog Try.f7 Rows.memAllRow.domain false) (Rows.memAllSpec.post enc Try.prog Try.f7 false true false false) := by
  refine returnsInHanded_of_change (C := Try.checked) memAll_own started (by kernel_rfl) Try.func7
    (ChangeSpec.witness6 (enc := enc) (C := Try.checked) false ⟨#[], #[.agg #[.bool false, .int .i64 0, .int .i64 0], .slice none 0 0], []⟩ 8 (by kernel_rfl) (by kernel_rfl) (by kernel_rfl) (by kernel_rfl)) ?_
  intro W base args ds gs before hval0 hW hcnd _
  have hval : ∀ (j : Nat) t v, Try.f7.params[j]? = some t → args[j]? = some v → Value.okWide Try.prog W .any base t v := hval0
  have hW' := hW
  obtain ⟨p, q, hA0, hV, rfl, hfz, hnd⟩ := hW
  have hA : DataW.TrodAll enc Try.prog W 0 (fun _ => true) true Try.f7.params.toList args.toList ds p := hA0
  rw [Try.params7] at hA hval
  obtain ⟨rfl, rfl⟩ := trodVars_none hV
  obtain ⟨v0, vs0, d0, ds0, p0, q0, hargs, rfl, rfl, h0, r0⟩ := trodAll_cons hA
  obtain ⟨v1, vs1, d1, ds1, p1, q1, rfl, rfl, rfl, h1, r1⟩ := trodAll_cons r0
  obtain ⟨rfl, rfl, rfl⟩ := trodAll_nil r1
  obtain rfl : args = #[v0, v1] := by cases args; simp_all
  obtain ⟨cs0, rfl, -⟩ := okWide_struct Try.underlying27 (hval 0 27 v0 rfl rfl)
  obtain ⟨x0, k0, s0⟩ := arg_agg rda_lim h0
  obtain ⟨A1, n1, c1, rfl⟩ := okWide_slice Try.underlying44 (hval 1 44 v1 rfl rfl)
  obtain ⟨x1, k1, s1⟩ := arg_one rda_mops rfl h1
  refine (law_run (law_memAll2 x0 x1 k1.2) rfl (vs_cons s0 (vs_cons s1 vs_nil))).mono fun e W' ⟨he, hb⟩ => ?_
  subst he
  exact ⟨_, rfl, post_law memAll_laidOut rfl Try.underlying4 rfl rfl (read_of memAll_read) hW' hb⟩

theorem memAll_holds : Rows.MemAllSaid :=
  OpenClaim.holds_of_wide 7 Try.f7 rfl rfl rfl rfl rfl rfl rfl ⟨rfl, rfl, rfl, rfl, rfl⟩ rfl rfl rfl rfl rfl (by kernel_rfl) Try.func7 (by kernel_rfl)
    (of_decide_eq_true (by kernel_rfl)) (by unfold Func.isWrapper; first | (rw [if_pos (by decide +kernel)]; kernel_rfl) | (rw [if_neg (by decide +kernel)]; exact ⟨rfl, rfl⟩))
    (fun os started H enc _ => memAll_lifted os started H enc)

end Go.Proofs.Ytemehfolglcleaa
