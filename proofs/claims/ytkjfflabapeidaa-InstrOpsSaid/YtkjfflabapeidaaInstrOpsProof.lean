/-
  InstrOps returns true for every input, and leaves its arguments as they were. No condition.
-/
import Derived.Test.YtkjfflabapeidaaInstrP
import Derived.Test.YtkjfflabapeidaaSymM
import Derived.Test.YtkjfflabapeidaaRows
import Derived.WalkKit
import Derived.ProofKit
import Derived.OpenShut
namespace Go.Proofs.Ytkjfflabapeidaa
open Go.RowKit Go.ChangeShapes Go.WideShapes Go.ChangeAt Go.Deep
set_option linter.unusedSimpArgs false
set_option linter.unusedVariables false

def encU8 (n : Int) : List AV := [.int .u8 n]
theorem encU8_nat : ∀ {l : List Int}, (∀ a ∈ l, 0 ≤ a ∧ a ≤ 255) → l.map encU8 = (l.map Int.toNat).map encU
  | [], _ => rfl
  | a :: l, h => by
    have := h a List.mem_cons_self
    rw [List.map_cons, List.map_cons, List.map_cons, encU8_nat fun b hb => h b (List.mem_cons_of_mem _ hb), encU8, encU, Int.toNat_of_nonneg this.1]
theorem bd_u8 {n : Int} (h : (Lit.int .u8 n).wf = true) : 0 ≤ n ∧ n ≤ 255 := by
  simp [Lit.wf, IntKind.min, IntKind.max, IntKind.signed, IntKind.bits] at h
  omega
theorem bd_i64 {n : Int} (h : (Lit.int .i64 n).wf = true) : -9223372036854775808 ≤ n ∧ n ≤ 9223372036854775807 := by
  simp [Lit.wf, IntKind.min, IntKind.max, IntKind.signed, IntKind.bits] at h
  omega
theorem rda_u8s : RdA Try.prog 25 (List Int) 1 (fun l => [.ro 1 (l.map encU8) .any]) (fun l => l.length ≤ maxLen ∧ ∀ a ∈ l, (Lit.int .u8 a).wf = true) := rda_slice rfl (by decide) (rda_int (t := 5) (k := .u8) rfl)
theorem law_instrOps2 (op : Int) (rest : List Int) (hop : -9223372036854775808 ≤ op ∧ op ≤ 9223372036854775807) (hr : rest.length ≤ maxLen) (hrt : ∀ a ∈ rest, 0 ≤ a ∧ a ≤ 255) : SCall Try.prog 5 [.int .i64 op, .ro 1 (rest.map encU8) .any] [] (fun x _ => x = .bool true) := by
  rw [encU8_nat hrt]
  refine law_instrOps op hop (rest.map Int.toNat) (by rw [List.length_map]; exact hr) fun x hx => ?_
  obtain ⟨a, ha, rfl⟩ := List.mem_map.1 hx
  have := hrt a ha
  omega
theorem instrOps_own : ownKnob Try.prog.godebug = none := by kernel_rfl
theorem instrOps_laidOut : laidOutB Try.prog = true := by kernel_rfl
theorem instrOps_read : (Try.f5.params.toList.all fun t => Try.prog.readableRec t && decide (t < Try.prog.types.size)) = true := by kernel_rfl
set_option maxRecDepth 100000 in
theorem instrOps_lifted (os : Os) (started : os.Started) (H : Type) (enc : TypeId × Value → H) :
    ReturnsInHanded {} Try.checked os 5 .any (Rows.instrOpsSpec.pre6 enc Try.prog Try.f5 Rows.instrOpsRow.domain false) (Rows.instrOpsSpec.post enc Try.prog Try.f5 false true false false) := by
  refine returnsInHanded_of_change (C := Try.checked) instrOps_own started (by kernel_rfl) Try.func5
    (ChangeSpec.witness6 (enc := enc) (C := Try.checked) false ⟨#[], #[.int .i64 0, .slice none 0 0], []⟩ 8 (by kernel_rfl) (by kernel_rfl) (by kernel_rfl) (by kernel_rfl)) ?_
  intro W base args ds gs before hval0 hW hcnd _
  have hval : ∀ (j : Nat) t v, Try.f5.params[j]? = some t → args[j]? = some v → Value.okWide Try.prog W .any base t v := hval0
  have hW' := hW
  obtain ⟨p, q, hA0, hV, rfl, hfz, hnd⟩ := hW
  have hA : DataW.TrodAll enc Try.prog W 0 (fun _ => true) true Try.f5.params.toList args.toList ds p := hA0
  rw [Try.params5] at hA hval
  obtain ⟨rfl, rfl⟩ := trodVars_none hV
  obtain ⟨v0, vs0, d0, ds0, p0, q0, hargs, rfl, rfl, h0, r0⟩ := trodAll_cons hA
  obtain ⟨v1, vs1, d1, ds1, p1, q1, rfl, rfl, rfl, h1, r1⟩ := trodAll_cons r0
  obtain ⟨rfl, rfl, rfl⟩ := trodAll_nil r1
  obtain rfl : args = #[v0, v1] := by cases args; simp_all
  obtain ⟨a0, rfl, rfl, rfl, w0⟩ := open_int Try.underlying3 (hval 0 3 v0 rfl rfl) h0
  obtain ⟨A1, n1, c1, rfl⟩ := okWide_slice Try.underlying25 (hval 1 25 v1 rfl rfl)
  obtain ⟨x1, k1, s1⟩ := arg_one rda_u8s rfl h1
  refine (law_run (law_instrOps2 a0 x1 (bd_i64 w0) k1.1 (fun y hy => bd_u8 (k1.2 y hy))) rfl (vs_cons (VR.int _ a0) (vs_cons s1 vs_nil))).mono fun e W' ⟨he, hb⟩ => ?_
  subst he
  exact ⟨_, rfl, post_law instrOps_laidOut rfl Try.underlying4 rfl rfl (read_of instrOps_read) hW' hb⟩

theorem instrOps_holds : Rows.InstrOpsSaid :=
  OpenClaim.holds_of_wide 5 Try.f5 rfl rfl rfl rfl rfl rfl rfl ⟨rfl, rfl, rfl, rfl, rfl⟩ rfl rfl rfl rfl rfl (by kernel_rfl) Try.func5 (by kernel_rfl)
    (of_decide_eq_true (by kernel_rfl)) (by unfold Func.isWrapper; first | (rw [if_pos (by decide +kernel)]; kernel_rfl) | (rw [if_neg (by decide +kernel)]; exact ⟨rfl, rfl⟩))
    (fun os started H enc _ => instrOps_lifted os started H enc)

end Go.Proofs.Ytkjfflabapeidaa
