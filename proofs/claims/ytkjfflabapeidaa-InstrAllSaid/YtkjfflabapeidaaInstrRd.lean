/-
  How a statement's arguments are read: numbers, bytes, instructions.
-/
import Derived.Test.YtkjfflabapeidaaInstrPl
import Derived.Test.YtkjfflabapeidaaSymM
import Derived.WalkKit
import Derived.ProofKit
import Derived.OpenShut
namespace Go.Proofs.Ytkjfflabapeidaa
open Go.RowKit Go.ChangeShapes Go.WideShapes Go.ChangeAt Go.Deep
set_option linter.unusedSimpArgs false
set_option linter.unusedVariables false

def encU8 (n : Int) : List AV := [.int .u8 n]
theorem encU8_nat : ∀ {l : List Int}, (∀ a ∈ l, 0 ≤ a ∧ a ≤ 255) → l.map encU8 = (l.map Int.toNat).map encU
  | [], _ => rfl
  | a :: l, h => by
    have := h a List.mem_cons_self
    rw [List.map_cons, List.map_cons, List.map_cons, encU8_nat fun b hb => h b (List.mem_cons_of_mem _ hb), encU8, encU, Int.toNat_of_nonneg this.1]
abbrev I64 (a : Int) : Prop := (Lit.int .i64 a).wf = true
abbrev U8 (a : Int) : Prop := (Lit.int .u8 a).wf = true
theorem bd_u8 {n : Int} (h : U8 n) : 0 ≤ n ∧ n ≤ 255 := by
  simp [U8, Lit.wf, IntKind.min, IntKind.max, IntKind.signed, IntKind.bits] at h
  omega
theorem bd_i64 {n : Int} (h : I64 n) : -9223372036854775808 ≤ n ∧ n ≤ 9223372036854775807 := by
  simp [I64, Lit.wf, IntKind.min, IntKind.max, IntKind.signed, IntKind.bits] at h
  omega
theorem rda_i : RdA Try.prog 3 Int 1 (fun n => [.int .i64 n]) I64 := rda_int (t := 3) (k := .i64) rfl
theorem rda_i64 : RdA Try.prog 2 Int 1 (fun n => [.int .i64 n]) I64 := rda_int (t := 2) (k := .i64) rfl
theorem rda_u8s : RdA Try.prog 25 (List Int) 1 (fun l => [.ro 1 (l.map encU8) .any]) (fun l => l.length ≤ maxLen ∧ ∀ a ∈ l, U8 a) := rda_slice rfl (by decide) (rda_int (t := 5) (k := .u8) rfl)
theorem rda_ints : RdA Try.prog 22 (List Int) 1 (fun l => [.ro 1 (l.map encI) .any]) (fun l => l.length ≤ maxLen ∧ ∀ a ∈ l, I64 a) := rda_slice rfl (by decide) (rda_int (t := 3) (k := .i64) rfl)
theorem rda_map {P : Program} {t : TypeId} {α β : Type} {sz : Nat} {en : α → List AV} {ok : α → Prop} (f : α → β) (g : β → α) (hg : ∀ a, g (f a) = a) (h : RdA P t α sz en ok) : RdA P t β sz (fun b => en (g b)) (fun b => ok (g b)) :=
  ⟨h.cells, fun b => h.shape (g b), fun H enc W fuel cs x hx => by
    obtain ⟨a, h1, h2, h3⟩ := h.read H enc W fuel cs x hx
    exact ⟨f a, by rw [hg]; exact h1, h2, by rw [hg]; exact h3⟩⟩
theorem rda_if {P : Program} {t : TypeId} {α : Type} {sz : Nat} {en : α → List AV} {ok ok' : α → Prop} (hk : ∀ a, ok a → ok' a) (h : RdA P t α sz en ok) : RdA P t α sz en ok' :=
  ⟨h.cells, h.shape, fun H enc W fuel cs x hx => by
    obtain ⟨a, h1, h2, h3⟩ := h.read H enc W fuel cs x hx
    exact ⟨a, hk a h1, h2, h3⟩⟩
/-- an instruction that is read: its numbers are numbers -/
def Ins.Wf (x : Ins) : Prop := (-9223372036854775808 ≤ x.op ∧ x.op ≤ 9223372036854775807) ∧ (-9223372036854775808 ≤ x.a ∧ x.a ≤ 9223372036854775807) ∧ (-9223372036854775808 ≤ x.b ∧ x.b ≤ 9223372036854775807) ∧ x.l.length ≤ maxLen ∧ ∀ a ∈ x.l, -9223372036854775808 ≤ a ∧ a ≤ 9223372036854775807
theorem rda_ins : RdA Try.prog 24 Ins 4 (iv .any) Ins.Wf := by
  have h : RdA Try.prog 24 (Int × Int × Int × List Int) 4 (fun p : Int × Int × Int × List Int => [.int .i64 p.1] ++ (fun p : Int × Int × List Int => [.int .i64 p.1] ++ (fun p : Int × List Int => [.int .i64 p.1] ++ [.ro 1 (p.2.map encI) .any]) p.2) p.2) (fun p => I64 p.1 ∧ I64 p.2.1 ∧ I64 p.2.2.1 ∧ (p.2.2.2.length ≤ maxLen ∧ ∀ a ∈ p.2.2.2, I64 a)) := by
    refine rda_struct ?_
    refine rdf_cons (f := ⟨_, _, _, _, _, _, _⟩) (sz' := 3) (en := fun n => [.int .i64 n]) (ok := I64) (en' := fun p : Int × Int × List Int => [.int .i64 p.1] ++ (fun p : Int × List Int => [.int .i64 p.1] ++ [.ro 1 (p.2.map encI) .any]) p.2) (ok' := fun p => I64 p.1 ∧ I64 p.2.1 ∧ (p.2.2.length ≤ maxLen ∧ ∀ a ∈ p.2.2, I64 a)) rda_i rfl ?_
    refine rdf_cons (f := ⟨_, _, _, _, _, _, _⟩) (sz' := 2) (en := fun n => [.int .i64 n]) (ok := I64) (en' := fun p : Int × List Int => [.int .i64 p.1] ++ [.ro 1 (p.2.map encI) .any]) (ok' := fun p => I64 p.1 ∧ (p.2.length ≤ maxLen ∧ ∀ a ∈ p.2, I64 a)) rda_i64 rfl ?_
    refine rdf_cons (f := ⟨_, _, _, _, _, _, _⟩) (sz' := 1) (en := fun n => [.int .i64 n]) (ok := I64) (en' := fun l : List Int => [.ro 1 (l.map encI) .any]) (ok' := fun l : List Int => l.length ≤ maxLen ∧ ∀ a ∈ l, I64 a) rda_i64 rfl ?_
    exact rdf_one rda_ints rfl
  have h2 := rda_map (fun p : Int × Int × Int × List Int => (⟨p.1, p.2.1, p.2.2.1, p.2.2.2⟩ : Ins)) (fun c => (c.op, c.a, c.b, c.l)) (fun _ => rfl) h
  exact rda_if (fun x hx => ⟨bd_i64 hx.1, bd_i64 hx.2.1, bd_i64 hx.2.2.1, hx.2.2.2.1, fun a ha => bd_i64 (hx.2.2.2.2 a ha)⟩) h2
theorem rda_inss : RdA Try.prog 41 (List Ins) 1 (fun l => [.ro 4 (l.map (iv .any)) .any]) (fun l => l.length ≤ maxLen ∧ ∀ x ∈ l, x.Wf) := rda_slice rfl (by decide) rda_ins
/-- bytes as numbers from 0 -/
theorem nats {l : List Int} (h : l.length ≤ maxLen ∧ ∀ a ∈ l, U8 a) : ∃ v : List Nat, v.length = l.length ∧ v.length ≤ maxLen ∧ (∀ x ∈ v, x < 256) ∧ l.map encU8 = v.map encU :=
  ⟨l.map Int.toNat, by simp, by simpa using h.1, fun x hx => by
    obtain ⟨a, ha, rfl⟩ := List.mem_map.1 hx
    have := bd_u8 (h.2 a ha)
    omega, encU8_nat fun a ha => bd_u8 (h.2 a ha)⟩
end Go.Proofs.Ytkjfflabapeidaa
