/-
  Plain words on what instructions are written as: their bytes, how many, no two alike.
-/
import Derived.Test.YtkjfflabapeidaaInstrO
import Derived.Test.YtkjfflabapeidaaSymV
namespace Go.Proofs.Ytkjfflabapeidaa
open Go.RowKit Go.ChangeShapes Go.WideShapes Go.ChangeAt Go.Deep
set_option linter.unusedSimpArgs false
set_option linter.unusedVariables false

theorem if_and {p q : Bool} : (if p = true then q else false) = (p && q) := by cases p <;> rfl
theorem if_or {p q : Bool} : (if p = true then true else q) = (p || q) := by cases p <;> rfl
theorem bT {H R : Prop} (a : H) (h : H → R := by intro h; (try simp only [if_and, if_or] at h); simp only [Bool.and_eq_true, Bool.or_eq_true, Bool.and_eq_false_iff, Bool.or_eq_false_iff, decide_eq_true_eq, decide_eq_false_iff_not, Bool.not_eq_true', Bool.not_eq_false', bne_iff_ne, beq_iff_eq, ne_eq, Bool.not_eq_eq_eq_not, Bool.not_true, Bool.not_false, bne_eq_false_iff_eq, beq_eq_false_iff_ne] at h; exact h) : R := h a
instance : NoE encI := ⟨fun a x hx => by simp [encI] at hx; subst hx; exact NoF.int⟩
theorem putT_lt (x : Ins) : ∀ b ∈ putT x, b < 256 := by
  have hf : ∀ l : List Int, ∀ b ∈ (l.flatMap fun n => uB n.toNat), b < 256 := by
    intro l b hb
    obtain ⟨n, -, hn⟩ := List.mem_flatMap.1 hb
    exact uB_lt _ b hn
  intro b hb
  unfold putT at hb
  split at hb
  · rw [List.mem_singleton.1 hb]; unfold kindB; split <;> (try split) <;> decide
  split at hb
  · exact uB_lt _ b hb
  split at hb
  · rcases List.mem_append.1 hb with h | h
    · exact uB_lt _ b h
    · rw [List.mem_singleton.1 h]; decide
  split at hb
  · rcases List.mem_append.1 hb with h | h
    · rcases List.mem_append.1 h with h | h
      · exact uB_lt _ b h
      · exact hf _ b h
    · exact uB_lt _ b h
  split at hb
  · rcases List.mem_append.1 hb with h | h
    · exact uB_lt _ b h
    · exact uB_lt _ b h
  split at hb
  · rw [List.mem_singleton.1 hb]; decide
  split at hb
  · exact sB_lt _ x.a (Nat.le_refl _) b hb
  · simp at hb
theorem putN_lt {x : Ins} (hm : mayN x = true) : ∀ b ∈ putN x, b < 256 := by
  intro b hb
  rcases List.mem_cons.1 hb with rfl | hb
  · have := may_op hm; omega
  · exact putT_lt x b hb
theorem putN_len {x : Ins} (hx : x.Ok) (hm : mayN x = true) : (putN x).length ≤ 200 := by
  unfold putN
  rw [List.length_cons]
  suffices (putT x).length ≤ 199 by omega
  unfold putT
  split
  · simp
  split
  · next h => have := may3 hm h; have := uB_len 1 x.a.toNat (by omega); omega
  split
  · next h => have := may5 hm h; have := uB_len 1 x.a.toNat (by omega); simp; omega
  split
  · next h =>
    obtain ⟨h1, h2, h3⟩ := may4 hm h
    have := uB_len 1 x.a.toNat (by omega)
    have := uB_len 0 x.l.length (by omega)
    have := flat_len h3
    simp only [List.length_append]
    omega
  split
  · next h => have := may6 hm h; have := uB_len 0 x.a.toNat (by omega); have := uB_len 4 x.b.toNat (by omega); simp; omega
  split
  · simp
  split
  · obtain ⟨-, -, h1, h2, -⟩ := hx
    have := sB_len 9 x.a (by omega) (by omega)
    omega
  · simp
theorem putN_inj {x y : Ins} (hx : x.Ok) (hy : y.Ok) (mx : mayN x = true) (my : mayN y = true) (h : putN x = putN y) : x = y := by
  have h1 := get_put hx mx []
  have h2 := get_put hy my []
  rw [h, h2] at h1
  exact (Prod.mk.inj h1).1.symm
theorem eqN_iff {x y : Ins} : eqN x y = true ↔ x = y := by
  cases x; cases y
  simp [eqN]
theorem get_put0 {x : Ins} (hx : x.Ok) (h : mayN x = true) : getP (putN x) = (x, (putN x).length, 0) := by
  have := get_put hx h []
  rwa [List.append_nil] at this
end Go.Proofs.Ytkjfflabapeidaa
