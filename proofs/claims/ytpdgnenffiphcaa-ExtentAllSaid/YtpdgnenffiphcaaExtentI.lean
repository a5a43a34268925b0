/-
  Plain laws of rows that are given back. No program is named here.
-/
import Derived.Test.YtpdgnenffiphcaaExtentE
namespace Go.Proofs.Ytpdgnenffiphcaa
open Go.RowKit Go.ChangeShapes Go.WideShapes Go.ChangeAt Go.Deep
set_option linter.unusedSimpArgs false
set_option linter.unusedVariables false

theorem fillR_at {fr : List Bool} {o k : Nat} {v : Bool} (h : o + k ≤ fr.length) (j : Nat) : (fillR fr o k v)[j]? = if o ≤ j ∧ j < o + k then some v else fr[j]? := by
  unfold fillR
  have e1 : (fr.take o).length = o := by simp; omega
  rw [List.append_assoc]
  by_cases h1 : j < o
  · rw [List.getElem?_append_left (by omega), List.getElem?_take, if_pos h1, if_neg (by omega)]
  · rw [List.getElem?_append_right (by omega), e1]
    by_cases h2 : j < o + k
    · rw [List.getElem?_append_left (by simp; omega), List.getElem?_replicate_of_lt (by omega), if_pos ⟨by omega, h2⟩]
    · rw [List.getElem?_append_right (by simp; omega), List.length_replicate, List.getElem?_drop, if_neg (by omega)]
      congr 1; omega
def Apart (p q : Int × Int) : Prop := p.1 + p.2 ≤ q.1 ∨ q.1 + q.2 ≤ p.1
structure Held (fr : List Bool) (L : List (Int × Int)) : Prop where
  len : fr.length = 200
  bd : ∀ p ∈ L, 1 ≤ p.2 ∧ 5 ≤ p.1 ∧ p.1 + p.2 ≤ 205
  win : ∀ p ∈ L, ∀ j : Nat, p.1 ≤ 5 + j → (5 : Int) + j < p.1 + p.2 → fr[j]? = some false
  cov : ∀ j : Nat, j < 200 → fr[j]? = some false → ∃ p ∈ L, p.1 ≤ 5 + j ∧ (5 : Int) + j < p.1 + p.2
  apart : L.Pairwise Apart
theorem Held.give {fr : List Bool} {L : List (Int × Int)} (h : Held fr L) {k : Nat} {p : Int × Int} (hp : L[k]? = some p) :
    allB 5 fr p.1 p.2 false = true ∧ allB 5 (setF 5 fr p.1 p.2 true) p.1 p.2 false = false ∧ setF 5 (setF 5 fr p.1 p.2 true) p.1 p.2 true = setF 5 fr p.1 p.2 true ∧ Held (setF 5 fr p.1 p.2 true) (L.take k ++ L.drop (k + 1)) := by
  have hpm := List.mem_of_getElem? hp
  have hk := (List.getElem?_eq_some_iff.1 hp).1
  obtain ⟨b1, b2, b3⟩ := h.bd p hpm
  have hlen := h.len
  have ha : allB 5 fr p.1 p.2 false = true := allB_win b1 b2 (by rw [hlen]; omega) (h.win p hpm)
  have hs : setF 5 fr p.1 p.2 true = fillR fr (p.1 - 5).toNat p.2.toNat true := by
    unfold setF
    rw [show (!true) = false from rfl, ha, if_pos rfl]
  have hat := fillR_at (fr := fr) (o := (p.1 - 5).toNat) (k := p.2.toNat) (v := true) (by omega)
  have hln : (fillR fr (p.1 - 5).toNat p.2.toNat true).length = fr.length := fillR_len (by omega)
  have ha2 : allB 5 (setF 5 fr p.1 p.2 true) p.1 p.2 false = false := by
    rw [hs, ← Bool.not_eq_true]
    intro hc
    simp only [allB, Bool.and_eq_true, Bool.not_eq_true'] at hc
    have hc2 := hc.2
    rw [← Bool.not_eq_true, List.contains_iff_mem] at hc2
    apply hc2
    refine List.mem_of_getElem? (i := 0) ?_
    rw [List.getElem?_take, if_pos (by omega), List.getElem?_drop, hat, if_pos ⟨by omega, by omega⟩]
    rfl
  have hL : L = L.take k ++ p :: L.drop (k + 1) := by
    conv => lhs; rw [← List.take_append_drop k L]
    rw [← List.getElem_cons_drop hk]
    rw [(List.getElem?_eq_some_iff.1 hp).2]
  have hap : ∀ q ∈ L.take k ++ L.drop (k + 1), q ∈ L ∧ Apart p q := by
    intro q hq
    have hpw := h.apart
    rw [hL, List.pairwise_append] at hpw
    obtain ⟨_, h2, h3⟩ := hpw
    rw [List.pairwise_cons] at h2
    rcases List.mem_append.1 hq with hq | hq
    · exact ⟨List.mem_of_mem_take hq, (h3 q hq p (by simp)).symm⟩
    · exact ⟨List.mem_of_mem_drop hq, h2.1 q hq⟩
  refine ⟨ha, ha2, ?_, ?_⟩
  · unfold setF at ha2 ⊢
    rw [show (!true) = false from rfl] at *
    rw [ha2]
    simp
  · rw [hs]
    constructor
    · rw [hln, hlen]
    · exact fun q hq => h.bd q (hap q hq).1
    · intro q hq j h1 h2
      obtain ⟨hqm, hd⟩ := hap q hq
      have := h.win q hqm j h1 h2
      rw [hat, if_neg]
      · exact this
      · rintro ⟨h3, h4⟩
        rcases hd with hd | hd <;> omega
    · intro j hj hf
      rw [hat] at hf
      split at hf
      · cases hf
      · next hn =>
        obtain ⟨q, hq, h1, h2⟩ := h.cov j hj hf
        refine ⟨q, ?_, h1, h2⟩
        rw [hL] at hq
        rcases List.mem_append.1 hq with hq | hq
        · exact List.mem_append_left _ hq
        · rcases List.mem_cons.1 hq with rfl | hq
          · exact absurd ⟨by omega, by omega⟩ hn
          · exact List.mem_append_right _ hq
    · have hpw := h.apart
      rw [hL, List.pairwise_append] at hpw
      rw [List.pairwise_append]
      obtain ⟨h1, h2, h3⟩ := hpw
      rw [List.pairwise_cons] at h2
      exact ⟨h1, h2.2, fun a ha b hb => h3 a ha b (by simp [hb])⟩
theorem Held.none {fr : List Bool} (h : Held fr []) : fr = runF 0 200 := by
  refine List.ext_getElem? fun j => ?_
  by_cases hj : j < 200
  · have hjl : j < fr.length := by rw [h.len]; exact hj
    have h1 : fr[j]? = some fr[j] := List.getElem?_eq_getElem hjl
    have h2 : (runF 0 200)[j]? = some true := by
      unfold runF
      rw [List.replicate_zero, List.nil_append, List.getElem?_replicate_of_lt hj]
    rw [h1, h2]
    cases hf : fr[j] with
    | true => rfl
    | false =>
      obtain ⟨p, hp, _⟩ := h.cov j hj (by rw [h1, hf])
      cases hp
  · rw [List.getElem?_eq_none (by rw [h.len]; omega), List.getElem?_eq_none (by rw [runF_len]; omega)]
structure Tk (u : Nat) (L : List (Int × Int)) : Prop where
  bd : ∀ p ∈ L, 1 ≤ p.2 ∧ 5 ≤ p.1 ∧ p.1 + p.2 ≤ 5 + u
  cov : ∀ j : Nat, j < u → ∃ p ∈ L, p.1 ≤ 5 + j ∧ (5 : Int) + j < p.1 + p.2
  apart : L.Pairwise Apart
theorem Tk.zero : Tk 0 [] := ⟨fun p hp => (by cases hp), fun j h => absurd h (by omega), .nil⟩
theorem Tk.snoc {u n : Nat} {L : List (Int × Int)} (h : Tk u L) (hn : 1 ≤ n) : Tk (u + n) (L ++ [(5 + (u : Int), (n : Int))]) := by
  constructor
  · intro p hp
    rcases List.mem_append.1 hp with hp | hp
    · have := h.bd p hp; omega
    · obtain rfl := List.mem_singleton.1 hp
      simp only
      omega
  · intro j hj
    by_cases hju : j < u
    · obtain ⟨p, hp, h1⟩ := h.cov j hju
      exact ⟨p, List.mem_append_left _ hp, h1⟩
    · exact ⟨_, List.mem_append_right _ (List.mem_singleton.2 rfl), by simp only; omega, by simp only; omega⟩
  · rw [List.pairwise_append]
    refine ⟨h.apart, List.pairwise_singleton _ _, fun a ha b hb => ?_⟩
    obtain rfl := List.mem_singleton.1 hb
    have := h.bd a ha
    exact .inl (by simp only; omega)
theorem Tk.held {u : Nat} {L : List (Int × Int)} (h : Tk u L) (hu : u ≤ 200) : Held (runF u (200 - u)) L := by
  constructor
  · rw [runF_len]; omega
  · intro p hp; have := h.bd p hp; omega
  · intro p hp j h1 h2
    have := h.bd p hp
    unfold runF
    rw [List.getElem?_append_left (by simp; omega), List.getElem?_replicate_of_lt (by omega)]
  · intro j hj hf
    by_cases hju : j < u
    · exact h.cov j hju
    · unfold runF at hf
      rw [List.getElem?_append_right (by simp; omega), List.length_replicate, List.getElem?_replicate_of_lt (by omega)] at hf
      cases hf
  · exact h.apart
end Go.Proofs.Ytpdgnenffiphcaa
