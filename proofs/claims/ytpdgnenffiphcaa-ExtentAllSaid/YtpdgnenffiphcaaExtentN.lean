/-
  Plain laws for what a program works out about free rows by looking at each. No program is named here.
-/
import Derived.Test.YtpdgnenffiphcaaExtentK
namespace Go.Proofs.Ytpdgnenffiphcaa
open Go.RowKit Go.ChangeShapes Go.WideShapes Go.ChangeAt Go.Deep
set_option linter.unusedSimpArgs false
set_option linter.unusedVariables false

theorem allB_true {at_ : Int} {fr : List Bool} {a l : Int} {v : Bool} (h : allB at_ fr a l v = true) : ∀ j : Nat, a ≤ at_ + j → at_ + j < a + l → fr[j]? = some v := by
  intro j h1 h2
  obtain ⟨b1, b2, b3, b4⟩ := allB_bd h
  simp only [allB, Bool.and_eq_true, Bool.not_eq_true'] at h
  have hc := h.2
  rw [← Bool.not_eq_true, List.contains_iff_mem] at hc
  have hj : j < fr.length := by omega
  rw [List.getElem?_eq_getElem hj]
  by_cases he : fr[j] = v
  · rw [he]
  · exfalso
    apply hc
    have hv : fr[j] = !v := by cases hx : fr[j] <;> cases v <;> simp_all
    refine List.mem_of_getElem? (i := j - (a - at_).toNat) ?_
    rw [List.getElem?_take, if_pos (by omega), List.getElem?_drop, show (a - at_).toNat + (j - (a - at_).toNat) = j by omega, List.getElem?_eq_getElem hj, hv]
/-- a search that looks at one after another: j of them looked at, b: they all were v -/
def OkA (A : Nat) (fr : List Bool) (v : Bool) (a l : Int) (j : Nat) (b : Bool) : Prop :=
  (b = true → 1 ≤ l ∧ (A : Int) ≤ a ∧ a + l ≤ A + fr.length ∧ (j : Int) ≤ l ∧ ∀ i : Nat, a ≤ A + i → (A : Int) + i < a + j → fr[i]? = some v) ∧ (b = false → allB A fr a l v = false)
theorem OkA.zero {A : Nat} {fr : List Bool} {v : Bool} {a l : Int} {b : Bool} (h : b = true ↔ (1 ≤ l ∧ (A : Int) ≤ a ∧ a + l ≤ A + fr.length)) : OkA A fr v a l 0 b := by
  refine ⟨fun hb => ?_, fun hb => ?_⟩
  · have := h.1 hb
    exact ⟨this.1, this.2.1, this.2.2, by omega, fun i h1 h2 => by omega⟩
  · rw [← Bool.not_eq_true]
    intro hc
    obtain ⟨b1, b2, b3, b4⟩ := allB_bd hc
    have := h.2 ⟨b1, b3, by omega⟩
    rw [hb] at this
    cases this
theorem OkA.step {A : Nat} {fr : List Bool} {v x : Bool} {a l : Int} {j : Nat} (h : OkA A fr v a l j true) (hj : (j : Int) < l) (hx : fr[(a + j - A).toNat]? = some x) : OkA A fr v a l (j + 1) (x == v) := by
  obtain ⟨h1, h2, h3, h4, h5⟩ := h.1 rfl
  refine ⟨fun hb => ⟨h1, h2, h3, by omega, fun i h6 h7 => ?_⟩, fun hb => ?_⟩
  · by_cases hi : (A : Int) + i < a + j
    · exact h5 i h6 hi
    · obtain rfl : i = (a + j - A).toNat := by omega
      rw [hx, eq_of_beq hb]
  · rw [← Bool.not_eq_true]
    intro hc
    have := allB_true hc (a + j - A).toNat (by omega) (by omega)
    rw [hx] at this
    obtain rfl := Option.some.inj this
    simp at hb
theorem OkA.done {A : Nat} {fr : List Bool} {v b : Bool} {a l : Int} {j : Nat} (h : OkA A fr v a l j b) (hd : b = true → l ≤ j) : b = allB A fr a l v := by
  cases b with
  | false => exact (h.2 rfl).symm
  | true =>
    obtain ⟨h1, h2, h3, h4, h5⟩ := h.1 rfl
    have := hd rfl
    exact (allB_win h1 h2 h3 fun i h6 h7 => h5 i h6 (by omega)).symm
/-- the first of them, looked for: j looked at -/
def OkW (A : Nat) (fr : List Bool) (m : Nat) (j : Nat) (V : Int) : Prop :=
  (V = -1 ∧ ∀ i, i < j → ¬ Win fr i m) ∨ (1 ≤ m ∧ 1 ≤ j ∧ V = (A : Int) + (j - 1 : Nat) ∧ Win fr (j - 1) m ∧ ∀ i, i < j - 1 → ¬ Win fr i m)
theorem OkW.done {A : Nat} {fr : List Bool} {l : Int} {j : Nat} {V : Int} (h : OkW A fr l.toNat j V) (hd : V < 0 → 1 ≤ l → l ≤ fr.length → (fr.length : Int) - l < j) : (takP A fr l = none ∧ V = -1) ∨ ∃ p, takP A fr l = some p ∧ V = p.1 := by
  by_cases hl : 1 ≤ l
  · obtain ⟨m, rfl⟩ := Int.eq_ofNat_of_zero_le (show 0 ≤ l by omega)
    simp only [Int.toNat_natCast] at h
    have hm : 1 ≤ m := by omega
    cases ht : takP A fr m with
    | none =>
      rcases h with ⟨h1, _⟩ | ⟨_, _, _, h4, _⟩
      · exact .inl ⟨rfl, h1⟩
      · exact absurd h4 (takP_none hm ht _)
    | some p =>
      obtain ⟨a, h1, h2, h3⟩ := takP_some hm ht
      refine .inr ⟨p, rfl, ?_⟩
      rcases h with ⟨h4, h5⟩ | ⟨_, h6, h7, h8, h9⟩
      · exfalso
        have hle := h2.le hm
        have := hd (by omega) (by omega) (by omega)
        exact h5 a (by omega) h2
      · have : a = j - 1 := by
          rcases Nat.lt_trichotomy a (j - 1) with h | h | h
          · exact absurd h2 (h9 a h)
          · exact h
          · exact absurd h8 (h3 _ h)
        rw [h7, h1, this]
  · refine .inl ⟨?_, ?_⟩
    · unfold takP
      rw [List.find?_eq_none]
      intro p _
      simp
      omega
    · rcases h with ⟨h1, _⟩ | ⟨h1, _⟩
      · exact h1
      · omega
theorem Win.snoc {fr : List Bool} {a n : Nat} {x : Bool} (hx : fr[a + n]? = some x) {S : Bool} (h : S = true ↔ Win fr a n) : (if S then x else false) = true ↔ Win fr a (n + 1) := by
  constructor
  · intro hs
    cases S with
    | false => cases hs
    | true =>
      have hx' : x = true := hs
      subst hx'
      intro j h1 h2
      by_cases hj : j < a + n
      · exact h.1 rfl j h1 hj
      · obtain rfl : j = a + n := by omega
        exact hx
  · intro hw
    have : S = true := h.2 fun j h1 h2 => hw j h1 (by omega)
    rw [this, if_pos rfl]
    have := hw (a + n) (by omega) (by omega)
    rw [hx] at this
    exact Option.some.inj this
theorem long_at' {A : Nat} {fr : List Bool} {z : Nat} {k : Int} (h1 : (A : Int) ≤ k) (h2 : k < A + fr.length) : (longF A fr z)[k.toNat]? = fr[(k - A).toNat]? := by
  have := long_at (a := A) (fr := fr) (z := z) (j := (k - A).toNat) (by omega)
  rwa [show A + (k - A).toNat = k.toNat by omega] at this
theorem long_set' {A : Nat} {fr : List Bool} {z : Nat} {k : Int} {v : Bool} (h1 : (A : Int) ≤ k) (h2 : k < A + fr.length) : (longF A fr z).set k.toNat v = longF A (fr.set (k - A).toNat v) z := by
  have := long_set (a := A) (fr := fr) (z := z) (j := (k - A).toNat) (v := v) (by omega)
  rwa [show A + (k - A).toNat = k.toNat by omega] at this
theorem takP_all {at_ : Int} {fr : List Bool} {n : Int} {p : Int × Int} (h : takP at_ fr n = some p) : at_ ≤ p.1 ∧ allB at_ fr p.1 n true = true := by
  obtain ⟨h1, h2, h3⟩ := takP_mem h
  have b := (spans_bd (at_ := at_) (fr := fr)).2 p h1
  have w := spans_win p h1
  have hend : p.1 + n ≤ at_ + fr.length := by
    have := w (p.1 + n - 1 - at_).toNat (by omega) (by omega)
    have := (List.getElem?_eq_some_iff.1 this).1
    omega
  exact ⟨b.1, allB_win h2 b.1 hend fun j hj1 hj2 => w j hj1 (by omega)⟩
theorem set_encB' {l : List Bool} {i : Nat} {x : Bool} : (l.map encB).set i [ofConst (.bool x)] = (l.set i x).map encB := set_encB
theorem setF_yes {at_ : Int} {fr : List Bool} {a l : Int} {v : Bool} (h : allB at_ fr a l (!v) = true) : setF at_ fr a l v = fillR fr (a - at_).toNat l.toNat v := by unfold setF; rw [if_pos h]
theorem setF_no {at_ : Int} {fr : List Bool} {a l : Int} {v : Bool} (h : allB at_ fr a l (!v) = false) : setF at_ fr a l v = fr := by unfold setF; rw [h]; rfl
end Go.Proofs.Ytpdgnenffiphcaa
