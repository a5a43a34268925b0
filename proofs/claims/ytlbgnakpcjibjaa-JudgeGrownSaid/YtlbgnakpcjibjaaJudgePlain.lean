/-
  Plain laws of once, gapless, twins, again, same: no program in sight.
-/
import Derived.Test.YtlbgnakpcjibjaaJudge5
namespace Go.Proofs.Ytlbgnakpcjibjaa
open Go.RowKit Go.ChangeShapes Go.WideShapes Go.ChangeAt Go.Deep

theorem likeB_refl (x : Call) : likeB x x = true := by simp [likeB]
theorem sameB_refl (l : List Call) : sameB l l = true := by
  unfold sameB
  rw [Bool.and_eq_true]
  refine ⟨by simp, (allT_iff _ _).mpr fun i hi => ?_⟩
  unfold sameF
  rw [List.getElem?_eq_getElem hi]
  exact likeB_refl _

/-- no two of one number -/
def Dist (l : List Call) : Prop := ∀ i x, l[i]? = some x → (l.take i).any (fun y => y.n == x.n) = false
theorem Dist.nil_ : Dist [] := fun i x h => by simp at h
theorem Dist.snoc {l : List Call} {c : Call} (h : Dist l) (hc : l.any (fun y => y.n == c.n) = false) : Dist (l ++ [c]) := by
  intro i x hx
  rcases Nat.lt_or_ge i l.length with hi | hi
  · rw [List.getElem?_append_left hi] at hx
    rw [List.take_append_of_le_length (Nat.le_of_lt hi)]
    exact h i x hx
  · rw [List.getElem?_append_right hi] at hx
    have h0 : i - l.length = 0 := by
      rcases Nat.eq_zero_or_pos (i - l.length) with h | h
      · exact h
      · rw [List.getElem?_eq_none (by simp; omega)] at hx; cases hx
    rw [h0] at hx
    obtain rfl : c = x := by simpa using hx
    have e : i = l.length := by omega
    subst e
    rw [List.take_left']
    · exact hc
    · rfl
theorem onceT_mem (l : List Call) (k : Nat) (x : Call) (h : x ∈ onceT l k) : x ∈ l.take k := by
  induction k with
  | zero => simp [onceT] at h
  | succ k ih =>
    unfold onceT at h
    rw [List.mem_append] at h
    rcases hc : l[k]? with _ | c
    · rw [hc] at h
      simp at h
      have hk := List.getElem?_eq_none_iff.1 hc
      have := ih h
      rw [List.take_of_length_le hk] at this
      rw [List.take_of_length_le (by omega)]
      exact this
    · obtain ⟨hk, hx⟩ := List.getElem?_eq_some_iff.1 hc
      rw [hc] at h
      rw [List.take_succ_eq_append_getElem hk, List.mem_append, hx]
      rcases h with h | h
      · exact .inl (ih h)
      · right
        dsimp only at h
        split at h
        · cases h
        · exact h
theorem onceT_dist (l : List Call) (k : Nat) : Dist (onceT l k) := by
  induction k with
  | zero => exact Dist.nil_
  | succ k ih =>
    rcases hc : l[k]? with _ | c
    · simpa [onceT, hc] using ih
    · cases h : (l.take k).any (fun y => y.n == c.n) with
      | true => rw [onceT_old l k c hc h]; exact ih
      | false =>
        rw [onceT_new l k c hc h]
        refine ih.snoc ?_
        rw [Bool.eq_false_iff]
        intro h'
        obtain ⟨x, hx, hn⟩ := List.any_eq_true.mp h'
        have : (l.take k).any (fun y => y.n == c.n) = true := List.any_eq_true.mpr ⟨x, onceT_mem l k x hx, hn⟩
        rw [h] at this
        cases this
theorem onceT_of_dist {l : List Call} (h : Dist l) (k : Nat) (hk : k ≤ l.length) : onceT l k = l.take k := by
  induction k with
  | zero => rfl
  | succ k ih =>
    have hk' : k < l.length := by omega
    rw [onceT_new l k l[k] (List.getElem?_eq_getElem hk') (h k _ (List.getElem?_eq_getElem hk')), ih (by omega), List.take_succ_eq_append_getElem hk']
theorem once_of_dist {l : List Call} (h : Dist l) : once l = l := by
  unfold once
  rw [onceT_of_dist h _ (Nat.le_refl _), List.take_length]
theorem once_once (l : List Call) : once (once l) = once l := once_of_dist (onceT_dist l _)
theorem twins_of_dist {l : List Call} (h : Dist l) : twins l = true := by
  refine (allT_iff _ _).mpr fun i hi => ?_
  unfold twinF
  rw [List.getElem?_eq_getElem hi]
  have := h i _ (List.getElem?_eq_getElem hi)
  rw [Bool.not_eq_true', Bool.eq_false_iff]
  intro h'
  obtain ⟨x, hx, hn⟩ := List.any_eq_true.mp h'
  rw [Bool.and_eq_true] at hn
  have : (l.take i).any (fun y => y.n == l[i].n) = true := List.any_eq_true.mpr ⟨x, hx, hn.1⟩
  rw [h i _ (List.getElem?_eq_getElem hi)] at this
  cases this
theorem again_once (l : List Call) : again (once l) = 0 := by unfold again; rw [once_once]; omega
theorem gapless_once (l : List Call) : gapless (once l) = gapless l := by unfold gapless; rw [once_once]
theorem gapless_last (l : List Call) (h : gapless l = true) (i : Nat) (x : Call) (hx : (once l)[i]? = some x) : x.n = (i : Int) + 1 := by
  obtain ⟨hk, _⟩ := List.getElem?_eq_some_iff.1 hx
  have := (allT_iff _ _).mp h i hk
  unfold gaplF at this
  rw [hx] at this
  simpa using this

end Go.Proofs.Ytlbgnakpcjibjaa
