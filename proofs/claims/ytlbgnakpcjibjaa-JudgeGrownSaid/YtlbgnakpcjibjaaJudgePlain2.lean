/-
  Plain laws of one call more.
-/
import Derived.Test.YtlbgnakpcjibjaaJudgePlain
namespace Go.Proofs.Ytlbgnakpcjibjaa
open Go.RowKit Go.ChangeShapes Go.WideShapes Go.ChangeAt Go.Deep

theorem onceT_snoc (l : List Call) (c : Call) (k : Nat) (hk : k ≤ l.length) : onceT (l ++ [c]) k = onceT l k := by
  induction k with
  | zero => rfl
  | succ k ih =>
    have hk' : k < l.length := by omega
    unfold onceT
    rw [ih (by omega), List.getElem?_append_left hk', List.take_append_of_le_length (by omega)]
theorem snoc_get (l : List Call) (c : Call) : (l ++ [c])[l.length]? = some c := by simp
theorem once_old (l : List Call) (c : Call) (h : l.any (fun y => y.n == c.n) = true) : once (l ++ [c]) = once l := by
  unfold once
  rw [List.length_append]
  show onceT (l ++ [c]) (l.length + 1) = _
  rw [onceT_old _ _ c (snoc_get l c) (by rw [List.take_left']; exact h; rfl), onceT_snoc _ _ _ (Nat.le_refl _)]
theorem once_new (l : List Call) (c : Call) (h : l.any (fun y => y.n == c.n) = false) : once (l ++ [c]) = once l ++ [c] := by
  unfold once
  rw [List.length_append]
  show onceT (l ++ [c]) (l.length + 1) = _
  rw [onceT_new _ _ c (snoc_get l c) (by rw [List.take_left']; exact h; rfl), onceT_snoc _ _ _ (Nat.le_refl _)]
theorem again_old (l : List Call) (c : Call) (h : l.any (fun y => y.n == c.n) = true) : again (l ++ [c]) = again l + 1 := by
  unfold again
  rw [once_old l c h, List.length_append]
  simp
  omega
theorem again_new (l : List Call) (c : Call) (h : l.any (fun y => y.n == c.n) = false) : again (l ++ [c]) = again l := by
  unfold again
  rw [once_new l c h, List.length_append, List.length_append]
  simp
  omega
theorem allT_congr {f g : Nat → Bool} {n : Nat} (h : ∀ i, i < n → f i = g i) : allT f n = allT g n := by
  induction n with
  | zero => rfl
  | succ n ih =>
    unfold allT
    rw [ih (fun i hi => h i (by omega)), h n (by omega)]
theorem twins_new (l : List Call) (c : Call) (h : l.any (fun y => y.n == c.n) = false) : twins (l ++ [c]) = twins l := by
  unfold twins
  rw [List.length_append]
  show (allT _ l.length && twinF (l ++ [c]) l.length) = _
  have h1 : twinF (l ++ [c]) l.length = true := by
    unfold twinF
    rw [snoc_get, List.take_left' rfl]
    dsimp only
    rw [Bool.not_eq_true', Bool.eq_false_iff]
    intro h'
    obtain ⟨x, hx, hn⟩ := List.any_eq_true.mp h'
    rw [Bool.and_eq_true] at hn
    have : l.any (fun y => y.n == c.n) = true := List.any_eq_true.mpr ⟨x, hx, hn.1⟩
    rw [h] at this
    cases this
  rw [h1, Bool.and_true]
  refine allT_congr fun i hi => ?_
  unfold twinF
  rw [List.getElem?_append_left hi, List.take_append_of_le_length (by omega)]

end Go.Proofs.Ytlbgnakpcjibjaa
