/-
  Plain laws of free rows. No program is named here.
-/
import Derived.Test.YtpdgnenffiphcaaExtentC
namespace Go.Proofs.Ytpdgnenffiphcaa
open Go.RowKit Go.ChangeShapes Go.WideShapes Go.ChangeAt Go.Deep
set_option linter.unusedSimpArgs false
set_option linter.unusedVariables false

/-! ### each row that is told is free -/
structure SpWin (at_ : Int) (fr : List Bool) (i : Nat) : Prop where
  win : ∀ p ∈ (spS at_ fr i).1, ∀ j : Nat, p.1 ≤ at_ + j → at_ + j < p.1 + p.2 → fr[j]? = some true
  last : (spS at_ fr i).2.2 = true → ∃ l p, (spS at_ fr i).1 = l ++ [p] ∧ p.1 + p.2 = at_ + i
theorem bump_snoc {l : List (Int × Int)} {p : Int × Int} : bump (l ++ [p]) = l ++ [(p.1, p.2 + 1)] := by
  have e : (l ++ [p])[l.length]! = p := by
    rw [getElem!_pos (l ++ [p]) l.length (by simp)]
    simp
  unfold bump
  rw [show (l ++ [p]).length - 1 = l.length by simp, e, List.set_append_right _ _ (Nat.le_refl _)]
  simp
theorem spWin (at_ : Int) (fr : List Bool) : ∀ i, i ≤ fr.length → SpWin at_ fr i
  | 0, _ => ⟨fun p hp => (by cases hp), fun h => (by cases h)⟩
  | i + 1, h => by
    have ih := spWin at_ fr i (by omega)
    have ok := spOk at_ fr i (by omega)
    have hb : fr[i]? = some fr[i] := List.getElem?_eq_getElem (by omega)
    have e := spS_succ (at_ := at_) hb
    have hno := ok.no
    cases hfr : fr[i] with
    | false =>
      rw [hfr] at e
      simp only [stepS, Bool.false_eq_true, if_false] at e
      constructor
      · rw [e]; exact ih.win
      · rw [e]; intro h; cases h
    | true =>
      rw [hfr] at e hb
      simp only [stepS, if_true] at e
      cases hp : (spS at_ fr i).2.2 with
      | true =>
        obtain ⟨l, p, hl, hlast⟩ := ih.last hp
        rw [hp, hl] at e
        simp only [if_true, bump_snoc] at e
        constructor
        · rw [e]
          intro p' hp' j h1 h2
          rcases List.mem_append.1 hp' with hp' | hp'
          · exact ih.win p' (by rw [hl]; simp [hp']) j h1 h2
          · obtain rfl := List.mem_singleton.1 hp'
            simp only at h1 h2
            by_cases hji : j = i
            · subst hji; exact hb
            · exact ih.win p (by rw [hl]; simp) j h1 (by omega)
        · rw [e]
          intro _
          exact ⟨l, _, rfl, by simp only; omega⟩
      | false =>
        rw [hp] at e
        simp only [Bool.false_eq_true, if_false] at e
        constructor
        · rw [e]
          intro p' hp' j h1 h2
          rcases List.mem_append.1 hp' with hp' | hp'
          · exact ih.win p' hp' j h1 h2
          · obtain rfl := List.mem_singleton.1 hp'
            simp only [hno] at h1 h2
            obtain rfl : j = i := by omega
            exact hb
        · rw [e]
          intro _
          exact ⟨_, _, rfl, by simp only [hno]; omega⟩
theorem spans_win {at_ : Int} {fr : List Bool} : ∀ p ∈ spans at_ fr, ∀ j : Nat, p.1 ≤ at_ + j → at_ + j < p.1 + p.2 → fr[j]? = some true := by
  rw [← spS_all]
  exact (spWin at_ fr fr.length (Nat.le_refl _)).win
theorem allB_win {at_ : Int} {fr : List Bool} {a l : Int} {v : Bool} (h1 : 1 ≤ l) (h2 : at_ ≤ a) (h3 : a + l ≤ at_ + fr.length) (hw : ∀ j : Nat, a ≤ at_ + j → at_ + j < a + l → fr[j]? = some v) : allB at_ fr a l v = true := by
  have e1 : (decide (1 ≤ l) && decide (l ≤ (fr.length : Int)) && decide (at_ ≤ a) && decide (a - at_ ≤ (fr.length : Int) - l)) = true := by simp; omega
  unfold allB
  rw [e1, Bool.true_and, Bool.not_eq_true', ← Bool.not_eq_true, List.contains_iff_mem]
  intro hm
  obtain ⟨j, hj⟩ := List.getElem?_of_mem hm
  rw [List.getElem?_take] at hj
  split at hj
  · next hlt =>
    rw [List.getElem?_drop, hw ((a - at_).toNat + j) (by omega) (by omega)] at hj
    cases v <;> cases hj
  · cases hj
theorem takP_mem {at_ : Int} {fr : List Bool} {n : Int} {p : Int × Int} (h : takP at_ fr n = some p) : p ∈ spans at_ fr ∧ 1 ≤ n ∧ n ≤ p.2 := by
  unfold takP at h
  refine ⟨List.mem_of_find?_eq_some h, ?_⟩
  have := List.find?_some h
  simpa using this
theorem takV_some {at_ : Int} {fr : List Bool} {n : Int} {p : Int × Int} (h : takP at_ fr n = some p) : takV at_ fr n = .tup [.agg [.int .i64 p.1, .int .i64 n], .bool true] := by
  obtain ⟨h1, h2, h3⟩ := takP_mem h
  have ok := spOk at_ fr fr.length (Nat.le_refl _)
  have w := spans_win p h1
  have : allB at_ fr p.1 n true = true := by
    rw [← spS_all] at h1
    have b := ok.bd p h1
    have hend : p.1 + n ≤ at_ + fr.length := by
      have := w (p.1 + n - 1 - at_).toNat (by omega) (by omega)
      have := (List.getElem?_eq_some_iff.1 this).1
      omega
    exact allB_win h2 b.1 hend fun j hj1 hj2 => w j hj1 (by omega)
  unfold takV
  rw [h]
  simp only [this]
theorem takV_none {at_ : Int} {fr : List Bool} {n : Int} (h : takP at_ fr n = none) : takV at_ fr n = .tup [.agg [.int .i64 0, .int .i64 0], .bool false] := by
  unfold takV
  rw [h]

/-! ### rows one behind the other -/
theorem fold_false {at_ : Int} : ∀ (k : Nat) (acc : List (Int × Int)) (j : Nat) (p : Bool), (List.replicate (k + 1) false).foldl (stepS at_) (acc, j, p) = (acc, j + (k + 1), false)
  | 0, acc, j, p => rfl
  | k + 1, acc, j, p => by
    rw [List.replicate_succ, List.foldl_cons]
    have : stepS at_ (acc, j, p) false = (acc, j + 1, false) := rfl
    rw [this, fold_false k]
    simp only [Prod.mk.injEq, true_and, and_true]
    omega
theorem fold_true' {at_ : Int} : ∀ (k : Nat) (acc : List (Int × Int)) (j : Nat) (a n : Int), (List.replicate k true).foldl (stepS at_) (acc ++ [(a, n)], j, true) = (acc ++ [(a, n + k)], j + k, true)
  | 0, acc, j, a, n => by simp
  | k + 1, acc, j, a, n => by
    rw [List.replicate_succ, List.foldl_cons]
    have : stepS at_ (acc ++ [(a, n)], j, true) true = (acc ++ [(a, n + 1)], j + 1, true) := by simp only [stepS, if_true, bump_snoc]
    rw [this, fold_true' k]
    simp only [Prod.mk.injEq, and_true, List.append_cancel_left_eq, List.cons.injEq, true_and]
    omega
theorem fold_true {at_ : Int} (k : Nat) (acc : List (Int × Int)) (j : Nat) : (List.replicate (k + 1) true).foldl (stepS at_) (acc, j, false) = (acc ++ [(at_ + j, (k : Int) + 1)], j + (k + 1), true) := by
  rw [List.replicate_succ, List.foldl_cons]
  have : stepS at_ (acc, j, false) true = (acc ++ [(at_ + j, 1)], j + 1, true) := rfl
  rw [this, fold_true']
  simp only [Prod.mk.injEq, and_true, List.append_cancel_left_eq, List.cons.injEq, true_and]
  omega
def runF (i m : Nat) : List Bool := List.replicate i false ++ List.replicate m true
theorem runF_len {i m : Nat} : (runF i m).length = i + m := by simp [runF]
theorem fold_zero {at_ : Int} (i : Nat) : (List.replicate i false).foldl (stepS at_) ([], 0, false) = ([], i, false) := by
  cases i with
  | zero => rfl
  | succ i => rw [fold_false]; simp
theorem spans_run {at_ : Int} {i m : Nat} : spans at_ (runF i (m + 1)) = [(at_ + i, (m : Int) + 1)] := by
  unfold spans runF
  rw [List.foldl_append, fold_zero, fold_true]
  rfl
theorem spans_run0 {at_ : Int} {i : Nat} : spans at_ (runF i 0) = [] := by
  unfold spans runF
  rw [List.foldl_append, fold_zero]
  rfl
theorem runF_split {i n m : Nat} : runF i (n + m) = List.replicate i false ++ List.replicate n true ++ List.replicate m true := by
  unfold runF
  rw [← List.replicate_append_replicate, List.append_assoc]
theorem setF_mid {at_ : Int} {A B : List Bool} {n : Nat} {v : Bool} (hn : 0 < n) : setF at_ (A ++ List.replicate n (!v) ++ B) (at_ + A.length) n v = A ++ List.replicate n v ++ B := by
  have ha : allB at_ (A ++ List.replicate n (!v) ++ B) (at_ + A.length) n (!v) = true := by
    refine allB_win (by omega) (by omega) (by simp; omega) fun j h1 h2 => ?_
    rw [List.append_assoc, List.getElem?_append_right (by omega), List.getElem?_append_left (by simp; omega), List.getElem?_replicate_of_lt (by omega)]
  unfold setF
  rw [ha, if_pos rfl]
  unfold fillR
  have e1 : (at_ + (A.length : Int) - at_).toNat = A.length := by omega
  have t1 : (A ++ List.replicate n (!v) ++ B).take A.length = A := by rw [List.append_assoc]; exact List.take_left' rfl
  have t2 : (A ++ List.replicate n (!v) ++ B).drop (A.length + n) = B := List.drop_left' (by simp)
  rw [e1, Int.toNat_natCast, t1, t2]
theorem take_run {at_ : Int} {i m n : Nat} (h1 : 1 ≤ n) : takV at_ (runF i (n + m)) n = .tup [.agg [.int .i64 (at_ + i), .int .i64 n], .bool true] ∧ takF at_ (runF i (n + m)) n = runF (i + n) m := by
  obtain ⟨k, hk⟩ : ∃ k, n + m = k + 1 := ⟨n + m - 1, by omega⟩
  have ht : takP at_ (runF i (n + m)) n = some (at_ + i, (k : Int) + 1) := by
    unfold takP
    rw [hk, spans_run]
    rw [List.find?_cons_of_pos (by simp; omega)]
  refine ⟨takV_some ht, ?_⟩
  unfold takF
  rw [ht]
  simp only
  rw [runF_split]
  have := setF_mid (at_ := at_) (A := List.replicate i false) (B := List.replicate m true) (n := n) (v := false) h1
  rw [List.length_replicate] at this
  rw [show (!false) = true from rfl] at this
  rw [this]
  unfold runF
  rw [List.replicate_append_replicate]
theorem take_run_no {at_ : Int} {i m n : Nat} (h1 : m < n) : takV at_ (runF i m) n = .tup [.agg [.int .i64 0, .int .i64 0], .bool false] ∧ takF at_ (runF i m) n = runF i m := by
  have ht : takP at_ (runF i m) n = none := by
    unfold takP
    cases m with
    | zero => rw [spans_run0]; rfl
    | succ m =>
      rw [spans_run, List.find?_cons_of_neg (by simp; omega)]
      rfl
  refine ⟨takV_none ht, ?_⟩
  unfold takF
  rw [ht]
theorem free_run {at_ : Int} {i m : Nat} : sumL (spans at_ (runF i m)) = m := by
  cases m with
  | zero => rw [spans_run0]; rfl
  | succ m => rw [spans_run]; simp [sumL]
end Go.Proofs.Ytpdgnenffiphcaa
