/-
  Plain laws of free rows: the first that is long enough; a room within a longer row. No program is named here.
-/
import Derived.Test.YtpdgnenffiphcaaExtentI
namespace Go.Proofs.Ytpdgnenffiphcaa
open Go.RowKit Go.ChangeShapes Go.WideShapes Go.ChangeAt Go.Deep
set_option linter.unusedSimpArgs false
set_option linter.unusedVariables false

structure SpCov (at_ : Int) (fr : List Bool) (i : Nat) : Prop where
  sorted : (spS at_ fr i).1.Pairwise (fun p q => p.1 + p.2 < q.1)
  ends : ∀ p ∈ (spS at_ fr i).1, p.1 + p.2 ≤ at_ + i
  before : (spS at_ fr i).2.2 = false → ∀ p ∈ (spS at_ fr i).1, p.1 + p.2 < at_ + i
  cov : ∀ a m : Nat, 1 ≤ m → a + m ≤ i → (∀ j, a ≤ j → j < a + m → fr[j]? = some true) → ∃ p ∈ (spS at_ fr i).1, p.1 ≤ at_ + a ∧ at_ + a + m ≤ p.1 + p.2
  count : sumL (spS at_ fr i).1 = ((fr.take i).count true : Nat)
theorem sumL_app {l : List (Int × Int)} {p : Int × Int} : sumL (l ++ [p]) = sumL l + p.2 := by simp [sumL]
theorem spCov (at_ : Int) (fr : List Bool) : ∀ i, i ≤ fr.length → SpCov at_ fr i
  | 0, _ => ⟨.nil, fun p hp => (by cases hp), fun _ p hp => (by cases hp), fun a m h1 h2 _ => (by omega), rfl⟩
  | i + 1, h => by
    have ih := spCov at_ fr i (by omega)
    have ok := spOk at_ fr i (by omega)
    have wi := spWin at_ fr i (by omega)
    have hb : fr[i]? = some fr[i] := List.getElem?_eq_getElem (by omega)
    have e := spS_succ (at_ := at_) hb
    have hno := ok.no
    have hcnt : (fr.take (i + 1)).count true = (fr.take i).count true + (if fr[i] then 1 else 0) := by
      rw [List.take_add_one, hb, List.count_append]
      cases fr[i] <;> simp
    cases hfr : fr[i] with
    | false =>
      rw [hfr] at e hb hcnt
      simp only [stepS, Bool.false_eq_true, if_false] at e
      have e1 : (spS at_ fr (i + 1)).1 = (spS at_ fr i).1 := by rw [e]
      constructor
      · rw [e1]; exact ih.sorted
      · rw [e1]; intro p hp; have := ih.ends p hp; omega
      · rw [e1]; intro _ p hp; have := ih.ends p hp; omega
      · rw [e1]
        intro a m h1 h2 hw
        by_cases h3 : a + m ≤ i
        · exact ih.cov a m h1 h3 hw
        · have := hw i (by omega) (by omega)
          rw [hb] at this; cases this
      · rw [e1, hcnt, ih.count]; simp
    | true =>
      rw [hfr] at e hb hcnt
      simp only [stepS, if_true] at e
      cases hp : (spS at_ fr i).2.2 with
      | true =>
        obtain ⟨l, p, hl, hlast⟩ := wi.last hp
        rw [hp, hl] at e
        simp only [if_true, bump_snoc] at e
        have e1 : (spS at_ fr (i + 1)).1 = l ++ [(p.1, p.2 + 1)] := by rw [e]
        have hso := ih.sorted
        rw [hl, List.pairwise_append] at hso
        have hpb := ok.bd p (by rw [hl]; simp)
        constructor
        · rw [e1, List.pairwise_append]
          exact ⟨hso.1, List.pairwise_singleton _ _, fun a ha b hb' => by obtain rfl := List.mem_singleton.1 hb'; exact hso.2.2 a ha p (by simp)⟩
        · rw [e1]; intro p' hp'
          rcases List.mem_append.1 hp' with hp' | hp'
          · have := ih.ends p' (by rw [hl]; simp [hp']); omega
          · obtain rfl := List.mem_singleton.1 hp'; simp only; omega
        · rw [e]; intro h; cases h
        · rw [e1]
          intro a m h1 h2 hw
          by_cases h3 : a + m ≤ i
          · obtain ⟨p', hp', h4, h5⟩ := ih.cov a m h1 h3 hw
            rw [hl] at hp'
            rcases List.mem_append.1 hp' with hp' | hp'
            · exact ⟨p', List.mem_append_left _ hp', h4, h5⟩
            · obtain rfl := List.mem_singleton.1 hp'
              exact ⟨_, List.mem_append_right _ (List.mem_singleton.2 rfl), h4, by simp only; omega⟩
          · refine ⟨_, List.mem_append_right _ (List.mem_singleton.2 rfl), ?_, by simp only; omega⟩
            simp only
            by_cases h6 : a = i
            · omega
            · obtain ⟨p', hp', h4, h5⟩ := ih.cov a (i - a) (by omega) (by omega) (fun j hj1 hj2 => hw j hj1 (by omega))
              rw [hl] at hp'
              rcases List.mem_append.1 hp' with hp' | hp'
              · have := hso.2.2 p' hp' p (by simp); omega
              · obtain rfl := List.mem_singleton.1 hp'; exact h4
        · rw [e1, hcnt, sumL_app]
          have := ih.count
          rw [hl, sumL_app] at this
          simp only [if_true]
          omega
      | false =>
        rw [hp] at e
        simp only [Bool.false_eq_true, if_false, hno] at e
        have e1 : (spS at_ fr (i + 1)).1 = (spS at_ fr i).1 ++ [(at_ + (i : Int), 1)] := by rw [e]
        constructor
        · rw [e1, List.pairwise_append]
          exact ⟨ih.sorted, List.pairwise_singleton _ _, fun a ha b hb' => by obtain rfl := List.mem_singleton.1 hb'; exact ih.before hp a ha⟩
        · rw [e1]; intro p' hp'
          rcases List.mem_append.1 hp' with hp' | hp'
          · have := ih.ends p' hp'; omega
          · obtain rfl := List.mem_singleton.1 hp'; simp only; omega
        · rw [e]; intro h; cases h
        · rw [e1]
          intro a m h1 h2 hw
          by_cases h3 : a + m ≤ i
          · obtain ⟨p', hp', h4, h5⟩ := ih.cov a m h1 h3 hw
            exact ⟨p', List.mem_append_left _ hp', h4, h5⟩
          · by_cases h6 : a = i
            · exact ⟨_, List.mem_append_right _ (List.mem_singleton.2 rfl), by simp only; omega, by simp only; omega⟩
            · exfalso
              obtain ⟨i', rfl⟩ : ∃ i', i = i' + 1 := ⟨i - 1, by omega⟩
              have h7 := hw i' (by omega) (by omega)
              rw [spS_prev (by omega)] at hp
              rw [getElem!_pos fr i' (by omega)] at hp
              rw [List.getElem?_eq_getElem (by omega), hp] at h7
              cases h7
        · rw [e1, hcnt, sumL_app, ih.count]
          simp
theorem free_count {at_ : Int} {fr : List Bool} : sumL (spans at_ fr) = (fr.count true : Nat) := by
  have := (spCov at_ fr fr.length (Nat.le_refl _)).count
  rwa [spS_all, List.take_length] at this
/-- n free ones from a on -/
def Win (fr : List Bool) (a n : Nat) : Prop := ∀ j, a ≤ j → j < a + n → fr[j]? = some true
theorem Win.le {fr : List Bool} {a n : Nat} (h : Win fr a n) (hn : 1 ≤ n) : a + n ≤ fr.length := by
  have := h (a + n - 1) (by omega) (by omega)
  have := (List.getElem?_eq_some_iff.1 this).1
  omega
theorem takP_some {at_ : Int} {fr : List Bool} {n : Nat} (hn : 1 ≤ n) {p : Int × Int} (h : takP at_ fr n = some p) : ∃ a : Nat, p.1 = at_ + a ∧ Win fr a n ∧ ∀ b, b < a → ¬ Win fr b n := by
  have cv := spCov at_ fr fr.length (Nat.le_refl _)
  obtain ⟨hm, h1, h2⟩ := takP_mem h
  have hb := (spOk at_ fr fr.length (Nat.le_refl _)).bd p (by rw [spS_all]; exact hm)
  obtain ⟨a, ha⟩ := Int.eq_ofNat_of_zero_le (show 0 ≤ p.1 - at_ by omega)
  refine ⟨a, by omega, fun j h3 h4 => spans_win p hm j (by omega) (by omega), fun b hba hw => ?_⟩
  obtain ⟨p', hp', h5, h6⟩ := cv.cov b n hn (hw.le hn) hw
  rw [spS_all] at hp'
  have hso := cv.sorted
  rw [spS_all] at hso
  unfold takP at h
  obtain ⟨hpr, bs0, bs, hab, hno⟩ := List.find?_eq_some_iff_append.1 h
  rw [hab] at hp' hso
  rcases List.mem_append.1 hp' with hp' | hp'
  · have := hno p' hp'
    simp at this
    omega
  · rcases List.mem_cons.1 hp' with rfl | hp'
    · omega
    · rw [List.pairwise_append] at hso
      have := (List.pairwise_cons.1 hso.2.1).1 p' hp'
      omega
theorem takP_none {at_ : Int} {fr : List Bool} {n : Nat} (hn : 1 ≤ n) (h : takP at_ fr n = none) (a : Nat) : ¬ Win fr a n := by
  intro hw
  have cv := spCov at_ fr fr.length (Nat.le_refl _)
  have ok := spOk at_ fr fr.length (Nat.le_refl _)
  obtain ⟨p', hp', h5, h6⟩ := cv.cov a n hn (hw.le hn) hw
  rw [spS_all] at hp'
  unfold takP at h
  have := List.find?_eq_none.1 h p' hp'
  simp at this
  omega
/-! ### a room within a longer row -/
def longF (a : Nat) (fr : List Bool) (z : Nat) : List Bool := List.replicate a false ++ fr ++ List.replicate z false
theorem fold_shift {a : Nat} : ∀ (l : List Bool) (acc : List (Int × Int)) (j : Nat) (p : Bool), l.foldl (stepS 0) (acc, a + j, p) = ((l.foldl (stepS a) (acc, j, p)).1, a + (l.foldl (stepS a) (acc, j, p)).2.1, (l.foldl (stepS a) (acc, j, p)).2.2)
  | [], _, _, _ => rfl
  | b :: l, acc, j, p => by
    rw [List.foldl_cons, List.foldl_cons]
    have : stepS 0 (acc, a + j, p) b = ((stepS a (acc, j, p) b).1, a + (j + 1), b) := by
      simp only [stepS]
      rw [show (0 : Int) + ((a + j : Nat) : Int) = (a : Int) + j by omega, Nat.add_assoc]
    rw [this, fold_shift l]
    rfl
theorem fold_falses {at_ : Int} (k : Nat) (acc : List (Int × Int)) (j : Nat) (p : Bool) : ((List.replicate k false).foldl (stepS at_) (acc, j, p)).1 = acc := by
  cases k with
  | zero => rfl
  | succ k => rw [fold_false]
theorem spans_long {a : Nat} {fr : List Bool} {z : Nat} : spans 0 (longF a fr z) = spans a fr := by
  unfold spans longF
  rw [List.foldl_append, List.foldl_append, fold_zero]
  have := fold_shift (a := a) fr [] 0 false
  rw [Nat.add_zero] at this
  rw [this, fold_falses]
theorem count_long {a : Nat} {fr : List Bool} {z : Nat} : (longF a fr z).count true = fr.count true := by
  simp [longF, List.count_append, List.count_replicate]
theorem long_at {a : Nat} {fr : List Bool} {z : Nat} {j : Nat} (h : j < fr.length) : (longF a fr z)[a + j]? = fr[j]? := by
  unfold longF
  rw [List.append_assoc, List.getElem?_append_right (by simp), List.length_replicate, List.getElem?_append_left (by omega)]
  congr 1; omega
theorem long_len {a : Nat} {fr : List Bool} {z : Nat} : (longF a fr z).length = a + fr.length + z := by simp [longF]; omega
theorem long_set {a : Nat} {fr : List Bool} {z : Nat} {j : Nat} {v : Bool} (h : j < fr.length) : (longF a fr z).set (a + j) v = longF a (fr.set j v) z := by
  unfold longF
  rw [List.append_assoc, List.set_append_right _ _ (by simp), List.length_replicate, List.set_append_left _ _ (by omega), List.append_assoc]
  congr 3; omega
end Go.Proofs.Ytpdgnenffiphcaa
