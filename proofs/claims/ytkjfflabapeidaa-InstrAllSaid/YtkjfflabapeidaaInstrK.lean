/-
  Plain: the two Gets answer alike.
-/
import Derived.Test.YtkjfflabapeidaaInstrJ
namespace Go.Proofs.Ytkjfflabapeidaa
open Go.RowKit Go.ChangeShapes Go.WideShapes Go.ChangeAt Go.Deep
set_option linter.unusedSimpArgs false
set_option linter.unusedVariables false

theorem rdU_err {l : List Nat} {lim : Int} {n : Nat} {e : Int} (h : (e != 0) = true) : rdU l lim n e = (0, n, e) := by unfold rdU; rw [if_pos h]
theorem ag_U (l : List Nat) (lim : Int) (n : Nat) (e : Int) : (rfU l lim n e).2.2 = (rdU l lim n e).2.2 ∧ ((rdU l lim n e).2.2 = 0 → rfU l lim n e = rdU l lim n e) := by
  by_cases he : (e != 0) = true
  · rw [rfU_err he, rdU_err he]; exact ⟨rfl, fun _ => rfl⟩
  · unfold rfU rdU
    rw [if_neg he, if_neg he]
    generalize (getU (l.drop n)).2.2 = g
    generalize decide (lim < ((getU (l.drop n)).1 : Int)) = b
    by_cases hg : g = 0
    · subst hg
      cases b <;> simp
    · have h1 : (g == 0) = false := by simpa using hg
      have h2 : (g != 0) = true := by simpa using hg
      simp [h1, h2, hg]
theorem ag_L (l : List Nat) : ∀ (m n : Nat) (e : Int), (rfL l m n e).2.2 = (rdL l m n e).2.2 ∧ ((rdL l m n e).2.2 = 0 → rfL l m n e = rdL l m n e)
  | 0, n, e => ⟨rfl, fun _ => rfl⟩
  | m + 1, n, e => by
    obtain ⟨i1, i2⟩ := ag_L l m n e
    rw [rfL, rdL]
    by_cases h0 : (rdL l m n e).2.2 = 0
    · rw [i2 h0]
      obtain ⟨k1, k2⟩ := ag_U l 1000 (rdL l m n e).2.1 (rdL l m n e).2.2
      refine ⟨k1, fun h => ?_⟩
      dsimp only at h ⊢
      rw [k2 h]
    · have h2 : ((rdL l m n e).2.2 != 0) = true := by simpa using h0
      have h3 : ((rfL l m n e).2.2 != 0) = true := by rw [i1]; exact h2
      rw [rdU_err h2, rfU_err h3]
      dsimp only
      exact ⟨i1, fun h => absurd h h0⟩
theorem fin_err {x y : Ins} {n m : Nat} {e : Int} (h : e ≠ 0) : fin x n e = fin y m e := by
  unfold fin
  rw [if_pos (by simpa using h), if_pos (by simpa using h)]
theorem rdB_err {l : List Nat} {n : Nat} {e : Int} (h : e ≠ 0) : rdB l n e = (0, n, e) := by unfold rdB; rw [if_pos (by simpa using h)]
theorem rdZ_err {l : List Nat} {n : Nat} {e : Int} (h : e ≠ 0) : rdZ l n e = (n, e) := by unfold rdZ; rw [rdB_err h, if_neg (by simp)]
theorem kindI_eq (c : Nat) : kindI c = if c = 64 then 0 else if c = 127 then 1 else if c = 126 then 2 else -1 := by
  by_cases h1 : c = 64
  · subst h1; decide
  by_cases h2 : c = 127
  · subst h2; decide
  by_cases h3 : c = 126
  · subst h3; decide
  rw [if_neg h1, if_neg h2, if_neg h3]
  unfold kindI idxN
  have : ([64, 127, 126] : List Int).findIdx? (· == (c : Int)) = none := by
    rw [List.findIdx?_eq_none_iff]
    intro x hx
    simp at hx
    rcases hx with rfl | rfl | rfl <;> simp <;> omega
  rw [this]
theorem one_K (l : List Nat) (n : Nat) (e : Int) : rfK l n e = rdK l n e := by
  unfold rfK rdK
  rw [kindI_eq]
  generalize (rdB l n e).1 = c
  generalize (rdB l n e).2.1 = n1
  generalize (rdB l n e).2.2 = e1
  by_cases h1 : c = 64
  · subst h1; simp
  by_cases h2 : c = 127
  · subst h2; simp
  by_cases h3 : c = 126
  · subst h3; simp
  have k1 : ((c : Int) == 64) = false := by simp; omega
  have k2 : ((c : Int) == 127) = false := by simp; omega
  have k3 : ((c : Int) == 126) = false := by simp; omega
  simp [h1, h2, h3, k1, k2, k3]
theorem fin_U {op b : Int} {L : List Int} (l : List Nat) (lim : Int) (n : Nat) (e : Int) : fin ⟨op, (rfU l lim n e).1, b, L⟩ (rfU l lim n e).2.1 (rfU l lim n e).2.2 = fin ⟨op, (rdU l lim n e).1, b, L⟩ (rdU l lim n e).2.1 (rdU l lim n e).2.2 := by
  obtain ⟨h1, h2⟩ := ag_U l lim n e
  by_cases h : (rdU l lim n e).2.2 = 0
  · rw [h2 h]
  · rw [h1]; exact fin_err h
theorem rdL_err (l : List Nat) (n : Nat) (e : Int) (h : (e != 0) = true) : ∀ m, (rdL l m n e).2 = (n, e)
  | 0 => rfl
  | m + 1 => by
    rw [rdL]
    show (rdU l 1000 (rdL l m n e).2.1 (rdL l m n e).2.2).2 = _
    rw [rdL_err l n e h m, rdU_err h]
theorem one_F (l : List Nat) (op : Int) (n : Nat) : getF l op n 0 = getT l op n 0 := by
  unfold getF getT
  rw [one_K]
  split
  · rfl
  split
  · exact fin_U l 1000 n 0
  split
  · obtain ⟨h1, h2⟩ := ag_U l 1000 n 0
    by_cases h : (rdU l 1000 n 0).2.2 = 0
    · rw [h2 h]
    · rw [h1, rdZ_err h, rdZ_err h]; exact fin_err h
  split
  · dsimp only
    obtain ⟨h1, h2⟩ := ag_U l 50 n 0
    by_cases h : (rdU l 50 n 0).2.2 = 0
    · rw [h2 h]
      generalize rdU l 50 n 0 = u
      obtain ⟨k1, k2⟩ := ag_L l u.1 u.2.1 u.2.2
      by_cases hk : (rdL l u.1 u.2.1 u.2.2).2.2 = 0
      · rw [k2 hk]; exact fin_U l 1000 _ _
      · have e1 : ((rdL l u.1 u.2.1 u.2.2).2.2 != 0) = true := by simpa using hk
        rw [rfU_err (by rw [k1]; exact e1), rdU_err e1]
        dsimp only
        rw [k1]
        exact fin_err hk
    · have e1 : ((rdU l 50 n 0).2.2 != 0) = true := by simpa using h
      have e2 : ((rfU l 50 n 0).2.2 != 0) = true := by rw [h1]; exact e1
      have k1 := rfL_err (l := l) (n := (rfU l 50 n 0).2.1) (e := (rfU l 50 n 0).2.2) (Nat.zero_le (rfU l 50 n 0).1) e2
      have k2 := rdL_err l (rdU l 50 n 0).2.1 (rdU l 50 n 0).2.2 e1 (rdU l 50 n 0).1
      rw [rfL] at k1
      have k3 : rfU l 1000 (rfL l (rfU l 50 n 0).1 (rfU l 50 n 0).2.1 (rfU l 50 n 0).2.2).2.1 (rfL l (rfU l 50 n 0).1 (rfU l 50 n 0).2.1 (rfU l 50 n 0).2.2).2.2 = (0, (rfU l 50 n 0).2.1, (rfU l 50 n 0).2.2) := by rw [k1]; exact rfU_err e2
      have k4 : rdU l 1000 (rdL l (rdU l 50 n 0).1 (rdU l 50 n 0).2.1 (rdU l 50 n 0).2.2).2.1 (rdL l (rdU l 50 n 0).1 (rdU l 50 n 0).2.1 (rdU l 50 n 0).2.2).2.2 = (0, (rdU l 50 n 0).2.1, (rdU l 50 n 0).2.2) := by rw [k2]; exact rdU_err e1
      rw [k3, k4]
      dsimp only
      rw [h1]
      exact fin_err h
  split
  · dsimp only
    obtain ⟨h1, h2⟩ := ag_U l 3 n 0
    by_cases h : (rdU l 3 n 0).2.2 = 0
    · rw [h2 h]
      generalize rdU l 3 n 0 = u
      obtain ⟨k1, k2⟩ := ag_U l 4294967295 u.2.1 u.2.2
      by_cases hk : (rdU l 4294967295 u.2.1 u.2.2).2.2 = 0
      · rw [k2 hk]
      · rw [k1]; exact fin_err hk
    · have e1 : ((rdU l 3 n 0).2.2 != 0) = true := by simpa using h
      rw [rfU_err (l := l) (lim := 4294967295) (n := (rfU l 3 n 0).2.1) (e := (rfU l 3 n 0).2.2) (by rw [h1]; exact e1), rdU_err (l := l) (lim := 4294967295) (n := (rdU l 3 n 0).2.1) (e := (rdU l 3 n 0).2.2) e1]
      dsimp only
      rw [h1]
      exact fin_err h
  split
  · rfl
  split
  · rfl
  split
  · rfl
  · rfl
theorem rdB0 (l : List Nat) : (rdB l 0 0).2.2 = 0 ∨ (rdB l 0 0).1 = 0 ∧ (rdB l 0 0).2.2 = 2 := by
  unfold rdB
  rw [if_neg (by simp)]
  split
  · exact .inr ⟨rfl, rfl⟩
  · exact .inl rfl
/-- the two Gets answer alike -/
theorem getR_eq (l : List Nat) : getR l = getP l := by
  unfold getR getP
  have h := rdB0 l
  generalize rdB l 0 0 = b at h ⊢
  obtain ⟨c, n, e⟩ := b
  dsimp only at h ⊢
  rcases h with rfl | ⟨rfl, rfl⟩
  · rw [one_F]
    by_cases hf : (formN (c : Int) == 0) = true
    · simp [hf]
    · simp [hf]
  · rfl
end Go.Proofs.Ytkjfflabapeidaa
