/-
  Plain: an instruction's bytes are told as it.
-/
import Derived.Test.YtkjfflabapeidaaInstrK
namespace Go.Proofs.Ytkjfflabapeidaa
open Go.RowKit Go.ChangeShapes Go.WideShapes Go.ChangeAt Go.Deep
set_option linter.unusedSimpArgs false
set_option linter.unusedVariables false

theorem drop_on {l p r : List Nat} {n : Nat} (h : l.drop n = p ++ r) : l.drop (n + p.length) = r := by
  rw [← List.drop_drop, h, List.drop_left]
theorem rdB_at {l r : List Nat} {n b : Nat} (h : l.drop n = b :: r) : rdB l n 0 = (b, n + 1, 0) := by
  have hn : n < l.length := by
    by_cases hc : n < l.length
    · exact hc
    · rw [List.drop_of_length_le (by omega)] at h; cases h
  have hb : l[n]! = b := by
    rw [getElem!_pos l n hn]
    rw [List.drop_eq_getElem_cons hn] at h
    exact (List.cons.inj h).1
  unfold rdB
  rw [if_neg (by simp), if_neg (by simp; omega), hb]
theorem rdZ_at {l r : List Nat} {n : Nat} (h : l.drop n = 0 :: r) : rdZ l n 0 = (n + 1, 0) := by
  unfold rdZ; rw [rdB_at h, if_neg (by simp)]
theorem rdU_at {l r : List Nat} {n v : Nat} {lim : Int} (h : l.drop n = uB v ++ r) (h1 : v < 4294967296) (h2 : (v : Int) ≤ lim) : rdU l lim n 0 = (v, n + (uB v).length, 0) := by
  unfold rdU
  rw [h, getU_uB h1, if_neg (by simp), if_neg (by simp), if_neg (by simp; omega)]
theorem rdS_at {l r : List Nat} {n bits : Nat} (hb : bits = 32 ∨ bits = 64) {v : Int} (h : l.drop n = sB v ++ r) (h1 : -9223372036854775808 ≤ v) (h2 : v ≤ 9223372036854775807) (h3 : bits = 32 → -2147483648 ≤ v ∧ v ≤ 2147483647) : rdS l bits n = (v, n + (sB v).length, 0) := by
  unfold rdS
  rw [h, getS_sB hb h1 h2 h3]
theorem rdL_at {l r : List Nat} {n : Nat} {L : List Int} (h : l.drop n = (L.flatMap fun z => uB z.toNat) ++ r) (hL : ∀ z ∈ L, 0 ≤ z ∧ z ≤ 1000) : ∀ m, m ≤ L.length → rdL l m n 0 = (L.take m, n + ((L.take m).flatMap fun z => uB z.toNat).length, 0)
  | 0, _ => by simp [rdL]
  | m + 1, hm => by
    have ih := rdL_at h hL m (by omega)
    obtain ⟨y, hy⟩ : ∃ y, L[m]? = some y := ⟨_, List.getElem?_eq_getElem (by omega)⟩
    obtain ⟨hy0, hy1⟩ := hL y (List.mem_of_getElem? hy)
    obtain ⟨z, rfl⟩ := Int.eq_ofNat_of_zero_le hy0
    have hd : l.drop (n + ((L.take m).flatMap fun z => uB z.toNat).length) = uB z ++ (((L.drop (m + 1)).flatMap fun z => uB z.toNat) ++ r) := by
      refine drop_on ?_
      rw [h, ← List.append_assoc, ← List.append_assoc]
      congr 1
      have : L = L.take m ++ (z : Int) :: L.drop (m + 1) := by
        rw [List.getElem?_eq_getElem (by omega)] at hy
        rw [← Option.some.inj hy, ← List.drop_eq_getElem_cons (by omega), List.take_append_drop]
      conv => lhs; rw [this]
      simp [List.flatMap_append]
    rw [rdL, ih]
    dsimp only
    rw [rdU_at hd (by omega) hy1, List.take_add_one, hy]
    simp [List.flatMap_append, Nat.add_assoc]
theorem may8 {x : Ins} (h : mayN x = true) (hf : (formN x.op == 8) = true) : -2147483648 ≤ x.a ∧ x.a ≤ 2147483647 := by
  rw [beq_iff_eq] at hf
  simp [mayN, hf, bt2_eq] at h
  omega
theorem may17 {x : Ins} (h : mayN x = true) (hf : (formN x.op == 1 || formN x.op == 7) = true) : x.a = 0 := by
  unfold mayN at h
  split at h
  · cases h
  · first | (rw [if_pos hf] at h; simpa using h) | simpa using h
theorem may_b {x : Ins} (h : mayN x = true) (hf : formN x.op ≠ 6) : x.b = 0 := by
  unfold mayN at h
  split at h
  · cases h
  · next hp => 
    have h6 : (formN x.op != 6) = true := by simpa using hf
    unfold preN at hp
    rw [if_pos h6] at hp
    split at hp
    · simp at hp; exact hp.2
    · simpa using hp
theorem may_l {x : Ins} (h : mayN x = true) (hf : formN x.op ≠ 4) : x.l = [] := by
  unfold mayN at h
  split at h
  · cases h
  · next hp =>
    have h4 : (formN x.op != 4) = true := by simpa using hf
    unfold preN at hp
    rw [if_pos h4] at hp
    split at hp
    · simp at hp
    · next hq => simpa using hq
/-- an instruction's bytes are told as it -/
theorem get_put {x : Ins} (hx : x.Ok) (h : mayN x = true) (rest : List Nat) : getP (putN x ++ rest) = (x, (putN x).length, 0) := by
  have f1 := may_op h
  have f2 := may2 h
  have f3 := may3 h
  have f4 := may4 h
  have f5 := may5 h
  have f6 := may6 h
  have f8 := may8 h
  have f17 := may17 h
  have fb := may_b h
  have fl := may_l h
  have f9 : -9223372036854775808 ≤ x.a ∧ x.a ≤ 9223372036854775807 := ⟨hx.2.2.1, hx.2.2.2.1⟩
  have f0 : (formN x.op == 0) = false := by
    by_cases h0 : formN x.op = 0
    · rw [may_none h0] at h; cases h
    · simpa using h0
  obtain ⟨op, a, b, L⟩ := x
  dsimp only at f1 f2 f3 f4 f5 f6 f8 f9 f17 fb fl f0
  obtain ⟨op, rfl⟩ := Int.eq_ofNat_of_zero_le f1.1
  have hp0 : putN ⟨(op : Int), a, b, L⟩ = op :: putT ⟨(op : Int), a, b, L⟩ := rfl
  obtain ⟨l, hl⟩ : ∃ l, l = putN ⟨(op : Int), a, b, L⟩ ++ rest := ⟨_, rfl⟩
  rw [← hl]
  have hB : rdB l 0 0 = (op, 1, 0) := rdB_at (r := putT ⟨(op : Int), a, b, L⟩ ++ rest) (by rw [hl, hp0]; rfl)
  have h1 : l.drop 1 = putT ⟨(op : Int), a, b, L⟩ ++ rest := by rw [hl, hp0]; rfl
  unfold getP
  rw [hB, hp0]
  dsimp only
  rw [f0]
  simp only [Bool.false_eq_true, if_false, bne_self_eq_false]
  unfold getT
  unfold putT at h1 ⊢
  by_cases g2 : (formN (op : Int) == 2) = true
  · simp only [g2, if_true] at h1 ⊢
    obtain ⟨k1, k2⟩ := f2 g2
    have e2 : formN (op : Int) = 2 := by simpa using g2
    obtain rfl := fb (by omega)
    obtain rfl := fl (by omega)
    have hk : rdK l 1 0 = (a, 2, 0) := by
      unfold rdK
      rw [rdB_at h1, kindI_eq]
      have : a = 0 ∨ a = 1 ∨ a = 2 := by omega
      rcases this with rfl | rfl | rfl <;> rfl
    rw [hk]
    rfl
  simp only [g2, Bool.false_eq_true, if_false] at h1 ⊢
  by_cases g3 : (formN (op : Int) == 3) = true
  · simp only [g3, if_true] at h1 ⊢
    obtain ⟨k1, k2⟩ := f3 g3
    have e2 : formN (op : Int) = 3 := by simpa using g3
    obtain rfl := fb (by omega)
    obtain rfl := fl (by omega)
    obtain ⟨a, rfl⟩ := Int.eq_ofNat_of_zero_le k1
    rw [Int.toNat_natCast] at h1 ⊢
    rw [rdU_at h1 (by omega) k2]
    simp [fin, Nat.add_comm]
  simp only [g3, Bool.false_eq_true, if_false] at h1 ⊢
  by_cases g5 : (formN (op : Int) == 5) = true
  · simp only [g5, if_true] at h1 ⊢
    obtain ⟨k1, k2⟩ := f5 g5
    have e2 : formN (op : Int) = 5 := by simpa using g5
    obtain rfl := fb (by omega)
    obtain rfl := fl (by omega)
    obtain ⟨a, rfl⟩ := Int.eq_ofNat_of_zero_le k1
    rw [Int.toNat_natCast] at h1 ⊢
    rw [List.append_assoc] at h1
    rw [rdU_at h1 (by omega) k2]
    dsimp only
    rw [rdZ_at (drop_on h1)]
    simp [fin]; omega
  simp only [g5, Bool.false_eq_true, if_false] at h1 ⊢
  by_cases g4 : (formN (op : Int) == 4) = true
  · simp only [g4, if_true] at h1 ⊢
    obtain ⟨⟨k1, k2⟩, k3, k4⟩ := f4 g4
    have e2 : formN (op : Int) = 4 := by simpa using g4
    obtain rfl := fb (by omega)
    obtain ⟨a, rfl⟩ := Int.eq_ofNat_of_zero_le k1
    rw [Int.toNat_natCast] at h1 ⊢
    rw [List.append_assoc, List.append_assoc] at h1
    have h2 := drop_on h1
    rw [rdU_at h1 (by omega) (by omega)]
    dsimp only
    rw [rdL_at h2 k4 L.length (Nat.le_refl _), List.take_length]
    dsimp only
    rw [rdU_at (drop_on h2) (by omega) k2]
    simp [fin]; omega
  simp only [g4, Bool.false_eq_true, if_false] at h1 ⊢
  have e4 : formN (op : Int) ≠ 4 := by simpa using g4
  obtain rfl := fl e4
  by_cases g6 : (formN (op : Int) == 6) = true
  · simp only [g6, if_true] at h1 ⊢
    obtain ⟨k1, k2, k3, k4⟩ := f6 g6
    obtain ⟨a, rfl⟩ := Int.eq_ofNat_of_zero_le k1
    obtain ⟨b, rfl⟩ := Int.eq_ofNat_of_zero_le k3
    rw [Int.toNat_natCast, Int.toNat_natCast] at h1 ⊢
    rw [List.append_assoc] at h1
    rw [rdU_at h1 (by omega) k2]
    dsimp only
    rw [rdU_at (drop_on h1) (by omega) k4]
    simp [fin]; omega
  simp only [g6, Bool.false_eq_true, if_false] at h1 ⊢
  have e6 : formN (op : Int) ≠ 6 := by simpa using g6
  obtain rfl := fb e6
  by_cases g7 : (formN (op : Int) == 7) = true
  · simp only [g7, if_true] at h1 ⊢
    obtain rfl := f17 (by rw [g7]; simp)
    rw [rdZ_at h1]
    simp [fin]
  simp only [g7, Bool.false_eq_true, if_false] at h1 ⊢
  by_cases g8 : (formN (op : Int) == 8) = true
  · simp only [g8, Bool.true_or, if_true] at h1 ⊢
    obtain ⟨k1, k2⟩ := f8 g8
    rw [rdS_at (.inl rfl) h1 f9.1 f9.2 (fun _ => ⟨k1, k2⟩)]
    simp [fin, Nat.add_comm]
  simp only [g8, Bool.false_eq_true, if_false] at h1 ⊢
  by_cases g9 : (formN (op : Int) == 9) = true
  · simp only [g9, Bool.or_true, if_true] at h1 ⊢
    rw [rdS_at (.inr rfl) h1 f9.1 f9.2 (fun hc => by cases hc)]
    simp [fin, Nat.add_comm]
  simp only [g9, Bool.or_false, Bool.false_eq_true, if_false] at h1 ⊢
  have ha : a = 0 := by
    by_cases g1 : formN (op : Int) = 1
    · exact f17 (by rw [g1]; rfl)
    · exfalso
      have : mayN ⟨(op : Int), a, 0, []⟩ = false := by
        unfold mayN
        have g1' : (formN (op : Int) == 1) = false := by simpa using g1
        simp [g1', g2, g3, g4, g5, g6, g7, g8, g9]
      rw [this] at h; cases h
  subst ha
  simp [fin]
end Go.Proofs.Ytkjfflabapeidaa
