/-
  MatchDeep.
-/
import Derived.Test.YtkjfflabapeidaaM7
import Derived.Test.YtkjfflabapeidaaCodeT
namespace Go.Proofs.Ytkjfflabapeidaa
open Go.RowKit Go.ChangeShapes Go.WideShapes Go.ChangeAt Go.Deep
set_option linter.unusedSimpArgs false
set_option linter.unusedVariables false
attribute [local irreducible] SW RS RD AThen ABlock

def opA (n : Nat) : List Int := (List.range n).map (fun i => (2 : Int) + (i % 2 : Nat))
theorem opA_next (n : Nat) : opA (n + 1) = opA n ++ [(2 : Int) + (n % 2 : Nat)] := by unfold opA; rw [List.range_succ, List.map_append]; rfl
theorem opA_len (n : Nat) : (opA n).length = n := by simp [opA]
theorem opsOf_ins (ops : List Int) : opsOf (ops.map insO) = ops := by
  unfold opsOf; rw [List.map_map]
  conv => rhs; rw [← List.map_id ops]
  rfl
theorem opt_false {p q : Bool} (h : p = q) : (p == q) = true := by subst h; cases p <;> rfl
set_option maxRecDepth 100000 in
theorem law_matchDeep (n pad : Int) : SCall Try.prog 9 [.int .i64 n, .int .i64 pad] [] (fun x _ => x = .bool true) := by
  refine scall_of (n := 85) (ks := [0, 1, 4, 5, 6, 7, 8, 9, 10, 11, 14, 28, 31, 43, 52]) Try.func9 rfl rfl (Nat.le_of_ble_eq_true rfl) ?_
  (refine ctlT ?_)
  refine rgT ?_
  refine lo (lop_assign (E rfl)) rfl ?_
  refine leT ?_
  (refine ctlT ?_)
  refine rgT ?_
  refine puA Try.call29 law_begun6 rfl pargsT nofT ?_
  refine lo (lop_assign (E rfl)) rfl ?_
  refine leT ?_
  (refine ctlT ?_)
  refine rgT ?_
  refine lo (lop_move (E rfl)) rfl ?_
  refine lo (lop_not (E rfl)) rfl ?_
  refine leT ?_
  (refine ctlT ?_)
  refine rgT ?_
  refine lo (lop_move (E rfl)) rfl ?_
  refine lo (lop_lss (E rfl) (E rfl)) rfl ?_
  refine lo (lop_move (E rfl)) rfl ?_
  first | refine ln rfl rfl rfl rfl ?_ | (refine gy rfl rfl ?_; refine lo (lop_move (E rfl)) rfl ?_) | refine lg rfl rfl (lop_move (E rfl)) rfl ?_
  first | refine ln rfl rfl rfl rfl ?_ | (refine gy rfl rfl ?_; refine lo (lop_gtr (by first | exact W rfl id | exact E rfl) (E rfl)) rfl ?_) | refine lg rfl rfl (lop_gtr (by first | exact W rfl id | exact E rfl) (E rfl)) rfl ?_
  first | refine lo (lop_pick_t (E rfl) (E rfl)) rfl ?_ | refine lo (lop_pick_f (E rfl) (by first | exact W rfl (by simp) | exact E rfl)) rfl ?_ | refine lo (lop_pick (E rfl) (E rfl) (by first | exact W rfl (by simp) | exact E rfl)) rfl ?_
  refine lo (lop_move (E rfl)) rfl ?_
  first | refine ln rfl rfl rfl rfl ?_ | (refine gy rfl rfl ?_; refine lo (lop_move (E rfl)) rfl ?_) | refine lg rfl rfl (lop_move (E rfl)) rfl ?_
  first | refine ln rfl rfl rfl rfl ?_ | (refine gy rfl rfl ?_; refine lo (lop_lss (by first | exact W rfl id | exact E rfl) (E rfl)) rfl ?_) | refine lg rfl rfl (lop_lss (by first | exact W rfl id | exact E rfl) (E rfl)) rfl ?_
  first | refine lo (lop_pick_t (E rfl) (E rfl)) rfl ?_ | refine lo (lop_pick_f (E rfl) (by first | exact W rfl (by simp) | exact E rfl)) rfl ?_ | refine lo (lop_pick (E rfl) (E rfl) (by first | exact W rfl (by simp) | exact E rfl)) rfl ?_
  refine lo (lop_move (E rfl)) rfl ?_
  first | refine ln rfl rfl rfl rfl ?_ | (refine gy rfl rfl ?_; refine lo (lop_move (E rfl)) rfl ?_) | refine lg rfl rfl (lop_move (E rfl)) rfl ?_
  first | refine ln rfl rfl rfl rfl ?_ | (refine gy rfl rfl ?_; refine lo (lop_gtr (by first | exact W rfl id | exact E rfl) (E rfl)) rfl ?_) | refine lg rfl rfl (lop_gtr (by first | exact W rfl id | exact E rfl) (E rfl)) rfl ?_
  first | refine lo (lop_pick_t (E rfl) (E rfl)) rfl ?_ | refine lo (lop_pick_f (E rfl) (by first | exact W rfl (by simp) | exact E rfl)) rfl ?_ | refine lo (lop_pick (E rfl) (E rfl) (by first | exact W rfl (by simp) | exact E rfl)) rfl ?_
  refine leT ?_
  (refine ctlT ?_)
  refine sw_cond rfl (fun g4 => ?_) (fun g4 => ?_)
  · (refine ctlT ?_)
    refine rgT ?_
    refine lo (lop_assign (E rfl)) rfl ?_
    refine leT ?_
    (refine ctlT ?_)
    (apply aend; (exact resT))
    · rfl
    · (exact stleT)
  obtain ⟨h1, h2, h3, h4⟩ : 0 ≤ n ∧ n ≤ 60 ∧ 0 ≤ pad ∧ pad ≤ 320 := by replace g4 := bT g4; omega
  obtain ⟨m, rfl⟩ := Int.eq_ofNat_of_zero_le h1
  obtain ⟨p, rfl⟩ := Int.eq_ofNat_of_zero_le h3
  (refine ctlT ?_)
  refine rgT ?_
  refine lo (lop_assign (E rfl)) rfl ?_
  refine leT ?_
  (refine ctlT ?_)
  refine rgT ?_
  refine lo (lop_assign (E rfl)) rfl ?_
  refine leT ?_
  (refine ctlT ?_)
  refine sw_virt 6 24 4 (by decide) rfl (by decide) (freshT fun q0 hq0 => ?_); (repeat (rcases hq0 with ⟨_, hq0⟩))
  refine lp (β := Nat × Nat) (fun b => ⟨[(0, .int .i64 m), (1, .int .i64 p), (6, .own b.1 0 (opA b.2).length), (7, .int .i64 b.2)], [(b.1, .arr 24 4 ((opA b.2).map encO))]⟩) (fun b => b.2 ≤ m) (fun b => m - b.2) (q0, 0) sgoT (Nat.zero_le _) ?_
  rintro ⟨q, i⟩ hi
  have hal := opA_len i
  dsimp only at hi ⊢
  (refine ctlT ?_)
  refine rgT ?_
  refine lo (lop_move (E rfl)) rfl ?_
  refine lo (lop_move (E rfl)) rfl ?_
  refine lo (lop_lss (E rfl) (E rfl)) rfl ?_
  refine leT ?_
  (refine ctlT ?_)
  refine sw_cond rfl (fun g8 => ?_) (fun g8 => ?_)
  · have hlt : i < m := by simp at g8; omega
    have hrm : (i : Int).tmod 2 = ((i % 2 : Nat) : Int) := by rw [Int.tmod_eq_emod_of_nonneg (by omega)]; simp
    (refine ctlT ?_)
    refine rgT ?_
    refine lo (lop_move (E rfl)) rfl ?_
    refine lo (lop_move (E rfl)) rfl ?_
    refine z22 ?_
    rw [hrm]
    refine z17 ?_
    refine z93 ?_
    refine z1 ?_; refine freshT fun r39 h39 => ?_; (repeat (rcases h39 with ⟨_, h39⟩))
    refine apA ((opA i ++ [(2 : Int) + (i % 2 : Nat)]).map encO) (opA i ++ [(2 : Int) + (i % 2 : Nat)]).length ?_
    refine apnT fun r40 h40 => ?_; (repeat (rcases h40 with ⟨_, h40⟩))
    refine lo (lop_assign (E rfl)) rfl ?_
    refine leT ?_
    (refine ctlT ?_)
    refine rgT ?_
    refine lo (lop_move (E rfl)) rfl ?_
    refine z17 ?_
    refine lo (lop_assign (E rfl)) rfl ?_
    refine leT ?_
    (refine ctlT ?_)
    refine ⟨(r40, i + 1), hlt, by show m - (i + 1) < m - i; omega, ?_⟩
    dsimp only
    rw [opA_next]
    (exact sgoT)
  obtain rfl : i = m := by simp at g8; omega
  have hml := opA_len i
  clear hal
  (refine ctlT ?_)
  refine rgT ?_
  refine lo (lop_assign (E rfl)) rfl ?_
  refine leT ?_
  (refine ctlT ?_)
  refine lp (β := Nat × Nat) (fun b => ⟨[(0, .int .i64 i), (1, .int .i64 p), (6, .own b.1 0 (opA i ++ List.replicate b.2 1).length), (8, .int .i64 b.2)], [(b.1, .arr 24 4 ((opA i ++ List.replicate b.2 1).map encO))]⟩) (fun b => b.2 ≤ p) (fun b => p - b.2) (q, 0) (by dsimp only; rw [show opA i ++ List.replicate 0 1 = opA i by simp]; (exact sgoT)) (Nat.zero_le _) ?_
  rintro ⟨q1, j⟩ hj
  have hal : (opA i ++ List.replicate j (1 : Int)).length = i + j := by simp [hml]
  dsimp only at hj ⊢
  (refine ctlT ?_)
  refine rgT ?_
  refine lo (lop_move (E rfl)) rfl ?_
  refine lo (lop_move (E rfl)) rfl ?_
  refine lo (lop_lss (E rfl) (E rfl)) rfl ?_
  refine leT ?_
  (refine ctlT ?_)
  refine sw_cond rfl (fun g12 => ?_) (fun g12 => ?_)
  · have hlt : j < p := by simp at g12; omega
    (refine ctlT ?_)
    refine rgT ?_
    refine lo (lop_move (E rfl)) rfl ?_
    refine z93 ?_
    refine z1 ?_; refine freshT fun r48 h48 => ?_; (repeat (rcases h48 with ⟨_, h48⟩))
    refine apA (((opA i ++ List.replicate j 1) ++ [1]).map encO) ((opA i ++ List.replicate j 1) ++ [1]).length ?_
    refine apnT fun r49 h49 => ?_; (repeat (rcases h49 with ⟨_, h49⟩))
    refine lo (lop_assign (E rfl)) rfl ?_
    refine leT ?_
    (refine ctlT ?_)
    refine rgT ?_
    refine lo (lop_move (E rfl)) rfl ?_
    refine z17 ?_
    refine lo (lop_assign (E rfl)) rfl ?_
    refine leT ?_
    (refine ctlT ?_)
    refine ⟨(r49, j + 1), hlt, by show p - (j + 1) < p - j; omega, ?_⟩
    dsimp only
    rw [List.replicate_succ', ← List.append_assoc]
    (exact sgoT)
  obtain rfl : j = p := by simp at g12; omega
  have hpl : (opA i ++ List.replicate j (1 : Int)).length = i + j := by simp [hml]
  clear hal
  (refine ctlT ?_)
  refine rgT ?_
  refine lo (lop_assign (E rfl)) rfl ?_
  refine leT ?_
  (refine ctlT ?_)
  refine lp (β := Nat × Nat) (fun b => ⟨[(0, .int .i64 i), (1, .int .i64 j), (6, .own b.1 0 (opA i ++ List.replicate j 1 ++ List.replicate b.2 11).length), (9, .int .i64 b.2)], [(b.1, .arr 24 4 ((opA i ++ List.replicate j 1 ++ List.replicate b.2 11).map encO))]⟩) (fun b => b.2 ≤ i) (fun b => i - b.2) (q1, 0) (by dsimp only; rw [show opA i ++ List.replicate j 1 ++ List.replicate 0 11 = opA i ++ List.replicate j 1 by simp]; (exact sgoT)) (Nat.zero_le _) ?_
  rintro ⟨q2, k⟩ hk
  have hal : (opA i ++ List.replicate j (1 : Int) ++ List.replicate k 11).length = i + j + k := by simp [hml]; omega
  dsimp only at hk ⊢
  (refine ctlT ?_)
  refine rgT ?_
  refine lo (lop_move (E rfl)) rfl ?_
  refine lo (lop_move (E rfl)) rfl ?_
  refine lo (lop_lss (E rfl) (E rfl)) rfl ?_
  refine leT ?_
  (refine ctlT ?_)
  refine sw_cond rfl (fun g16 => ?_) (fun g16 => ?_)
  · have hlt : k < i := by simp at g16; omega
    (refine ctlT ?_)
    refine rgT ?_
    refine lo (lop_move (E rfl)) rfl ?_
    refine z93 ?_
    refine z1 ?_; refine freshT fun r57 h57 => ?_; (repeat (rcases h57 with ⟨_, h57⟩))
    refine apA (((opA i ++ List.replicate j 1 ++ List.replicate k 11) ++ [11]).map encO) ((opA i ++ List.replicate j 1 ++ List.replicate k 11) ++ [11]).length ?_
    refine apnT fun r58 h58 => ?_; (repeat (rcases h58 with ⟨_, h58⟩))
    refine lo (lop_assign (E rfl)) rfl ?_
    refine leT ?_
    (refine ctlT ?_)
    refine rgT ?_
    refine lo (lop_move (E rfl)) rfl ?_
    refine z17 ?_
    refine lo (lop_assign (E rfl)) rfl ?_
    refine leT ?_
    (refine ctlT ?_)
    refine ⟨(r58, k + 1), hlt, by show i - (k + 1) < i - k; omega, ?_⟩
    dsimp only
    rw [List.replicate_succ', ← List.append_assoc (opA i ++ List.replicate j 1)]
    (exact sgoT)
  obtain rfl : k = i := by simp at g16; omega
  have hdn : opA k ++ List.replicate j 1 ++ List.replicate k 11 = deepN k j := rfl
  rw [hdn] at hal ⊢
  have hok := deep_ok k j
  have hln := @deep_len k j
  refine fzvs (j := 6) rfl sdelT (bor_own sgT (by simp)) ?_
  refine sw_go (sgo_ops (j := 6) (ops := deepN k j) rfl) ?_
  (refine ctlT ?_)
  refine rgT ?_
  refine lo (lop_move (E rfl)) rfl ?_
  refine cw [] Try.call30 (code_match ((deepN k j).map insO) (by simp; omega)) rfl argsleT stleT ?_
  rintro _ σ' ⟨q3, rfl, rfl⟩ h61
  rw [opsOf_ins]
  (apply rs_sto; (exact nflT))
  refine lo (lop_move (E rfl)) rfl ?_
  refine lo (lop_extract (E rfl) rfl) rfl ?_
  refine lo (lop_extract (E rfl) rfl) rfl ?_
  refine lo (lop_assign (E rfl)) rfl ?_
  refine lo (lop_assign (E rfl)) rfl ?_
  refine leT ?_
  (refine ctlT ?_)
  refine fzvs (j := 10) rfl sdelT (bor_own sgT (by simp)) ?_
  have hbl := (blN_ok (deepN k j)).1
  generalize blN (deepN k j) = B at hln hbl ⊢
  generalize okN (deepN k j) = K at hok hln ⊢
  refine rgT ?_
  refine lo (lop_move (E rfl)) rfl ?_
  refine lo (lop_move (E rfl)) rfl ?_
  refine lo (lop_leq (E rfl) (E rfl)) rfl ?_
  refine lo (lop_move (E rfl)) rfl ?_
  first | refine ln rfl rfl rfl rfl ?_ | (refine gy rfl rfl ?_; refine lo (lop_move (E rfl)) rfl ?_) | refine lg rfl rfl (lop_move (E rfl)) rfl ?_
  first | refine ln rfl rfl rfl rfl ?_ | (refine gy rfl rfl ?_; refine lo (lop_mul (E rfl) (by first | exact W rfl id | exact E rfl)) rfl ?_) | refine lg rfl rfl (lop_mul (E rfl) (by first | exact W rfl id | exact E rfl)) rfl ?_
  rw [show IntKind.i64.wrap (2 * (k : Int)) = 2 * (k : Int) by rw [IntKind.wrap_i64]; omega]
  first | refine ln rfl rfl rfl rfl ?_ | (refine gy rfl rfl ?_; refine lo (lop_move (E rfl)) rfl ?_) | refine lg rfl rfl (lop_move (E rfl)) rfl ?_
  first | refine ln rfl rfl rfl rfl ?_ | (refine gy rfl rfl ?_; (first | refine lo (lop_add64 (by first | exact W rfl id | exact E rfl) (by first | exact W rfl id | exact E rfl) (by omega) (by omega)) rfl ?_ | refine lo (lop_add (by first | exact W rfl id | exact E rfl) (by first | exact W rfl id | exact E rfl)) rfl ?_)) | refine lg rfl rfl (lop_add64 (by first | exact W rfl id | exact E rfl) (by first | exact W rfl id | exact E rfl) (by omega) (by omega)) rfl ?_ | refine lg rfl rfl (lop_add64c (by first | exact W rfl id | exact E rfl) (by first | exact W rfl id | exact E rfl) (fun hc => by simp at hc <;> first | omega | (have hov := hov hc; omega))) rfl ?_ | refine lg rfl rfl (lop_add (by first | exact W rfl id | exact E rfl) (by first | exact W rfl id | exact E rfl)) rfl ?_
  first | refine ln rfl rfl rfl rfl ?_ | (refine gy rfl rfl ?_; refine lo (lop_leq (by first | exact W rfl id | exact E rfl) (E rfl)) rfl ?_) | refine lg rfl rfl (lop_leq (by first | exact W rfl id | exact E rfl) (E rfl)) rfl ?_
  refine z68 ?_
  refine lo (lop_beql (E rfl) (E rfl)) rfl ?_
  refine lo (lop_move (E rfl)) rfl ?_
  first | refine ln rfl rfl rfl rfl ?_ | (refine gy rfl rfl ?_; refine lo (lop_move (E rfl)) rfl ?_) | refine lg rfl rfl (lop_move (E rfl)) rfl ?_
  first | refine ln rfl rfl rfl rfl ?_ | (refine gy rfl rfl ?_; refine lo (lop_not (by first | exact W rfl id | exact E rfl)) rfl ?_) | refine lg rfl rfl (lop_not (by first | exact W rfl id | exact E rfl)) rfl ?_
  first | refine ln rfl rfl rfl rfl ?_ | (refine gy rfl rfl ?_; refine lo (lop_move (by first | exact W rfl id | exact E rfl)) rfl ?_) | refine lg rfl rfl (lop_move (by first | exact W rfl id | exact E rfl)) rfl ?_
  first | refine ln rfl rfl rfl rfl ?_ | (refine gy rfl rfl ?_; refine lo (lop_move (E rfl)) rfl ?_) | refine lg rfl rfl (lop_move (E rfl)) rfl ?_ | refine lw rfl rfl (lop_move (E rfl)) rfl ?_ | refine lw rfl rfl (lop_no (v := .bool false)) rfl ?_
  first | refine ln rfl rfl rfl rfl ?_ | (refine gy rfl rfl ?_; (first | refine lo (lop_len_map (by first | exact W rfl id | exact E rfl)) rfl ?_ | refine lo (lop_len_ro (by first | exact W rfl id | exact E rfl)) rfl ?_ | refine lo (lop_len_own (by first | exact W rfl id | exact E rfl)) rfl ?_)) | refine lg rfl rfl (lop_len_map (by first | exact W rfl (by first | exact id | simp) | exact E rfl)) rfl ?_ | refine lg rfl rfl (lop_len_ro (by first | exact W rfl (by first | exact id | simp) | exact E rfl)) rfl ?_ | refine lg rfl rfl (lop_len_own (by first | exact W rfl (by first | exact id | simp) | exact E rfl)) rfl ?_ | refine lw rfl rfl (lop_len_map (by first | exact W rfl (by first | exact id | simp) | exact E rfl)) rfl ?_ | refine lw rfl rfl (lop_len_ro (by first | exact W rfl (by first | exact id | simp) | exact E rfl)) rfl ?_ | refine lw rfl rfl (lop_len_own (by first | exact W rfl (by first | exact id | simp) | exact E rfl)) rfl ?_ | refine lw rfl rfl (lop_no (v := .bool false)) rfl ?_
  first | refine ln rfl rfl rfl rfl ?_ | (refine gy rfl rfl ?_; refine lo (lop_move (E rfl)) rfl ?_) | refine lg rfl rfl (lop_move (E rfl)) rfl ?_ | refine lw rfl rfl (lop_move (E rfl)) rfl ?_ | refine lw rfl rfl (lop_no (v := .bool false)) rfl ?_
  first | refine ln rfl rfl rfl rfl ?_ | (refine gy rfl rfl ?_; refine lo (lop_eql (by first | exact W rfl id | exact E rfl) (by first | exact W rfl id | exact E rfl)) rfl ?_) | refine lg rfl rfl (lop_eql (by first | exact W rfl (by first | exact id | simp) | exact E rfl) (by first | exact W rfl (by first | exact id | simp) | exact E rfl)) rfl ?_ | refine lw rfl rfl (lop_eql (by first | exact W rfl (by first | exact id | simp) | exact E rfl) (by first | exact W rfl (by first | exact id | simp) | exact E rfl)) rfl ?_ | refine lw rfl rfl (lop_no (v := .bool false)) rfl ?_
  first | refine ln rfl rfl rfl rfl ?_ | (refine gy rfl rfl ?_; (first | refine lo (lop_pick_t (by first | exact W rfl id | exact E rfl) (E rfl)) rfl ?_ | refine lo (lop_pick_f (by first | exact W rfl id | exact E rfl) (by first | exact W rfl (by simp) | exact E rfl)) rfl ?_ | refine lo (lop_pick (by first | exact W rfl id | exact E rfl) (E rfl) (by first | exact W rfl (by simp) | exact E rfl)) rfl ?_)) | refine lg rfl rfl (lop_pick_t (by first | exact W rfl id | exact E rfl) (E rfl)) rfl ?_ | refine lg rfl rfl (lop_pick_f (by first | exact W rfl id | exact E rfl) (by first | exact W rfl (by simp) | exact E rfl)) rfl ?_ | refine lg rfl rfl (lop_pick (by first | exact W rfl id | exact E rfl) (E rfl) (by first | exact W rfl (by simp) | exact E rfl)) rfl ?_
  refine z68 ?_
  refine lo (lop_assign (E rfl)) rfl ?_
  refine leT ?_
  (refine ctlT ?_)
  (apply aend; (exact resT))
  · refine congrArg AV.bool ?_
    cases K with
    | true =>
      have hh := of_decide_eq_true hok.symm
      rw [decide_eq_true (show (k : Int) ≤ 40 by omega), decide_eq_true (show 2 * (k : Int) + j ≤ 300 by omega), hln rfl]
      simp
    | false =>
      have hh := of_decide_eq_false hok.symm
      by_cases h40 : (k : Int) ≤ 40
      · rw [decide_eq_true h40, decide_eq_false (show ¬ 2 * (k : Int) + j ≤ 300 by omega)]; rfl
      · rw [decide_eq_false h40]; rfl
  · (exact stleT)
end Go.Proofs.Ytkjfflabapeidaa
