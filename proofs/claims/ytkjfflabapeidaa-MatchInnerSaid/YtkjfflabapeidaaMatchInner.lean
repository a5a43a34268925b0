/-
  MatchInner.
-/
import Derived.Test.YtkjfflabapeidaaM7
namespace Go.Proofs.Ytkjfflabapeidaa
open Go.RowKit Go.ChangeShapes Go.WideShapes Go.ChangeAt Go.Deep
set_option linter.unusedSimpArgs false
set_option linter.unusedVariables false
attribute [local irreducible] SW RS RD AThen ABlock

theorem bodyN_le (l : List Ins) (n : Nat) : (bodyN l n).length ≤ n := by unfold bodyN; simp; omega
def slI (L : List Ins) (i k : Nat) : List Ins := (L.drop i).take (k - i)
theorem slI_ops {L : List Ins} {i k : Nat} : opsOf (slI L i k) = sl (opsOf L) i k := by
  unfold opsOf slI sl
  rw [List.map_take, List.map_drop, List.drop_take]
theorem slI_len {L : List Ins} {i k : Nat} : (slI L i k).length ≤ L.length := by unfold slI; simp; omega
theorem take_mid {L : List Ins} {i k : Nat} : List.take (k - i) (List.drop i (L.map (iv .any))) = (slI L i k).map (iv .any) := by
  unfold slI; rw [List.map_take, List.map_drop]
theorem take_preI {L : List Ins} {k : Nat} : List.take (k - 0) (List.drop 0 (L.map (iv .any))) = (L.take k).map (iv .any) := by simp [List.map_take]
theorem take_subI {L : List Ins} {k : Nat} : List.take ((L.map (iv .any)).length - k) (List.drop k (L.map (iv .any))) = (L.drop k).map (iv .any) := by
  rw [List.map_drop]; exact List.take_of_length_le (by simp)
theorem opsOf_cut {L : List Ins} {i k : Nat} : opsOf (L.take i ++ L.drop k) = (opsOf L).take i ++ (opsOf L).drop k := by
  unfold opsOf; rw [List.map_append, List.map_take, List.map_drop]
theorem blN_none {ops : List Int} (h : okN ops = false) : blN ops = [] := by
  unfold okN at h; unfold blN
  cases hm : matchN ops with
  | none => rfl
  | some b => rw [hm] at h; cases h
set_option maxRecDepth 100000 in
theorem law_matchInner (l : List Ins) (hl : l.length ≤ maxLen) (hw : ∀ x ∈ l, x.Wf) (which : Int) : SCall Try.prog 13 [.ro 4 (l.map (iv .any)) .any, .int .i64 which] [] (fun x _ => x = .bool true) := by
  refine scall_of (n := 126) (ks := [0, 1, 4, 5, 6, 7, 8, 10, 12, 14, 16, 19, 37, 67, 84, 87]) Try.func13 rfl rfl (Nat.le_of_ble_eq_true rfl) ?_
  (refine ctlT ?_)
  refine rgT ?_
  refine lo (lop_assign (E rfl)) rfl ?_
  refine leT ?_
  (refine ctlT ?_)
  refine rgT ?_
  refine puA Try.call29 law_begun6 rfl pargsT nofT ?_
  refine lo (lop_assign (E rfl)) rfl ?_
  refine leT ?_
  (refine ctlT ?_)
  refine rgT ?_
  refine lo (lop_move (E rfl)) rfl ?_
  refine lo (lop_not (E rfl)) rfl ?_
  refine leT ?_
  (refine ctlT ?_)
  refine rgT ?_
  refine lo (lop_move (E rfl)) rfl ?_
  refine cw [] Try.call28 (law_body l hl (fun x hx => (hw x hx).2.2.2.1) 60 (by decide)) rfl argsleT stleT ?_
  rintro _ σ' ⟨q4, rfl, rfl⟩ h21
  (apply rs_sto; (exact nflT))
  refine fzv (j := 21) rfl sdelT (bor_own sgT (by simp)) ?_
  refine lo (lop_assign (E rfl)) rfl ?_
  refine leT ?_
  (refine ctlT ?_)
  have hLl := bodyN_le l 60
  generalize bodyN l 60 = L at hLl ⊢
  have hol : (opsOf L).length = L.length := by simp [opsOf]
  have hBl := (blN_ok (opsOf L)).1
  have hfacts := @blk_facts (opsOf L)
  have hnone := @blN_none (opsOf L)
  refine rgT ?_
  refine lo (lop_move (E rfl)) rfl ?_
  refine cw [] Try.call30 (code_match L (by omega)) rfl argsleT stleT ?_
  rintro _ σ' ⟨q5, rfl, rfl⟩ h24
  (apply rs_sto; (exact nflT))
  refine lo (lop_move (E rfl)) rfl ?_
  refine lo (lop_extract (E rfl) rfl) rfl ?_
  refine lo (lop_extract (E rfl) rfl) rfl ?_
  refine lo (lop_assign (E rfl)) rfl ?_
  refine lo (lop_assign (E rfl)) rfl ?_
  refine leT ?_
  (refine ctlT ?_)
  refine fzvs (j := 6) rfl sdelT (bor_own sgT (by simp)) ?_
  generalize blN (opsOf L) = B at hBl hfacts hnone ⊢
  generalize okN (opsOf L) = K at hfacts hnone ⊢
  refine rgT ?_
  refine lo (lop_move (E rfl)) rfl ?_
  refine lo (lop_not (E rfl)) rfl ?_
  refine lo (lop_move (E rfl)) rfl ?_
  first | refine ln rfl rfl rfl rfl ?_ | (refine gy rfl rfl ?_; refine lo (lop_move (E rfl)) rfl ?_) | refine lg rfl rfl (lop_move (E rfl)) rfl ?_
  first | refine ln rfl rfl rfl rfl ?_ | (refine gy rfl rfl ?_; (first | refine lo (lop_len_map (by first | exact W rfl id | exact E rfl)) rfl ?_ | refine lo (lop_len_ro (by first | exact W rfl id | exact E rfl)) rfl ?_ | refine lo (lop_len_own (by first | exact W rfl id | exact E rfl)) rfl ?_)) | refine lg rfl rfl (lop_len_map (by first | exact W rfl id | exact E rfl)) rfl ?_ | refine lg rfl rfl (lop_len_ro (by first | exact W rfl id | exact E rfl)) rfl ?_ | refine lg rfl rfl (lop_len_own (by first | exact W rfl id | exact E rfl)) rfl ?_
  first | refine ln rfl rfl rfl rfl ?_ | (refine gy rfl rfl ?_; refine lo (lop_eql (by first | exact W rfl id | exact E rfl) (E rfl)) rfl ?_) | refine lg rfl rfl (lop_eql (by first | exact W rfl id | exact E rfl) (E rfl)) rfl ?_
  first | refine lo (lop_pick_t (E rfl) (E rfl)) rfl ?_ | refine lo (lop_pick_f (E rfl) (by first | exact W rfl (by simp) | exact E rfl)) rfl ?_ | refine lo (lop_pick (E rfl) (E rfl) (by first | exact W rfl (by simp) | exact E rfl)) rfl ?_
  refine lo (lop_move (E rfl)) rfl ?_
  first | refine ln rfl rfl rfl rfl ?_ | (refine gy rfl rfl ?_; refine lo (lop_move (E rfl)) rfl ?_) | refine lg rfl rfl (lop_move (E rfl)) rfl ?_
  first | refine ln rfl rfl rfl rfl ?_ | (refine gy rfl rfl ?_; refine lo (lop_lss (by first | exact W rfl id | exact E rfl) (E rfl)) rfl ?_) | refine lg rfl rfl (lop_lss (by first | exact W rfl id | exact E rfl) (E rfl)) rfl ?_
  first | refine lo (lop_pick_t (E rfl) (E rfl)) rfl ?_ | refine lo (lop_pick_f (E rfl) (by first | exact W rfl (by simp) | exact E rfl)) rfl ?_ | refine lo (lop_pick (E rfl) (E rfl) (by first | exact W rfl (by simp) | exact E rfl)) rfl ?_
  refine leT ?_
  (refine ctlT ?_)
  refine sw_cond rfl (fun g6 => ?_) (fun g6 => ?_)
  · (refine ctlT ?_)
    refine rgT ?_
    refine lo (lop_move (E rfl)) rfl ?_
    refine lo (lop_move (E rfl)) rfl ?_
    first | refine ln rfl rfl rfl rfl ?_ | (refine gy rfl rfl ?_; refine lo (lop_move (E rfl)) rfl ?_) | refine lg rfl rfl (lop_move (E rfl)) rfl ?_
    first | refine ln rfl rfl rfl rfl ?_ | (refine gy rfl rfl ?_; (first | refine lo (lop_len_map (by first | exact W rfl id | exact E rfl)) rfl ?_ | refine lo (lop_len_ro (by first | exact W rfl id | exact E rfl)) rfl ?_ | refine lo (lop_len_own (by first | exact W rfl id | exact E rfl)) rfl ?_)) | refine lg rfl rfl (lop_len_map (by first | exact W rfl id | exact E rfl)) rfl ?_ | refine lg rfl rfl (lop_len_ro (by first | exact W rfl id | exact E rfl)) rfl ?_ | refine lg rfl rfl (lop_len_own (by first | exact W rfl id | exact E rfl)) rfl ?_
    first | refine ln rfl rfl rfl rfl ?_ | (refine gy rfl rfl ?_; refine lo (lop_eql (by first | exact W rfl id | exact E rfl) (E rfl)) rfl ?_) | refine lg rfl rfl (lop_eql (by first | exact W rfl id | exact E rfl) (E rfl)) rfl ?_
    first | refine lo (lop_pick_t (E rfl) (E rfl)) rfl ?_ | refine lo (lop_pick_f (E rfl) (by first | exact W rfl (by simp) | exact E rfl)) rfl ?_ | refine lo (lop_pick (E rfl) (E rfl) (by first | exact W rfl (by simp) | exact E rfl)) rfl ?_
    refine lo (lop_assign (E rfl)) rfl ?_
    refine leT ?_
    (refine ctlT ?_)
    (apply aend; (exact resT))
    · cases K with | true => rfl | false => (obtain rfl := hnone rfl; rfl)
    · (exact stleT)
  obtain ⟨hK, hB0, hwh⟩ : K = true ∧ 0 < B.length ∧ 0 ≤ which := by cases K with | false => simp at g6 | true => (simp at g6; have h1 := g6.1; exact ⟨rfl, by cases B with | nil => exact absurd rfl h1 | cons x y => simp, g6.2⟩)
  obtain ⟨a, rfl⟩ := Int.eq_ofNat_of_zero_le hwh
  obtain ⟨k, hk, hkl⟩ : ∃ k : Nat, (a : Int).tmod (B.length : Nat) = (k : Int) ∧ k < B.length := ⟨a % B.length, by rw [Int.tmod_eq_emod_of_nonneg (by omega)]; simp, Nat.mod_lt _ (by omega)⟩
  obtain ⟨b, hb⟩ : ∃ b, B[k]? = some b := ⟨_, List.getElem?_eq_getElem hkl⟩
  obtain ⟨n, hn, han, hnl, hout, hin⟩ := hfacts hK (List.mem_of_getElem? hb)
  obtain ⟨p, e, en⟩ := b
  dsimp only at hn han hnl hout hin
  subst hn
  rw [hol] at hnl
  (refine ctlT ?_)
  refine rgT ?_
  refine lo (lop_move (E rfl)) rfl ?_
  refine lo (lop_move (E rfl)) rfl ?_
  refine lo (lop_move (E rfl)) rfl ?_
  refine z14 ?_
  refine z22 ?_
  rw [hk]
  refine z15 ?_
  first | refine lo (lop_load_el_agg (E rfl) rfl (fun hc => by first | rfl | exact get_map (by assumption) | assumption | exact get_map (at_bang (by omega))) (fun _ => Nat.le_of_ble_eq_true rfl)) rfl ?_ | refine lo (lop_load_ow_agg (E rfl) rfl sgT (fun hc => by first | rfl | exact get_map (by assumption) | assumption | exact get_map (at_bang (by omega))) (fun _ => Nat.le_of_ble_eq_true rfl)) rfl ?_
  apply al; rfl; (exact zcT); refine freshT fun r8 h8 => ?_; (repeat (rcases h8 with ⟨_, h8⟩))
  apply stp; rfl; rfl; rfl; rfl; (exact sputT)
  refine leT ?_
  (refine ctlT ?_)
  dsimp only
  refine rgT ?_
  refine z59 ?_
  refine z60 ?_
  refine lo (lop_lss (E rfl) (E rfl)) rfl ?_
  refine lo (lop_move (E rfl)) rfl ?_
  first | refine ln rfl rfl rfl rfl ?_ | (refine gy rfl rfl ?_; (first | refine lo (lop_field_ptr (E rfl) rfl (by decide)) rfl ?_ | refine lo (lop_field_el (E rfl) rfl (by decide)) rfl ?_)) | refine lg rfl rfl (lop_field_ptr (E rfl) rfl (by decide)) rfl ?_ | refine lg rfl rfl (lop_field_el (E rfl) rfl (by decide)) rfl ?_
  first | refine ln rfl rfl rfl rfl ?_ | (refine gy rfl rfl ?_; (first | refine lo (lop_load_ptr (by first | exact W rfl id | exact E rfl) rfl sgT (fun _ => rfl)) rfl ?_ | refine lo (lop_load_ptr (by first | exact W rfl id | exact E rfl) rfl sgT (fun _ => by assumption)) rfl ?_ | refine lo (lop_load_el (by first | exact W rfl id | exact E rfl) rfl (fun hc => by first | rfl | exact get_map (by assumption) | assumption | exact get_map (at_bang (by omega))) (fun _ => rfl)) rfl ?_)) | refine lg rfl rfl (lop_load_ptr (by first | exact W rfl id | exact E rfl) rfl sgT (fun _ => rfl)) rfl ?_ | refine lg rfl rfl (lop_load_ptr (by first | exact W rfl id | exact E rfl) rfl sgT (fun _ => by assumption)) rfl ?_ | refine lg rfl rfl (lop_load_el (by first | exact W rfl id | exact E rfl) rfl (fun hc => by first | rfl | exact get_map (by assumption) | assumption | exact get_map (at_bang (by (try simp at hc) <;> omega))) (fun _ => rfl)) rfl ?_
  first | refine ln rfl rfl rfl rfl ?_ | (refine gy rfl rfl ?_; (first | refine lo (lop_field_ptr (E rfl) rfl (by decide)) rfl ?_ | refine lo (lop_field_el (E rfl) rfl (by decide)) rfl ?_)) | refine lg rfl rfl (lop_field_ptr (E rfl) rfl (by decide)) rfl ?_ | refine lg rfl rfl (lop_field_el (E rfl) rfl (by decide)) rfl ?_
  first | refine ln rfl rfl rfl rfl ?_ | (refine gy rfl rfl ?_; (first | refine lo (lop_load_ptr (by first | exact W rfl id | exact E rfl) rfl sgT (fun _ => rfl)) rfl ?_ | refine lo (lop_load_ptr (by first | exact W rfl id | exact E rfl) rfl sgT (fun _ => by assumption)) rfl ?_ | refine lo (lop_load_el (by first | exact W rfl id | exact E rfl) rfl (fun hc => by first | rfl | exact get_map (by assumption) | assumption | exact get_map (at_bang (by omega))) (fun _ => rfl)) rfl ?_)) | refine lg rfl rfl (lop_load_ptr (by first | exact W rfl id | exact E rfl) rfl sgT (fun _ => rfl)) rfl ?_ | refine lg rfl rfl (lop_load_ptr (by first | exact W rfl id | exact E rfl) rfl sgT (fun _ => by assumption)) rfl ?_ | refine lg rfl rfl (lop_load_el (by first | exact W rfl id | exact E rfl) rfl (fun hc => by first | rfl | exact get_map (by assumption) | assumption | exact get_map (at_bang (by (try simp at hc) <;> omega))) (fun _ => rfl)) rfl ?_
  first | refine ln rfl rfl rfl rfl ?_ | (refine gy rfl rfl ?_; refine lo (lop_geq (by first | exact W rfl id | exact E rfl) (by first | exact W rfl id | exact E rfl)) rfl ?_) | refine lg rfl rfl (lop_geq (by first | exact W rfl id | exact E rfl) (by first | exact W rfl id | exact E rfl)) rfl ?_
  first | refine lo (lop_pick_t (E rfl) (E rfl)) rfl ?_ | refine lo (lop_pick_f (E rfl) (by first | exact W rfl (by simp) | exact E rfl)) rfl ?_ | refine lo (lop_pick (E rfl) (E rfl) (by first | exact W rfl (by simp) | exact E rfl)) rfl ?_
  refine lo (lop_move (E rfl)) rfl ?_
  first | refine ln rfl rfl rfl rfl ?_ | (refine gy rfl rfl ?_; (first | refine lo (lop_field_ptr (E rfl) rfl (by decide)) rfl ?_ | refine lo (lop_field_el (E rfl) rfl (by decide)) rfl ?_)) | refine lg rfl rfl (lop_field_ptr (E rfl) rfl (by decide)) rfl ?_ | refine lg rfl rfl (lop_field_el (E rfl) rfl (by decide)) rfl ?_
  first | refine ln rfl rfl rfl rfl ?_ | (refine gy rfl rfl ?_; (first | refine lo (lop_load_ptr (by first | exact W rfl id | exact E rfl) rfl sgT (fun _ => rfl)) rfl ?_ | refine lo (lop_load_ptr (by first | exact W rfl id | exact E rfl) rfl sgT (fun _ => by assumption)) rfl ?_ | refine lo (lop_load_el (by first | exact W rfl id | exact E rfl) rfl (fun hc => by first | rfl | exact get_map (by assumption) | assumption | exact get_map (at_bang (by omega))) (fun _ => rfl)) rfl ?_)) | refine lg rfl rfl (lop_load_ptr (by first | exact W rfl id | exact E rfl) rfl sgT (fun _ => rfl)) rfl ?_ | refine lg rfl rfl (lop_load_ptr (by first | exact W rfl id | exact E rfl) rfl sgT (fun _ => by assumption)) rfl ?_ | refine lg rfl rfl (lop_load_el (by first | exact W rfl id | exact E rfl) rfl (fun hc => by first | rfl | exact get_map (by assumption) | assumption | exact get_map (at_bang (by (try simp at hc) <;> omega))) (fun _ => rfl)) rfl ?_
  first | refine ln rfl rfl rfl rfl ?_ | (refine gy rfl rfl ?_; refine lo (lop_move (E rfl)) rfl ?_) | refine lg rfl rfl (lop_move (E rfl)) rfl ?_
  first | refine ln rfl rfl rfl rfl ?_ | (refine gy rfl rfl ?_; (first | refine lo (lop_len_map (by first | exact W rfl id | exact E rfl)) rfl ?_ | refine lo (lop_len_ro (by first | exact W rfl id | exact E rfl)) rfl ?_ | refine lo (lop_len_own (by first | exact W rfl id | exact E rfl)) rfl ?_)) | refine lg rfl rfl (lop_len_map (by first | exact W rfl id | exact E rfl)) rfl ?_ | refine lg rfl rfl (lop_len_ro (by first | exact W rfl id | exact E rfl)) rfl ?_ | refine lg rfl rfl (lop_len_own (by first | exact W rfl id | exact E rfl)) rfl ?_
  first | refine ln rfl rfl rfl rfl ?_ | (refine gy rfl rfl ?_; refine lo (lop_geq (by first | exact W rfl id | exact E rfl) (by first | exact W rfl id | exact E rfl)) rfl ?_) | refine lg rfl rfl (lop_geq (by first | exact W rfl id | exact E rfl) (by first | exact W rfl id | exact E rfl)) rfl ?_
  first | refine lo (lop_pick_t (E rfl) (E rfl)) rfl ?_ | refine lo (lop_pick_f (E rfl) (by first | exact W rfl (by simp) | exact E rfl)) rfl ?_ | refine lo (lop_pick (E rfl) (E rfl) (by first | exact W rfl (by simp) | exact E rfl)) rfl ?_
  refine leT ?_
  (refine ctlT ?_)
  refine sw_cond rfl (fun g9 => ?_) (fun g9 => ?_)
  · (refine ctlT ?_)
    exfalso; replace g9 := bT g9; omega
  (refine ctlT ?_)
  refine rgD [(0, true), (1, true), (2, true), (3, true), (5, true), (6, true), (7, true), (8, true), (9, true), (4, false), (10, false), (11, false), (12, true), (13, true), (14, true), (15, true), (16, true)] ?_
  refine dlo rfl (lop_move (E rfl)) rfl ?_
  refine z73 ?_
  refine z74 ?_
  refine z25 ?_
  refine dlo rfl (lop_move (E rfl)) rfl ?_
  refine z73 ?_
  refine z74 ?_
  first | refine dlo rfl (lop_add64 (E rfl) (E rfl) (by omega) (by omega)) rfl ?_ | refine dlo rfl (lop_add (E rfl) (E rfl)) rfl ?_
  refine z84 ?_
  rw [take_preI]
  refine danA rfl ((L.take p).map (iv .any)) (L.take p).length ?_
  refine freshT fun r73 h73 => ?_; (repeat (rcases h73 with ⟨_, h73⟩))
  rw [take_subI]
  refine dapA rfl ((L.take p ++ L.drop (n + 1)).map (iv .any)) (L.take p ++ L.drop (n + 1)).length ?_
  refine apnT fun r79 h79 => ?_; (repeat (rcases h79 with ⟨_, h79⟩))
  refine dclA rfl Try.call30 (code_match (L.take p ++ L.drop (n + 1)) (by simp; omega)) rfl bargsT noT ?_
  rintro _ σ' ⟨q6, rfl, rfl⟩ h80
  replace h80 := lnewT h80; (repeat (rcases h80 with ⟨_, h80⟩))
  rw [opsOf_cut, hout]
  (apply rd_sto; (exact nflT))
  refine dlo rfl (lop_move (E rfl)) rfl ?_
  refine z85 ?_
  refine z85 ?_
  refine dlo rfl (lop_assign (E rfl)) rfl ?_
  refine dlo rfl (lop_assign (E rfl)) rfl ?_
  refine deT ?_
  (refine ctlT ?_)
  refine rgT ?_
  refine lo (lop_move (E rfl)) rfl ?_
  refine lo (lop_not (E rfl)) rfl ?_
  refine leT ?_
  (refine ctlT ?_)
  refine rgT ?_
  refine z59 ?_
  refine z60 ?_
  refine lo (lop_geq (E rfl) (E rfl)) rfl ?_
  refine leT ?_
  (refine ctlT ?_)
  refine sw_cond rfl (fun g14 => ?_) (fun g14 => ?_)
  · obtain ⟨e', rfl, hpe, hen, hin1, hin2⟩ : ∃ e' : Nat, e = (e' : Int) ∧ p < e' ∧ e' < n ∧ okN (sl (opsOf L) (p + 1) e') = true ∧ okN (sl (opsOf L) (e' + 1) n) = true := by
      rcases hin with h | h
      · simp at g14; omega
      · exact h
    (refine ctlT ?_)
    refine rgT ?_
    refine lo (lop_move (E rfl)) rfl ?_
    refine z59 ?_
    refine z60 ?_
    refine z17 ?_
    refine z59 ?_
    refine z60 ?_
    first | refine lo (lop_slice_ro (E rfl) (OB.some (E rfl) (fun _ => by first | rfl | exact (Int.toNat_of_nonneg (by omega)).symm)) (OB.some (E rfl) (fun _ => by first | rfl | exact (Int.toNat_of_nonneg (by omega)).symm)) (fun _ => by first | (simp only [List.length_map]; omega) | omega)) rfl ?_ | refine lo (lop_slice_own (E rfl) sgT (OB.some (E rfl) (fun _ => by first | rfl | exact (Int.toNat_of_nonneg (by omega)).symm)) (OB.some (E rfl) (fun _ => by first | rfl | exact (Int.toNat_of_nonneg (by omega)).symm)) (fun _ => by first | (simp only [List.length_map]; omega) | omega)) rfl ?_
    rw [take_mid]
    refine cw [] Try.call30 (code_match (slI L (p + 1) e') (by have := slI_len (L := L) (i := p + 1) (k := e'); omega)) rfl argsleT stleT ?_
    rintro _ σ' ⟨q7, rfl, rfl⟩ h96
    replace h96 := cnewT h96; (repeat (rcases h96 with ⟨_, h96⟩))
    rw [slI_ops, hin1]
    (apply rs_sto; (exact nflT))
    refine lo (lop_move (E rfl)) rfl ?_
    refine lo (lop_extract (E rfl) rfl) rfl ?_
    refine lo (lop_extract (E rfl) rfl) rfl ?_
    refine lo (lop_assign (E rfl)) rfl ?_
    refine lo (lop_assign (E rfl)) rfl ?_
    refine leT ?_
    (refine ctlT ?_)
    refine rgT ?_
    refine lo (lop_move (E rfl)) rfl ?_
    refine z59 ?_
    refine z60 ?_
    refine z17 ?_
    refine z59 ?_
    refine z60 ?_
    first | refine lo (lop_slice_ro (E rfl) (OB.some (E rfl) (fun _ => by first | rfl | exact (Int.toNat_of_nonneg (by omega)).symm)) (OB.some (E rfl) (fun _ => by first | rfl | exact (Int.toNat_of_nonneg (by omega)).symm)) (fun _ => by first | (simp only [List.length_map]; omega) | omega)) rfl ?_ | refine lo (lop_slice_own (E rfl) sgT (OB.some (E rfl) (fun _ => by first | rfl | exact (Int.toNat_of_nonneg (by omega)).symm)) (OB.some (E rfl) (fun _ => by first | rfl | exact (Int.toNat_of_nonneg (by omega)).symm)) (fun _ => by first | (simp only [List.length_map]; omega) | omega)) rfl ?_
    rw [take_mid]
    refine cw [] Try.call30 (code_match (slI L (e' + 1) n) (by have := slI_len (L := L) (i := e' + 1) (k := n); omega)) rfl argsleT stleT ?_
    rintro _ σ' ⟨q8, rfl, rfl⟩ h107
    rw [slI_ops, hin2]
    (apply rs_sto; (exact nflT))
    refine lo (lop_move (E rfl)) rfl ?_
    refine lo (lop_extract (E rfl) rfl) rfl ?_
    refine lo (lop_extract (E rfl) rfl) rfl ?_
    refine lo (lop_assign (E rfl)) rfl ?_
    refine lo (lop_assign (E rfl)) rfl ?_
    refine leT ?_
    (refine ctlT ?_)
    refine rgT ?_
    refine lo (lop_move (E rfl)) rfl ?_
    refine lo (lop_move (E rfl)) rfl ?_
    first | refine ln rfl rfl rfl rfl ?_ | (refine gy rfl rfl ?_; refine lo (lop_move (E rfl)) rfl ?_) | refine lg rfl rfl (lop_move (E rfl)) rfl ?_
    refine z68 ?_
    refine lo (lop_assign (E rfl)) rfl ?_
    refine leT ?_
    (refine ctlT ?_)
    (apply aend; (exact resT))
    · rfl
    · (exact stleT)
  have hin0 : okN (sl (opsOf L) (p + 1) n) = true := by
    rcases hin with h | ⟨e', rfl, -⟩
    · exact h.2
    · simp at g14
  (refine ctlT ?_)
  refine rgT ?_
  refine lo (lop_move (E rfl)) rfl ?_
  refine z59 ?_
  refine z60 ?_
  refine z17 ?_
  refine z59 ?_
  refine z60 ?_
  first | refine lo (lop_slice_ro (E rfl) (OB.some (E rfl) (fun _ => by first | rfl | exact (Int.toNat_of_nonneg (by omega)).symm)) (OB.some (E rfl) (fun _ => by first | rfl | exact (Int.toNat_of_nonneg (by omega)).symm)) (fun _ => by first | (simp only [List.length_map]; omega) | omega)) rfl ?_ | refine lo (lop_slice_own (E rfl) sgT (OB.some (E rfl) (fun _ => by first | rfl | exact (Int.toNat_of_nonneg (by omega)).symm)) (OB.some (E rfl) (fun _ => by first | rfl | exact (Int.toNat_of_nonneg (by omega)).symm)) (fun _ => by first | (simp only [List.length_map]; omega) | omega)) rfl ?_
  rw [take_mid]
  refine cw [] Try.call30 (code_match (slI L (p + 1) n) (by have := slI_len (L := L) (i := p + 1) (k := n); omega)) rfl argsleT stleT ?_
  rintro _ σ' ⟨q9, rfl, rfl⟩ h122
  rw [slI_ops, hin0]
  (apply rs_sto; (exact nflT))
  refine lo (lop_move (E rfl)) rfl ?_
  refine lo (lop_extract (E rfl) rfl) rfl ?_
  refine lo (lop_extract (E rfl) rfl) rfl ?_
  refine lo (lop_assign (E rfl)) rfl ?_
  refine lo (lop_assign (E rfl)) rfl ?_
  refine leT ?_
  (refine ctlT ?_)
  refine rgT ?_
  refine lo (lop_move (E rfl)) rfl ?_
  refine lo (lop_assign (E rfl)) rfl ?_
  refine leT ?_
  (refine ctlT ?_)
  (apply aend; (exact resT))
  · rfl
  · (exact stleT)
theorem law_matchInner2 (l : List Ins) (which : Int) (h : l.length ≤ maxLen ∧ ∀ x ∈ l, x.Wf) : SCall Try.prog 13 [.ro 4 (l.map (iv .any)) .any, .int .i64 which] [] (fun x _ => x = .bool true) := law_matchInner l h.1 h.2 which
end Go.Proofs.Ytkjfflabapeidaa
