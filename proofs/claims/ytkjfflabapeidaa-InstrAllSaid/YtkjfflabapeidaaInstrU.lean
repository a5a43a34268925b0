/-
  InstrAll.
-/
import Derived.Test.YtkjfflabapeidaaInstrT
import Derived.Test.YtkjfflabapeidaaSymW
namespace Go.Proofs.Ytkjfflabapeidaa
open Go.RowKit Go.ChangeShapes Go.WideShapes Go.ChangeAt Go.Deep
set_option linter.unusedSimpArgs false
set_option linter.unusedVariables false
attribute [local irreducible] SW RS RD AThen ABlock

theorem lt_app {a b : List Nat} (h : ∀ x ∈ a, x < 256) (k : ∀ x ∈ b, x < 256) : ∀ x ∈ a ++ b, x < 256 := fun x hx => by
  rcases List.mem_append.1 hx with hx | hx
  · exact h x hx
  · exact k x hx
theorem bxor_self (b : Bool) : (!b == b) = false := by cases b <;> rfl
set_option maxRecDepth 100000 in
theorem law_instrAll (x0 y0 : Ins) (hx0 : x0.Wf) (hy0 : y0.Wf) (h0 r0 : List Nat) (hh : h0.length ≤ maxLen) (hht : ∀ x ∈ h0, x < 256) (hr : r0.length ≤ maxLen) (hrt : ∀ x ∈ r0, x < 256) : SCall Try.prog 3 [.agg (iv .any x0), .agg (iv .any y0), .ro 1 (h0.map encU) .any, .ro 1 (r0.map encU) .any] [] (fun x _ => x = .bool true) := by
  refine scall_of (n := 103) (ks := [0, 1, 2, 3, 4, 5, 8, 9, 10, 11, 12, 13, 14, 17, 40, 42, 55, 84]) Try.func3 rfl rfl (Nat.le_of_ble_eq_true rfl) ?_
  have hxo := cut_ok hx0
  have hyo := cut_ok hy0
  unfold iv
  (refine ctlT ?_)
  refine rgT ?_
  apply bx; rfl; rfl; (exact zcT); rfl; refine freshT fun r4 h4 => ?_; (repeat (rcases h4 with ⟨_, h4⟩))
  apply bx; rfl; rfl; (exact zcT); rfl; refine freshT fun r5 h5 => ?_; (repeat (rcases h5 with ⟨_, h5⟩))
  refine lo (lop_assign (E rfl)) rfl ?_
  refine leT ?_
  (refine ctlT ?_)
  refine rgT ?_
  refine puA Try.call16 law_begun5 rfl pargsT nofT ?_
  refine lo (lop_assign (E rfl)) rfl ?_
  refine leT ?_
  (refine ctlT ?_)
  refine rgT ?_
  refine lo (lop_move (E rfl)) rfl ?_
  refine lo (lop_not (E rfl)) rfl ?_
  refine leT ?_
  (refine ctlT ?_)
  refine rgD [(0, true), (2, true), (4, true), (6, true), (1, false), (3, false), (5, false), (7, false), (8, false), (9, false), (10, true), (11, true)] ?_
  refine z96 ?_
  refine z96 ?_
  refine dlo rfl (lop_move (E rfl)) rfl ?_
  refine dlo rfl (lop_move (E rfl)) rfl ?_
  refine dcw [] rfl Try.call17 (law_cut x0 hx0.2.2.2.1) rfl argsleT stleT hbtT ?_
  rintro _ σ' ⟨q, rfl, rfl⟩ h19
  replace h19 := cnewT h19; (repeat (rcases h19 with ⟨_, h19⟩))
  (apply rd_sto; (exact nflT))
  generalize cutN x0 = x at hxo ⊢
  refine dcw [] rfl Try.call17 (law_cut y0 hy0.2.2.2.1) rfl argsleT stleT hbtT ?_
  rintro _ σ' ⟨p, rfl, rfl⟩ h21
  replace h21 := cnewT h21; (repeat (rcases h21 with ⟨_, h21⟩))
  (apply rd_sto; (exact nflT))
  generalize cutN y0 = y at hyo ⊢
  refine dcw [] rfl Try.call18 (law_short h0 hh 8) rfl argsleT stleT hbtT ?_
  rintro _ σ' ⟨rfl, rfl⟩ h23
  (apply rd_sto; (exact nflT))
  refine dcw [] rfl Try.call18 (law_short r0 hr 8) rfl argsleT stleT hbtT ?_
  rintro _ σ' ⟨rfl, rfl⟩ h25
  (apply rd_sto; (exact nflT))
  refine z95 ?_
  refine z95 ?_
  refine dlo rfl (lop_assign (E rfl)) rfl ?_
  refine dlo rfl (lop_assign (E rfl)) rfl ?_
  refine deT ?_
  (refine ctlT ?_)
  obtain ⟨u, hu⟩ : ∃ u, u = h0.take 8 := ⟨_, rfl⟩
  obtain ⟨v, hv⟩ : ∃ u, u = r0.take 8 := ⟨_, rfl⟩
  have hul : u.length ≤ 8 := by rw [hu]; simp; omega
  have hut : ∀ x ∈ u, x < 256 := by rw [hu]; exact fun x hx => hht x (List.mem_of_mem_take hx)
  have hvl : v.length ≤ 8 := by rw [hv]; simp; omega
  have hvt : ∀ x ∈ v, x < 256 := by rw [hv]; exact fun x hx => hrt x (List.mem_of_mem_take hx)
  rw [← hu, ← hv]
  refine sw_go (sgo_fzb (r := r4) (q := q) ssetT sdelT (.cons (.refl _) (.cons (.refl _) (.cons (.refl _) (.cons (bor_own sgT (by simp)) .nil))))) ?_
  refine rgT ?_
  refine z99 ?_
  refine puA Try.call19 (ref_mayInstr .any x hxo) rfl pargsT nofT ?_
  refine lo (lop_assign (E rfl)) rfl ?_
  refine leT ?_
  (refine ctlT ?_)
  refine rgD [(0, true), (2, true), (1, false), (3, true), (4, true), (5, true), (6, true), (8, true), (9, true), (7, false), (10, false), (11, true), (12, true)] ?_
  refine z96 ?_
  refine dlo rfl (lop_move (E rfl)) rfl ?_
  refine dpuA rfl Try.call20 (instr_may .any x) rfl pargsT nofT ?_
  refine dlo rfl (lop_bneq (E rfl) (E rfl)) rfl ?_
  rw [bxor_self]
  refine dlo rfl (lop_move (E rfl)) rfl ?_
  first | refine dln rfl rfl rfl rfl rfl ?_ | (first | refine dly rfl rfl rfl (lop_load_ptr_agg (E rfl) rfl sgT (fun _ => Nat.le_of_ble_eq_true rfl)) rfl ?_ | refine dly rfl rfl rfl (lop_load_el_agg (E rfl) rfl (fun hc => by first | rfl | exact get_map (by assumption) | assumption | exact get_map (at_bang (by omega))) (fun _ => Nat.le_of_ble_eq_true rfl)) rfl ?_) | refine dlg rfl rfl rfl (lop_load_ptr_agg (E rfl) rfl sgT (fun _ => Nat.le_of_ble_eq_true rfl)) rfl ?_ | refine dlg rfl rfl rfl (lop_load_el_agg (E rfl) rfl (fun hc => by first | rfl | exact get_map (by assumption) | assumption | exact get_map (at_bang (by (try simp at hc) <;> omega))) (fun _ => Nat.le_of_ble_eq_true rfl)) rfl ?_
  first | refine dln rfl rfl rfl rfl rfl ?_ | (first | refine dly rfl rfl rfl (lop_load_ptr_agg (E rfl) rfl sgT (fun _ => Nat.le_of_ble_eq_true rfl)) rfl ?_ | refine dly rfl rfl rfl (lop_load_el_agg (E rfl) rfl (fun hc => by first | rfl | exact get_map (by assumption) | assumption | exact get_map (at_bang (by omega))) (fun _ => Nat.le_of_ble_eq_true rfl)) rfl ?_) | refine dlg rfl rfl rfl (lop_load_ptr_agg (E rfl) rfl sgT (fun _ => Nat.le_of_ble_eq_true rfl)) rfl ?_ | refine dlg rfl rfl rfl (lop_load_el_agg (E rfl) rfl (fun hc => by first | rfl | exact get_map (by assumption) | assumption | exact get_map (at_bang (by (try simp at hc) <;> omega))) (fun _ => Nat.le_of_ble_eq_true rfl)) rfl ?_
  first | refine dln rfl rfl rfl rfl rfl ?_ | (first | refine dly rfl rfl rfl (lop_load_ptr_agg (E rfl) rfl sgT (fun _ => Nat.le_of_ble_eq_true rfl)) rfl ?_ | refine dly rfl rfl rfl (lop_load_el_agg (E rfl) rfl (fun hc => by first | rfl | exact get_map (by assumption) | assumption | exact get_map (at_bang (by omega))) (fun _ => Nat.le_of_ble_eq_true rfl)) rfl ?_) | refine dlg rfl rfl rfl (lop_load_ptr_agg (E rfl) rfl sgT (fun _ => Nat.le_of_ble_eq_true rfl)) rfl ?_ | refine dlg rfl rfl rfl (lop_load_el_agg (E rfl) rfl (fun hc => by first | rfl | exact get_map (by assumption) | assumption | exact get_map (at_bang (by (try simp at hc) <;> omega))) (fun _ => Nat.le_of_ble_eq_true rfl)) rfl ?_
  first | refine dln rfl rfl rfl rfl rfl ?_ | (first | refine dly rfl rfl rfl (lop_load_ptr_agg (E rfl) rfl sgT (fun _ => Nat.le_of_ble_eq_true rfl)) rfl ?_ | refine dly rfl rfl rfl (lop_load_el_agg (E rfl) rfl (fun hc => by first | rfl | exact get_map (by assumption) | assumption | exact get_map (at_bang (by omega))) (fun _ => Nat.le_of_ble_eq_true rfl)) rfl ?_) | refine dlg rfl rfl rfl (lop_load_ptr_agg (E rfl) rfl sgT (fun _ => Nat.le_of_ble_eq_true rfl)) rfl ?_ | refine dlg rfl rfl rfl (lop_load_el_agg (E rfl) rfl (fun hc => by first | rfl | exact get_map (by assumption) | assumption | exact get_map (at_bang (by (try simp at hc) <;> omega))) (fun _ => Nat.le_of_ble_eq_true rfl)) rfl ?_
  refine dpuyA rfl rfl rfl Try.call21 (instr_eq .any .any x y) rfl pargsT nofT ?_
  refine dpuyA rfl rfl rfl Try.call22 (ref_eqInstr .any .any x y) rfl pargsT nofT ?_
  first | refine dln rfl rfl rfl rfl rfl ?_ | (refine dly rfl rfl rfl (lop_bneq (by first | exact W rfl id | exact E rfl) (by first | exact W rfl id | exact E rfl)) rfl ?_) | refine dlg rfl rfl rfl (lop_bneq (by first | exact W rfl id | exact E rfl) (by first | exact W rfl id | exact E rfl)) rfl ?_
  first | refine dlo rfl (lop_pick_t (E rfl) (E rfl)) rfl ?_ | refine dlo rfl (lop_pick_f (E rfl) (by first | exact W rfl (by simp) | exact E rfl)) rfl ?_ | refine dlo rfl (lop_pick (E rfl) (E rfl) (by first | exact W rfl (by simp) | exact E rfl)) rfl ?_
  refine deT ?_
  (refine ctlT ?_)
  rw [bxor_self]
  (refine ctlT ?_)
  refine rgT ?_
  refine lo (lop_move (E rfl)) rfl ?_
  refine lo (lop_not (E rfl)) rfl ?_
  refine leT ?_
  (refine ctlT ?_)
  refine sw_cond rfl (fun g8 => ?_) (fun g8 => ?_)
  · (refine ctlT ?_)
    refine rgT ?_
    refine lo (lop_assign (E rfl)) rfl ?_
    refine leT ?_
    (refine ctlT ?_)
    (apply aend; (exact resT))
    · rfl
    · (exact stleT)
  have hm : mayN x = true := by simpa using g8
  have hpl := putN_len hxo hm
  have hpt := putN_lt hm
  have hget := get_put hxo hm v
  have hinj := fun hmy h => putN_inj hyo hxo hmy hm h
  (refine ctlT ?_)
  refine rgD [(0, true), (2, true), (1, false), (3, false), (4, true)] ?_
  refine dlo rfl (lop_move (E rfl)) rfl ?_
  refine z96 ?_
  refine danA rfl ((u).map encU) (u).length ?_
  refine freshT fun r44 h44 => ?_; (repeat (rcases h44 with ⟨_, h44⟩))
  refine dcw [(r44, .arr 5 1 (u.map encU))] rfl Try.call23 (instr_put r44 u (by omega) .any x hxo hm) rfl argsleT stleT hbtT ?_
  rintro _ σ' ⟨r46, rfl, rfl⟩ h46
  have k46 := rest1T h46; (repeat (rcases k46 with ⟨_, k46⟩))
  (apply rd_sto; (exact nflT))
  refine dlo rfl (lop_assign (E rfl)) rfl ?_
  refine deT ?_
  (refine ctlT ?_)
  refine rgD [(0, true), (1, true), (2, true), (3, true), (4, true), (5, false), (6, true), (7, true), (8, true)] ?_
  refine dlo rfl (lop_move (E rfl)) rfl ?_
  first | refine dlo rfl (lop_bytes_ro (E rfl)) rfl ?_ | refine dlo rfl (lop_text_own (E rfl)) rfl ?_
  refine dlo rfl (lop_move (E rfl)) rfl ?_
  first | refine dlo rfl (lop_bytes_ro (E rfl)) rfl ?_ | refine dlo rfl (lop_text_own (E rfl)) rfl ?_
  refine z96 ?_
  refine dclA rfl Try.call24 (ref_putInstr .any x hxo hm) rfl bargsT noT ?_
  rintro _ σ' ⟨r52, rfl, rfl⟩ h52
  replace h52 := lnewT h52; (repeat (rcases h52 with ⟨_, h52⟩))
  (apply rd_sto; (exact nflT))
  generalize hP : putN x = P at hpl hpt hget hinj ⊢
  first | refine dlo rfl (lop_bytes_ro (E rfl)) rfl ?_ | refine dlo rfl (lop_text_own (E rfl)) rfl ?_
  first | refine dlo rfl (lop_tadd (E rfl) (E rfl)) rfl ?_ | refine dlo rfl (lop_sadd (E rfl) (E rfl) (fun _ => by omega)) rfl ?_
  refine dlo rfl (lop_sneq (E rfl) (E rfl)) rfl ?_
  refine deT ?_
  (refine ctlT ?_)
  have hutP := lt_app hut hpt
  rw [strU_inj hutP hutP, decide_eq_true rfl]
  (refine ctlT ?_)
  refine rgT ?_
  refine lo (lop_move (E rfl)) rfl ?_
  refine lo (lop_move (E rfl)) rfl ?_
  refine z14 ?_
  have hlen : (u ++ P).length = u.length + P.length := List.length_append
  first | refine lo (lop_slice_ro (E rfl) (OB.some (E rfl) (fun _ => by first | rfl | exact (Int.toNat_of_nonneg (by omega)).symm)) OB.none (fun _ => by first | (simp only [List.length_map]; omega) | omega)) rfl ?_ | refine lo (lop_slice_own (E rfl) sgT (OB.some (E rfl) (fun _ => by first | rfl | exact (Int.toNat_of_nonneg (by omega)).symm)) OB.none (fun _ => by first | (simp only [List.length_map]; omega) | omega)) rfl ?_
  refine anA (P.map encU) P.length ?_ (he := by rw [List.map_append, List.drop_append_of_le_length (by simp), List.drop_of_length_le (by simp), List.nil_append]; exact List.take_of_length_le (by simp)) (hl := by simp)
  refine freshT fun r61 h61 => ?_; (repeat (rcases h61 with ⟨_, h61⟩))
  refine lo (lop_move (E rfl)) rfl ?_
  refine apA ((P ++ v).map encU) (P ++ v).length ?_
  refine apnT fun r63 h63 => ?_; (repeat (rcases h63 with ⟨_, h63⟩))
  refine clA Try.call25 (instr_get (P ++ v) (by simp; omega) (lt_app hpt hvt)) rfl bargsT noT ?_
  rintro _ σ' ⟨q64, rfl, rfl⟩ h64
  replace h64 := lnewT h64; (repeat (rcases h64 with ⟨_, h64⟩))
  rw [hget]
  dsimp only
  (apply rs_sto; (exact nflT))
  refine lo (lop_move (E rfl)) rfl ?_
  refine lo (lop_extract (E rfl) rfl) rfl ?_
  refine lo (lop_extract (E rfl) rfl) rfl ?_
  refine lo (lop_extract (E rfl) rfl) rfl ?_
  apply al; rfl; (exact zcT); refine freshT fun r12 h12 => ?_; (repeat (rcases h12 with ⟨_, h12⟩))
  apply stp; rfl; rfl; rfl; rfl; (exact sputT)
  refine lo (lop_assign (E rfl)) rfl ?_
  refine lo (lop_assign (E rfl)) rfl ?_
  refine leT ?_
  (refine ctlT ?_)
  refine rgT ?_
  refine lo (lop_move (E rfl)) rfl ?_
  refine lo (lop_neq (E rfl) (E rfl)) rfl ?_
  refine lo (lop_move (E rfl)) rfl ?_
  first | refine ln rfl rfl rfl rfl ?_ | (refine gy rfl rfl ?_; refine lo (lop_move (E rfl)) rfl ?_) | refine lg rfl rfl (lop_move (E rfl)) rfl ?_
  first | refine ln rfl rfl rfl rfl ?_ | (refine gy rfl rfl ?_; refine lo (lop_move (E rfl)) rfl ?_) | refine lg rfl rfl (lop_move (E rfl)) rfl ?_
  first | refine ln rfl rfl rfl rfl ?_ | (refine gy rfl rfl ?_; (first | refine lo (lop_len_map (by first | exact W rfl id | exact E rfl)) rfl ?_ | refine lo (lop_len_ro (by first | exact W rfl id | exact E rfl)) rfl ?_ | refine lo (lop_len_own (by first | exact W rfl id | exact E rfl)) rfl ?_)) | refine lg rfl rfl (lop_len_map (by first | exact W rfl id | exact E rfl)) rfl ?_ | refine lg rfl rfl (lop_len_ro (by first | exact W rfl id | exact E rfl)) rfl ?_ | refine lg rfl rfl (lop_len_own (by first | exact W rfl id | exact E rfl)) rfl ?_
  first | refine ln rfl rfl rfl rfl ?_ | (refine gy rfl rfl ?_; refine lo (lop_move (E rfl)) rfl ?_) | refine lg rfl rfl (lop_move (E rfl)) rfl ?_
  first | refine ln rfl rfl rfl rfl ?_ | (refine gy rfl rfl ?_; (first | refine lo (lop_len_map (by first | exact W rfl id | exact E rfl)) rfl ?_ | refine lo (lop_len_ro (by first | exact W rfl id | exact E rfl)) rfl ?_ | refine lo (lop_len_own (by first | exact W rfl id | exact E rfl)) rfl ?_)) | refine lg rfl rfl (lop_len_map (by first | exact W rfl id | exact E rfl)) rfl ?_ | refine lg rfl rfl (lop_len_ro (by first | exact W rfl id | exact E rfl)) rfl ?_ | refine lg rfl rfl (lop_len_own (by first | exact W rfl id | exact E rfl)) rfl ?_
  first | refine ln rfl rfl rfl rfl ?_ | (refine gy rfl rfl ?_; (first | refine lo (lop_sub64 (by first | exact W rfl id | exact E rfl) (by first | exact W rfl id | exact E rfl) (by omega) (by omega)) rfl ?_ | refine lo (lop_sub (by first | exact W rfl id | exact E rfl) (by first | exact W rfl id | exact E rfl)) rfl ?_)) | refine lg rfl rfl (lop_sub64 (by first | exact W rfl id | exact E rfl) (by first | exact W rfl id | exact E rfl) (by omega) (by omega)) rfl ?_ | refine lg rfl rfl (lop_sub64c (by first | exact W rfl id | exact E rfl) (by first | exact W rfl id | exact E rfl) (fun hc => by simp at hc <;> first | omega | (have hov := hov hc; omega))) rfl ?_ | refine lg rfl rfl (lop_sub (by first | exact W rfl id | exact E rfl) (by first | exact W rfl id | exact E rfl)) rfl ?_
  first | refine ln rfl rfl rfl rfl ?_ | (refine gy rfl rfl ?_; refine lo (lop_neq (by first | exact W rfl id | exact E rfl) (by first | exact W rfl id | exact E rfl)) rfl ?_) | refine lg rfl rfl (lop_neq (by first | exact W rfl id | exact E rfl) (by first | exact W rfl id | exact E rfl)) rfl ?_
  rw [show (((P.length : Nat) : Int) != ((u ++ P).length : Nat) - (u.length : Nat)) = false by rw [hlen]; simp; omega]
  first | refine lo (lop_pick_t (E rfl) (E rfl)) rfl ?_ | refine lo (lop_pick_f (E rfl) (by first | exact W rfl (by simp) | exact E rfl)) rfl ?_ | refine lo (lop_pick (E rfl) (E rfl) (by first | exact W rfl (by simp) | exact E rfl)) rfl ?_
  refine lo (lop_move (E rfl)) rfl ?_
  first | refine ln rfl rfl rfl rfl ?_ | (refine gy rfl rfl ?_; (first | refine lo (lop_load_ptr_agg (E rfl) rfl sgT (fun _ => Nat.le_of_ble_eq_true rfl)) rfl ?_ | refine lo (lop_load_el_agg (E rfl) rfl (fun hc => by first | rfl | exact get_map (by assumption) | assumption | exact get_map (at_bang (by omega))) (fun _ => Nat.le_of_ble_eq_true rfl)) rfl ?_)) | refine lg rfl rfl (lop_load_ptr_agg (E rfl) rfl sgT (fun _ => Nat.le_of_ble_eq_true rfl)) rfl ?_ | refine lg rfl rfl (lop_load_el_agg (E rfl) rfl (fun hc => by first | rfl | exact get_map (by assumption) | assumption | exact get_map (at_bang (by (try simp at hc) <;> omega))) (fun _ => Nat.le_of_ble_eq_true rfl)) rfl ?_
  first | refine ln rfl rfl rfl rfl ?_ | (refine gy rfl rfl ?_; (first | refine lo (lop_load_ptr_agg (E rfl) rfl sgT (fun _ => Nat.le_of_ble_eq_true rfl)) rfl ?_ | refine lo (lop_load_el_agg (E rfl) rfl (fun hc => by first | rfl | exact get_map (by assumption) | assumption | exact get_map (at_bang (by omega))) (fun _ => Nat.le_of_ble_eq_true rfl)) rfl ?_)) | refine lg rfl rfl (lop_load_ptr_agg (E rfl) rfl sgT (fun _ => Nat.le_of_ble_eq_true rfl)) rfl ?_ | refine lg rfl rfl (lop_load_el_agg (E rfl) rfl (fun hc => by first | rfl | exact get_map (by assumption) | assumption | exact get_map (at_bang (by (try simp at hc) <;> omega))) (fun _ => Nat.le_of_ble_eq_true rfl)) rfl ?_
  refine gy rfl rfl ?_
  refine puA Try.call22 (ref_eqInstr .any .any x x) rfl pargsT nofT ?_
  rw [eqN_self]
  first | refine ln rfl rfl rfl rfl ?_ | (refine gy rfl rfl ?_; refine lo (lop_not (by first | exact W rfl id | exact E rfl)) rfl ?_) | refine lg rfl rfl (lop_not (by first | exact W rfl id | exact E rfl)) rfl ?_
  first | refine lo (lop_pick_t (E rfl) (E rfl)) rfl ?_ | refine lo (lop_pick_f (E rfl) (by first | exact W rfl (by simp) | exact E rfl)) rfl ?_ | refine lo (lop_pick (E rfl) (E rfl) (by first | exact W rfl (by simp) | exact E rfl)) rfl ?_
  refine leT ?_
  (refine ctlT ?_)
  by_cases hmy : mayN y = true
  · refine rgD [(0, true), (1, false), (2, true), (3, true), (4, true), (7, true), (8, true), (9, true), (10, true), (11, true), (13, true), (14, true), (5, false), (6, true), (12, true), (15, false), (16, true), (17, true), (18, true)] ?_
    refine z96 ?_
    refine dpuA rfl Try.call19 (ref_mayInstr .any y hyo) rfl pargsT nofT ?_
    rw [hmy]
    refine dlo rfl (lop_not (E rfl)) rfl ?_
    refine dlo rfl (lop_move (E rfl)) rfl ?_
    first | refine dln rfl rfl rfl rfl rfl ?_ | (first | refine dly rfl rfl rfl (lop_load_ptr_agg (E rfl) rfl sgT (fun _ => Nat.le_of_ble_eq_true rfl)) rfl ?_ | refine dly rfl rfl rfl (lop_load_el_agg (E rfl) rfl (fun hc => by first | rfl | exact get_map (by assumption) | assumption | exact get_map (at_bang (by omega))) (fun _ => Nat.le_of_ble_eq_true rfl)) rfl ?_) | refine dlg rfl rfl rfl (lop_load_ptr_agg (E rfl) rfl sgT (fun _ => Nat.le_of_ble_eq_true rfl)) rfl ?_ | refine dlg rfl rfl rfl (lop_load_el_agg (E rfl) rfl (fun hc => by first | rfl | exact get_map (by assumption) | assumption | exact get_map (at_bang (by (try simp at hc) <;> omega))) (fun _ => Nat.le_of_ble_eq_true rfl)) rfl ?_
    first | refine dln rfl rfl rfl rfl rfl ?_ | (refine dly rfl rfl rfl (lop_move (E rfl)) rfl ?_) | refine dlg rfl rfl rfl (lop_move (E rfl)) rfl ?_
    first | refine dln rfl rfl rfl rfl rfl ?_ | (refine dly rfl rfl rfl (lop_move (E rfl)) rfl ?_) | refine dlg rfl rfl rfl (lop_move (E rfl)) rfl ?_
    first | refine dln rfl rfl rfl rfl rfl ?_ | (first | refine dly rfl rfl rfl (lop_len_map (by first | exact W rfl id | exact E rfl)) rfl ?_ | refine dly rfl rfl rfl (lop_len_ro (by first | exact W rfl id | exact E rfl)) rfl ?_ | refine dly rfl rfl rfl (lop_len_own (by first | exact W rfl id | exact E rfl)) rfl ?_) | refine dlg rfl rfl rfl (lop_len_map (by first | exact W rfl id | exact E rfl)) rfl ?_ | refine dlg rfl rfl rfl (lop_len_ro (by first | exact W rfl id | exact E rfl)) rfl ?_ | refine dlg rfl rfl rfl (lop_len_own (by first | exact W rfl id | exact E rfl)) rfl ?_
    first | refine dln rfl rfl rfl rfl rfl ?_ | (first | refine dly rfl rfl rfl (lop_slice_ro (by first | exact W rfl id | exact E rfl) (OB.some (by first | exact W rfl id | exact E rfl) (fun _ => by first | rfl | exact (Int.toNat_of_nonneg (by omega)).symm)) OB.none (fun _ => by first | (simp only [List.length_map]; omega) | omega)) rfl ?_ | refine dly rfl rfl rfl (lop_slice_own (by first | exact W rfl id | exact E rfl) sgT (OB.some (by first | exact W rfl id | exact E rfl) (fun _ => by first | rfl | exact (Int.toNat_of_nonneg (by omega)).symm)) OB.none (fun _ => by first | (simp only [List.length_map]; omega) | omega)) rfl ?_) | refine dlg rfl rfl rfl (lop_slice_ro (by first | exact W rfl id | exact E rfl) (OB.some (by first | exact W rfl id | exact E rfl) (fun _ => by first | rfl | exact (Int.toNat_of_nonneg (by omega)).symm)) OB.none (fun _ => by first | (simp only [List.length_map]; omega) | omega)) rfl ?_ | refine dlg rfl rfl rfl (lop_slice_own (by first | exact W rfl id | exact E rfl) sgT (OB.some (by first | exact W rfl id | exact E rfl) (fun _ => by first | rfl | exact (Int.toNat_of_nonneg (by omega)).symm)) OB.none (fun _ => by first | (simp only [List.length_map]; omega) | omega)) rfl ?_
    first | refine dln rfl rfl rfl rfl rfl ?_ | (first | refine dly rfl rfl rfl (lop_bytes_ro (by first | exact W rfl id | exact E rfl)) rfl ?_ | refine dly rfl rfl rfl (lop_text_own (by first | exact W rfl id | exact E rfl)) rfl ?_) | refine dlg rfl rfl rfl (lop_bytes_ro (by first | exact W rfl id | exact E rfl)) rfl ?_ | refine dlg rfl rfl rfl (lop_text_own (by first | exact W rfl id | exact E rfl)) rfl ?_
    first | refine dln rfl rfl rfl rfl rfl ?_ | (first | refine dly rfl rfl rfl (lop_load_ptr_agg (E rfl) rfl sgT (fun _ => Nat.le_of_ble_eq_true rfl)) rfl ?_ | refine dly rfl rfl rfl (lop_load_el_agg (E rfl) rfl (fun hc => by first | rfl | exact get_map (by assumption) | assumption | exact get_map (at_bang (by omega))) (fun _ => Nat.le_of_ble_eq_true rfl)) rfl ?_) | refine dlg rfl rfl rfl (lop_load_ptr_agg (E rfl) rfl sgT (fun _ => Nat.le_of_ble_eq_true rfl)) rfl ?_ | refine dlg rfl rfl rfl (lop_load_el_agg (E rfl) rfl (fun hc => by first | rfl | exact get_map (by assumption) | assumption | exact get_map (at_bang (by (try simp at hc) <;> omega))) (fun _ => Nat.le_of_ble_eq_true rfl)) rfl ?_
    first | refine dln rfl rfl rfl rfl rfl ?_ | (first | refine dly rfl rfl rfl (lop_load_ptr_agg (E rfl) rfl sgT (fun _ => Nat.le_of_ble_eq_true rfl)) rfl ?_ | refine dly rfl rfl rfl (lop_load_el_agg (E rfl) rfl (fun hc => by first | rfl | exact get_map (by assumption) | assumption | exact get_map (at_bang (by omega))) (fun _ => Nat.le_of_ble_eq_true rfl)) rfl ?_) | refine dlg rfl rfl rfl (lop_load_ptr_agg (E rfl) rfl sgT (fun _ => Nat.le_of_ble_eq_true rfl)) rfl ?_ | refine dlg rfl rfl rfl (lop_load_el_agg (E rfl) rfl (fun hc => by first | rfl | exact get_map (by assumption) | assumption | exact get_map (at_bang (by (try simp at hc) <;> omega))) (fun _ => Nat.le_of_ble_eq_true rfl)) rfl ?_
    refine dclyA rfl rfl rfl Try.call23 (nil_put .any y hyo hmy) rfl bargsT noT ?_
    rintro _ σ' ⟨r90, rfl, rfl⟩ h90
    replace h90 := lnewT h90; (repeat (rcases h90 with ⟨_, h90⟩))
    (apply rd_sto; (exact nflT))
    first | refine dln rfl rfl rfl rfl rfl ?_ | (first | refine dly rfl rfl rfl (lop_bytes_ro (by first | exact W rfl id | exact E rfl)) rfl ?_ | refine dly rfl rfl rfl (lop_text_own (by first | exact W rfl id | exact E rfl)) rfl ?_) | refine dlg rfl rfl rfl (lop_bytes_ro (by first | exact W rfl id | exact E rfl)) rfl ?_ | refine dlg rfl rfl rfl (lop_text_own (by first | exact W rfl id | exact E rfl)) rfl ?_
    first | refine dln rfl rfl rfl rfl rfl ?_ | (refine dly rfl rfl rfl (lop_seql (by first | exact W rfl id | exact E rfl) (by first | exact W rfl id | exact E rfl)) rfl ?_) | refine dlg rfl rfl rfl (lop_seql (by first | exact W rfl id | exact E rfl) (by first | exact W rfl id | exact E rfl)) rfl ?_
    refine dpuyA rfl rfl rfl Try.call22 (ref_eqInstr .any .any x y) rfl pargsT nofT ?_
    first | refine dln rfl rfl rfl rfl rfl ?_ | (refine dly rfl rfl rfl (lop_beql (by first | exact W rfl id | exact E rfl) (by first | exact W rfl id | exact E rfl)) rfl ?_) | refine dlg rfl rfl rfl (lop_beql (by first | exact W rfl id | exact E rfl) (by first | exact W rfl id | exact E rfl)) rfl ?_
    first | refine dlo rfl (lop_pick_t (E rfl) (E rfl)) rfl ?_ | refine dlo rfl (lop_pick_f (E rfl) (by first | exact W rfl (by simp) | exact E rfl)) rfl ?_ | refine dlo rfl (lop_pick (E rfl) (E rfl) (by first | exact W rfl (by simp) | exact E rfl)) rfl ?_
    refine dlo rfl (lop_assign (E rfl)) rfl ?_
    refine deT ?_
    (refine ctlT ?_)
    (apply aend; (exact resT))
    · show AV.bool _ = AV.bool true
      congr 1
      rw [Nat.zero_add, List.drop_append_of_le_length (Nat.le_refl _), List.drop_length, List.nil_append, strU_inj (putN_lt hmy) hpt]
      by_cases h : x = y
      · subst h
        rw [hP, eqN_self]; simp
      · rw [decide_eq_false (fun e => h (hinj hmy e).symm), show eqN x y = false by cases hc : eqN x y; rfl; exact absurd (eqN_iff.1 hc) h]; rfl
    · (exact stleT)
  · refine rgD [(0, true), (1, false), (2, true), (3, true), (4, true), (7, true), (8, true), (9, true), (10, true), (11, true), (13, true), (14, true), (5, false), (6, true), (12, true), (15, false), (16, true), (17, true), (18, true)] ?_
    refine z96 ?_
    refine dpuA rfl Try.call19 (ref_mayInstr .any y hyo) rfl pargsT nofT ?_
    rw [show mayN y = false by simpa using hmy]
    refine dlo rfl (lop_not (E rfl)) rfl ?_
    refine dlo rfl (lop_move (E rfl)) rfl ?_
    first | refine dln rfl rfl rfl rfl rfl ?_ | (first | refine dly rfl rfl rfl (lop_load_ptr_agg (E rfl) rfl sgT (fun _ => Nat.le_of_ble_eq_true rfl)) rfl ?_ | refine dly rfl rfl rfl (lop_load_el_agg (E rfl) rfl (fun hc => by first | rfl | exact get_map (by assumption) | assumption | exact get_map (at_bang (by omega))) (fun _ => Nat.le_of_ble_eq_true rfl)) rfl ?_) | refine dlg rfl rfl rfl (lop_load_ptr_agg (E rfl) rfl sgT (fun _ => Nat.le_of_ble_eq_true rfl)) rfl ?_ | refine dlg rfl rfl rfl (lop_load_el_agg (E rfl) rfl (fun hc => by first | rfl | exact get_map (by assumption) | assumption | exact get_map (at_bang (by (try simp at hc) <;> omega))) (fun _ => Nat.le_of_ble_eq_true rfl)) rfl ?_
    first | refine dln rfl rfl rfl rfl rfl ?_ | (refine dly rfl rfl rfl (lop_move (E rfl)) rfl ?_) | refine dlg rfl rfl rfl (lop_move (E rfl)) rfl ?_
    first | refine dln rfl rfl rfl rfl rfl ?_ | (refine dly rfl rfl rfl (lop_move (E rfl)) rfl ?_) | refine dlg rfl rfl rfl (lop_move (E rfl)) rfl ?_
    first | refine dln rfl rfl rfl rfl rfl ?_ | (first | refine dly rfl rfl rfl (lop_len_map (by first | exact W rfl id | exact E rfl)) rfl ?_ | refine dly rfl rfl rfl (lop_len_ro (by first | exact W rfl id | exact E rfl)) rfl ?_ | refine dly rfl rfl rfl (lop_len_own (by first | exact W rfl id | exact E rfl)) rfl ?_) | refine dlg rfl rfl rfl (lop_len_map (by first | exact W rfl id | exact E rfl)) rfl ?_ | refine dlg rfl rfl rfl (lop_len_ro (by first | exact W rfl id | exact E rfl)) rfl ?_ | refine dlg rfl rfl rfl (lop_len_own (by first | exact W rfl id | exact E rfl)) rfl ?_
    first | refine dln rfl rfl rfl rfl rfl ?_ | (first | refine dly rfl rfl rfl (lop_slice_ro (by first | exact W rfl id | exact E rfl) (OB.some (by first | exact W rfl id | exact E rfl) (fun _ => by first | rfl | exact (Int.toNat_of_nonneg (by omega)).symm)) OB.none (fun _ => by first | (simp only [List.length_map]; omega) | omega)) rfl ?_ | refine dly rfl rfl rfl (lop_slice_own (by first | exact W rfl id | exact E rfl) sgT (OB.some (by first | exact W rfl id | exact E rfl) (fun _ => by first | rfl | exact (Int.toNat_of_nonneg (by omega)).symm)) OB.none (fun _ => by first | (simp only [List.length_map]; omega) | omega)) rfl ?_) | refine dlg rfl rfl rfl (lop_slice_ro (by first | exact W rfl id | exact E rfl) (OB.some (by first | exact W rfl id | exact E rfl) (fun _ => by first | rfl | exact (Int.toNat_of_nonneg (by omega)).symm)) OB.none (fun _ => by first | (simp only [List.length_map]; omega) | omega)) rfl ?_ | refine dlg rfl rfl rfl (lop_slice_own (by first | exact W rfl id | exact E rfl) sgT (OB.some (by first | exact W rfl id | exact E rfl) (fun _ => by first | rfl | exact (Int.toNat_of_nonneg (by omega)).symm)) OB.none (fun _ => by first | (simp only [List.length_map]; omega) | omega)) rfl ?_
    first | refine dln rfl rfl rfl rfl rfl ?_ | (first | refine dly rfl rfl rfl (lop_bytes_ro (by first | exact W rfl id | exact E rfl)) rfl ?_ | refine dly rfl rfl rfl (lop_text_own (by first | exact W rfl id | exact E rfl)) rfl ?_) | refine dlg rfl rfl rfl (lop_bytes_ro (by first | exact W rfl id | exact E rfl)) rfl ?_ | refine dlg rfl rfl rfl (lop_text_own (by first | exact W rfl id | exact E rfl)) rfl ?_
    first | refine dln rfl rfl rfl rfl rfl ?_ | (first | refine dly rfl rfl rfl (lop_load_ptr_agg (E rfl) rfl sgT (fun _ => Nat.le_of_ble_eq_true rfl)) rfl ?_ | refine dly rfl rfl rfl (lop_load_el_agg (E rfl) rfl (fun hc => by first | rfl | exact get_map (by assumption) | assumption | exact get_map (at_bang (by omega))) (fun _ => Nat.le_of_ble_eq_true rfl)) rfl ?_) | refine dlg rfl rfl rfl (lop_load_ptr_agg (E rfl) rfl sgT (fun _ => Nat.le_of_ble_eq_true rfl)) rfl ?_ | refine dlg rfl rfl rfl (lop_load_el_agg (E rfl) rfl (fun hc => by first | rfl | exact get_map (by assumption) | assumption | exact get_map (at_bang (by (try simp at hc) <;> omega))) (fun _ => Nat.le_of_ble_eq_true rfl)) rfl ?_
    first | refine dln rfl rfl rfl rfl rfl ?_ | (first | refine dly rfl rfl rfl (lop_load_ptr_agg (E rfl) rfl sgT (fun _ => Nat.le_of_ble_eq_true rfl)) rfl ?_ | refine dly rfl rfl rfl (lop_load_el_agg (E rfl) rfl (fun hc => by first | rfl | exact get_map (by assumption) | assumption | exact get_map (at_bang (by omega))) (fun _ => Nat.le_of_ble_eq_true rfl)) rfl ?_) | refine dlg rfl rfl rfl (lop_load_ptr_agg (E rfl) rfl sgT (fun _ => Nat.le_of_ble_eq_true rfl)) rfl ?_ | refine dlg rfl rfl rfl (lop_load_el_agg (E rfl) rfl (fun hc => by first | rfl | exact get_map (by assumption) | assumption | exact get_map (at_bang (by (try simp at hc) <;> omega))) (fun _ => Nat.le_of_ble_eq_true rfl)) rfl ?_
    refine dhn rfl rfl rfl rfl rfl ?_
    first | refine dln rfl rfl rfl rfl rfl ?_ | (first | refine dly rfl rfl rfl (lop_bytes_ro (by first | exact W rfl id | exact E rfl)) rfl ?_ | refine dly rfl rfl rfl (lop_text_own (by first | exact W rfl id | exact E rfl)) rfl ?_) | refine dlg rfl rfl rfl (lop_bytes_ro (by first | exact W rfl id | exact E rfl)) rfl ?_ | refine dlg rfl rfl rfl (lop_text_own (by first | exact W rfl id | exact E rfl)) rfl ?_
    first | refine dln rfl rfl rfl rfl rfl ?_ | (refine dly rfl rfl rfl (lop_seql (by first | exact W rfl id | exact E rfl) (by first | exact W rfl id | exact E rfl)) rfl ?_) | refine dlg rfl rfl rfl (lop_seql (by first | exact W rfl id | exact E rfl) (by first | exact W rfl id | exact E rfl)) rfl ?_
    refine dhn rfl rfl rfl rfl rfl ?_
    first | refine dln rfl rfl rfl rfl rfl ?_ | (refine dly rfl rfl rfl (lop_beql (by first | exact W rfl id | exact E rfl) (by first | exact W rfl id | exact E rfl)) rfl ?_) | refine dlg rfl rfl rfl (lop_beql (by first | exact W rfl id | exact E rfl) (by first | exact W rfl id | exact E rfl)) rfl ?_
    first | refine dlo rfl (lop_pick_t (E rfl) (E rfl)) rfl ?_ | refine dlo rfl (lop_pick_f (E rfl) (by first | exact W rfl (by simp) | exact E rfl)) rfl ?_ | refine dlo rfl (lop_pick (E rfl) (E rfl) (by first | exact W rfl (by simp) | exact E rfl)) rfl ?_
    refine dlo rfl (lop_assign (E rfl)) rfl ?_
    refine deT ?_
    (refine ctlT ?_)
    (apply aend; (exact resT))
    · rfl
    · (exact stleT)
theorem law_instrAll2 (x y : Ins) (h r : List Int) (hx : x.Wf) (hy : y.Wf) (hh : h.length ≤ maxLen ∧ ∀ a ∈ h, U8 a) (hr : r.length ≤ maxLen ∧ ∀ a ∈ r, U8 a) : SCall Try.prog 3 [.agg (iv .any x), .agg (iv .any y), .ro 1 (h.map encU8) .any, .ro 1 (r.map encU8) .any] [] (fun x _ => x = .bool true) := by
  obtain ⟨v, -, h1, h2, h3⟩ := nats hh
  obtain ⟨w, -, k1, k2, k3⟩ := nats hr
  rw [h3, k3]
  exact law_instrAll x y hx hy v w h1 h2 k1 k2
end Go.Proofs.Ytkjfflabapeidaa
