/-
  InstrLimits.
-/
import Derived.Test.YtkjfflabapeidaaInstrPl

namespace Go.Proofs.Ytkjfflabapeidaa
open Go.RowKit Go.ChangeShapes Go.WideShapes Go.ChangeAt Go.Deep
set_option linter.unusedSimpArgs false
set_option linter.unusedVariables false
attribute [local irreducible] SW RS RD AThen ABlock


set_option maxRecDepth 100000 in
theorem law_instrLimits (op a b n : Int) (hop : -9223372036854775808 ≤ op ∧ op ≤ 9223372036854775807) (ha : -9223372036854775808 ≤ a ∧ a ≤ 9223372036854775807) : SCall Try.prog 7 [.int .i64 op, .int .i64 a, .int .i64 b, .int .i64 n] [] (fun x _ => x = .bool true) := by
  refine scall_of (n := 61) (ks := [0, 1, 2, 3, 8, 9, 10, 11, 12, 13, 16, 22, 28, 36, 39]) Try.func7 rfl rfl (Nat.le_of_ble_eq_true rfl) ?_
  (refine ctlT ?_)
  refine rgT ?_
  refine lo (lop_assign (E rfl)) rfl ?_
  refine leT ?_
  (refine ctlT ?_)
  refine rgT ?_
  refine puA Try.call16 law_begun5 rfl pargsT nofT ?_
  refine lo (lop_assign (E rfl)) rfl ?_
  refine leT ?_
  (refine ctlT ?_)
  refine rgT ?_
  refine lo (lop_move (E rfl)) rfl ?_
  refine lo (lop_not (E rfl)) rfl ?_
  refine leT ?_
  (refine ctlT ?_)
  refine rgT ?_
  refine lo (lop_move (E rfl)) rfl ?_
  refine lo (lop_lss (E rfl) (E rfl)) rfl ?_
  refine lo (lop_move (E rfl)) rfl ?_
  first | refine ln rfl rfl rfl rfl ?_ | (refine gy rfl rfl ?_; refine lo (lop_move (E rfl)) rfl ?_) | refine lg rfl rfl (lop_move (E rfl)) rfl ?_
  first | refine ln rfl rfl rfl rfl ?_ | (refine gy rfl rfl ?_; refine lo (lop_gtr (by first | exact W rfl id | exact E rfl) (E rfl)) rfl ?_) | refine lg rfl rfl (lop_gtr (by first | exact W rfl id | exact E rfl) (E rfl)) rfl ?_
  first | refine lo (lop_pick_t (E rfl) (E rfl)) rfl ?_ | refine lo (lop_pick_f (E rfl) (by first | exact W rfl (by simp) | exact E rfl)) rfl ?_ | refine lo (lop_pick (E rfl) (E rfl) (by first | exact W rfl (by simp) | exact E rfl)) rfl ?_
  refine leT ?_
  (refine ctlT ?_)
  refine sw_cond rfl (fun g4 => ?_) (fun g4 => ?_)
  · (refine ctlT ?_)
    refine rgT ?_
    refine lo (lop_assign (E rfl)) rfl ?_
    refine leT ?_
    (refine ctlT ?_)
    (apply aend; (exact resT))
    · rfl
    · (exact stleT)
  obtain ⟨m, rfl, hm⟩ : ∃ m : Nat, n = (m : Int) ∧ m ≤ 55 := by replace g4 := bT g4; exact ⟨n.toNat, by omega, by omega⟩
  (refine ctlT ?_)
  refine rgT ?_
  refine lo (lop_move (E rfl)) rfl ?_
  refine lo (lop_move (E rfl)) rfl ?_
  refine lo (lop_move (E rfl)) rfl ?_
  refine z93 ?_
  apply al; rfl; (exact zcT); refine freshT fun r10 h10 => ?_; (repeat (rcases h10 with ⟨_, h10⟩))
  apply stp; rfl; rfl; rfl; rfl; (exact sputT)
  refine leT ?_
  (refine ctlT ?_)
  refine rgT ?_
  refine lo (lop_move (E rfl)) rfl ?_
  refine lo (lop_eql (E rfl) (E rfl)) rfl ?_
  refine leT ?_
  (refine ctlT ?_)
  refine sw_cond rfl (fun g7 => ?_) (fun g7 => ?_)
  · obtain ⟨l, hl, hll, hlm⟩ : ∃ l : List Int, l.map encI = List.replicate m (encI 0) ∧ l.length = m ∧ l.length ≤ 55 := ⟨List.replicate m 0, by simp, by simp, by simp; omega⟩
    (refine ctlT ?_)
    refine rgT ?_
    refine lo (lop_move (E rfl)) rfl ?_
    apply mk (l := m) (z := encI 0); rfl; rfl; rfl; rfl
    · omega
    · simp [maxLen]; omega
    · rfl
    · rfl
    refine freshT fun r30 h30 => ?_; (repeat (rcases h30 with ⟨_, h30⟩))
    refine z59 ?_
    apply stp; rfl; rfl; rfl; rfl; (exact sputT)
    refine leT ?_
    (refine ctlT ?_)
    refine sw_go (s' := ⟨[(10, .ptr r10 0)], [(r10, .box 24 [.int .i64 op, .int .i64 a, .int .i64 b, .own r30 0 l.length]), (r30, .arr 3 1 (l.map encI))]⟩) (by first | (subst hl; exact sgoT) | (rw [hl, hll]; exact sgoT)) ?_
    refine rgD [(0, true), (2, true), (1, false), (3, false), (4, true)] ?_
    refine z96 ?_
    refine z96 ?_
    refine dpuA rfl Try.call20 (instr_may .any ⟨op, a, b, l⟩) rfl pargsT nofT ?_
    refine dpuA rfl Try.call19 (ref_mayInstr .any ⟨op, a, b, l⟩ ⟨hop.1, hop.2, ha.1, ha.2, by simp; omega⟩) rfl pargsT nofT ?_
    refine dlo rfl (lop_bneq (E rfl) (E rfl)) rfl ?_
    refine deT ?_
    (refine ctlT ?_)
    generalize hx : (⟨op, a, b, l⟩ : Ins) = x
    obtain ⟨hxo, e1, e2, e3, e4⟩ : x.Ok ∧ x.op = op ∧ x.a = a ∧ x.b = b ∧ x.l = l := by subst hx; exact ⟨⟨hop.1, hop.2, ha.1, ha.2, by simp; omega⟩, rfl, rfl, rfl, rfl⟩
    subst e1 e2 e3 e4
    rw [show (!mayN x == mayN x) = false by cases mayN x <;> rfl]
    (refine ctlT ?_)
    refine rgT ?_
    refine z99 ?_
    refine puA Try.call19 (ref_mayInstr .any x hxo) rfl pargsT nofT ?_
    refine lo (lop_not (E rfl)) rfl ?_
    refine leT ?_
    (refine ctlT ?_)
    refine sw_cond rfl (fun g11 => ?_) (fun g11 => ?_)
    · (refine ctlT ?_)
      refine rgT ?_
      refine lo (lop_assign (E rfl)) rfl ?_
      refine leT ?_
      (refine ctlT ?_)
      (apply aend; (exact resT))
      · rfl
      · (exact stleT)
    have hm : mayN x = true := by simpa using g11
    have hpl := putN_len hxo hm
    (refine ctlT ?_)
    refine rgT ?_
    refine z99 ?_
    refine clA Try.call23 (nil_put .any x hxo hm) rfl bargsT noT ?_
    rintro _ σ' ⟨r42, rfl, rfl⟩ h42
    replace h42 := lnewT h42; (repeat (rcases h42 with ⟨_, h42⟩))
    (apply rs_sto; (exact nflT))
    refine clA Try.call25 (instr_get (putN x) (by omega) (putN_lt hm)) rfl bargsT noT ?_
    rintro _ σ' ⟨r43, rfl, rfl⟩ h43
    replace h43 := lnewT h43; (repeat (rcases h43 with ⟨_, h43⟩))
    (apply rs_sto; (exact nflT))
    rw [get_put0 hxo hm]
    dsimp only
    refine lo (lop_move (E rfl)) rfl ?_
    refine lo (lop_extract (E rfl) rfl) rfl ?_
    refine lo (lop_extract (E rfl) rfl) rfl ?_
    refine lo (lop_extract (E rfl) rfl) rfl ?_
    apply al; rfl; (exact zcT); refine freshT fun r11 h11 => ?_; (repeat (rcases h11 with ⟨_, h11⟩))
    apply stp; rfl; rfl; rfl; rfl; (exact sputT)
    refine lo (lop_assign (E rfl)) rfl ?_
    refine lo (lop_assign (E rfl)) rfl ?_
    refine leT ?_
    (refine ctlT ?_)
    refine rgT ?_
    refine lo (lop_move (E rfl)) rfl ?_
    refine lo (lop_eql (E rfl) (E rfl)) rfl ?_
    refine lo (lop_move (E rfl)) rfl ?_
    first | refine ln rfl rfl rfl rfl ?_ | (refine gy rfl rfl ?_; refine lo (lop_move (E rfl)) rfl ?_) | refine lg rfl rfl (lop_move (E rfl)) rfl ?_
    first | refine ln rfl rfl rfl rfl ?_ | (refine gy rfl rfl ?_; (first | refine lo (lop_load_ptr_agg (E rfl) rfl sgT (fun _ => Nat.le_of_ble_eq_true rfl)) rfl ?_ | refine lo (lop_load_el_agg (E rfl) rfl (fun hc => by first | rfl | exact get_map (by assumption) | assumption | exact get_map (at_bang (by omega))) (fun _ => Nat.le_of_ble_eq_true rfl)) rfl ?_)) | refine lg rfl rfl (lop_load_ptr_agg (E rfl) rfl sgT (fun _ => Nat.le_of_ble_eq_true rfl)) rfl ?_ | refine lg rfl rfl (lop_load_el_agg (E rfl) rfl (fun hc => by first | rfl | exact get_map (by assumption) | assumption | exact get_map (at_bang (by (try simp at hc) <;> omega))) (fun _ => Nat.le_of_ble_eq_true rfl)) rfl ?_
    refine gy rfl rfl ?_
    refine clA Try.call24 (ref_putInstr .any x hxo hm) rfl bargsT noT ?_
    rintro _ σ' ⟨r52, rfl, rfl⟩ h52
    replace h52 := lnewT h52; (repeat (rcases h52 with ⟨_, h52⟩))
    (apply rs_sto; (exact nflT))
    first | refine ln rfl rfl rfl rfl ?_ | (refine gy rfl rfl ?_; (first | refine lo (lop_len_map (by first | exact W rfl id | exact E rfl)) rfl ?_ | refine lo (lop_len_ro (by first | exact W rfl id | exact E rfl)) rfl ?_ | refine lo (lop_len_own (by first | exact W rfl id | exact E rfl)) rfl ?_)) | refine lg rfl rfl (lop_len_map (by first | exact W rfl id | exact E rfl)) rfl ?_ | refine lg rfl rfl (lop_len_ro (by first | exact W rfl id | exact E rfl)) rfl ?_ | refine lg rfl rfl (lop_len_own (by first | exact W rfl id | exact E rfl)) rfl ?_
    first | refine ln rfl rfl rfl rfl ?_ | (refine gy rfl rfl ?_; refine lo (lop_eql (by first | exact W rfl id | exact E rfl) (by first | exact W rfl id | exact E rfl)) rfl ?_) | refine lg rfl rfl (lop_eql (by first | exact W rfl id | exact E rfl) (by first | exact W rfl id | exact E rfl)) rfl ?_
    refine z68 ?_
    refine lo (lop_move (E rfl)) rfl ?_
    simp only [beq_self_eq_true]
    first | refine ln rfl rfl rfl rfl ?_ | (refine gy rfl rfl ?_; (first | refine lo (lop_load_ptr_agg (E rfl) rfl sgT (fun _ => Nat.le_of_ble_eq_true rfl)) rfl ?_ | refine lo (lop_load_el_agg (E rfl) rfl (fun hc => by first | rfl | exact get_map (by assumption) | assumption | exact get_map (at_bang (by omega))) (fun _ => Nat.le_of_ble_eq_true rfl)) rfl ?_)) | refine lg rfl rfl (lop_load_ptr_agg (E rfl) rfl sgT (fun _ => Nat.le_of_ble_eq_true rfl)) rfl ?_ | refine lg rfl rfl (lop_load_el_agg (E rfl) rfl (fun hc => by first | rfl | exact get_map (by assumption) | assumption | exact get_map (at_bang (by (try simp at hc) <;> omega))) (fun _ => Nat.le_of_ble_eq_true rfl)) rfl ?_
    first | refine ln rfl rfl rfl rfl ?_ | (refine gy rfl rfl ?_; (first | refine lo (lop_load_ptr_agg (E rfl) rfl sgT (fun _ => Nat.le_of_ble_eq_true rfl)) rfl ?_ | refine lo (lop_load_el_agg (E rfl) rfl (fun hc => by first | rfl | exact get_map (by assumption) | assumption | exact get_map (at_bang (by omega))) (fun _ => Nat.le_of_ble_eq_true rfl)) rfl ?_)) | refine lg rfl rfl (lop_load_ptr_agg (E rfl) rfl sgT (fun _ => Nat.le_of_ble_eq_true rfl)) rfl ?_ | refine lg rfl rfl (lop_load_el_agg (E rfl) rfl (fun hc => by first | rfl | exact get_map (by assumption) | assumption | exact get_map (at_bang (by (try simp at hc) <;> omega))) (fun _ => Nat.le_of_ble_eq_true rfl)) rfl ?_
    refine gy rfl rfl ?_
    refine puA Try.call22 (ref_eqInstr .any .any x x) rfl pargsT nofT ?_
    rw [eqN_self]
    refine z68 ?_
    refine lo (lop_assign (E rfl)) rfl ?_
    refine leT ?_
    (refine ctlT ?_)
    (apply aend; (exact resT))
    · rfl
    · (exact stleT)
  obtain ⟨l, hl, hlm⟩ : ∃ l : List Int, l = [] ∧ l.length ≤ 55 := ⟨[], rfl, by simp⟩
  refine sw_virt_box (ks := [0, 1, 2, 3, 8, 9, 10, 11, 12, 13, 16, 22, 28, 36, 39]) r10 3 3 1 (by decide) sgT rfl (by decide) fun r30 hq => ?_
  simp only [fresh_cons, fresh_nil, and_true] at hq; (repeat (rcases hq with ⟨_, hq⟩))
  apply Exists.intro; apply And.intro; (exact ssetT)
  (refine ctlT ?_)
  refine sw_go (s' := ⟨[(10, .ptr r10 0)], [(r10, .box 24 [.int .i64 op, .int .i64 a, .int .i64 b, .own r30 0 l.length]), (r30, .arr 3 1 (l.map encI))]⟩) (by first | (subst hl; exact sgoT) | (rw [hl, hll]; exact sgoT)) ?_
  refine rgD [(0, true), (2, true), (1, false), (3, false), (4, true)] ?_
  refine z96 ?_
  refine z96 ?_
  refine dpuA rfl Try.call20 (instr_may .any ⟨op, a, b, l⟩) rfl pargsT nofT ?_
  refine dpuA rfl Try.call19 (ref_mayInstr .any ⟨op, a, b, l⟩ ⟨hop.1, hop.2, ha.1, ha.2, by simp; omega⟩) rfl pargsT nofT ?_
  refine dlo rfl (lop_bneq (E rfl) (E rfl)) rfl ?_
  refine deT ?_
  (refine ctlT ?_)
  generalize hx : (⟨op, a, b, l⟩ : Ins) = x
  obtain ⟨hxo, e1, e2, e3, e4⟩ : x.Ok ∧ x.op = op ∧ x.a = a ∧ x.b = b ∧ x.l = l := by subst hx; exact ⟨⟨hop.1, hop.2, ha.1, ha.2, by simp; omega⟩, rfl, rfl, rfl, rfl⟩
  subst e1 e2 e3 e4
  rw [show (!mayN x == mayN x) = false by cases mayN x <;> rfl]
  (refine ctlT ?_)
  refine rgT ?_
  refine z99 ?_
  refine puA Try.call19 (ref_mayInstr .any x hxo) rfl pargsT nofT ?_
  refine lo (lop_not (E rfl)) rfl ?_
  refine leT ?_
  (refine ctlT ?_)
  refine sw_cond rfl (fun g11 => ?_) (fun g11 => ?_)
  · (refine ctlT ?_)
    refine rgT ?_
    refine lo (lop_assign (E rfl)) rfl ?_
    refine leT ?_
    (refine ctlT ?_)
    (apply aend; (exact resT))
    · rfl
    · (exact stleT)
  have hm : mayN x = true := by simpa using g11
  have hpl := putN_len hxo hm
  (refine ctlT ?_)
  refine rgT ?_
  refine z99 ?_
  refine clA Try.call23 (nil_put .any x hxo hm) rfl bargsT noT ?_
  rintro _ σ' ⟨r42, rfl, rfl⟩ h42
  replace h42 := lnewT h42; (repeat (rcases h42 with ⟨_, h42⟩))
  (apply rs_sto; (exact nflT))
  refine clA Try.call25 (instr_get (putN x) (by omega) (putN_lt hm)) rfl bargsT noT ?_
  rintro _ σ' ⟨r43, rfl, rfl⟩ h43
  replace h43 := lnewT h43; (repeat (rcases h43 with ⟨_, h43⟩))
  (apply rs_sto; (exact nflT))
  rw [get_put0 hxo hm]
  dsimp only
  refine lo (lop_move (E rfl)) rfl ?_
  refine lo (lop_extract (E rfl) rfl) rfl ?_
  refine lo (lop_extract (E rfl) rfl) rfl ?_
  refine lo (lop_extract (E rfl) rfl) rfl ?_
  apply al; rfl; (exact zcT); refine freshT fun r11 h11 => ?_; (repeat (rcases h11 with ⟨_, h11⟩))
  apply stp; rfl; rfl; rfl; rfl; (exact sputT)
  refine lo (lop_assign (E rfl)) rfl ?_
  refine lo (lop_assign (E rfl)) rfl ?_
  refine leT ?_
  (refine ctlT ?_)
  refine rgT ?_
  refine lo (lop_move (E rfl)) rfl ?_
  refine lo (lop_eql (E rfl) (E rfl)) rfl ?_
  refine lo (lop_move (E rfl)) rfl ?_
  first | refine ln rfl rfl rfl rfl ?_ | (refine gy rfl rfl ?_; refine lo (lop_move (E rfl)) rfl ?_) | refine lg rfl rfl (lop_move (E rfl)) rfl ?_
  first | refine ln rfl rfl rfl rfl ?_ | (refine gy rfl rfl ?_; (first | refine lo (lop_load_ptr_agg (E rfl) rfl sgT (fun _ => Nat.le_of_ble_eq_true rfl)) rfl ?_ | refine lo (lop_load_el_agg (E rfl) rfl (fun hc => by first | rfl | exact get_map (by assumption) | assumption | exact get_map (at_bang (by omega))) (fun _ => Nat.le_of_ble_eq_true rfl)) rfl ?_)) | refine lg rfl rfl (lop_load_ptr_agg (E rfl) rfl sgT (fun _ => Nat.le_of_ble_eq_true rfl)) rfl ?_ | refine lg rfl rfl (lop_load_el_agg (E rfl) rfl (fun hc => by first | rfl | exact get_map (by assumption) | assumption | exact get_map (at_bang (by (try simp at hc) <;> omega))) (fun _ => Nat.le_of_ble_eq_true rfl)) rfl ?_
  refine gy rfl rfl ?_
  refine clA Try.call24 (ref_putInstr .any x hxo hm) rfl bargsT noT ?_
  rintro _ σ' ⟨r52, rfl, rfl⟩ h52
  replace h52 := lnewT h52; (repeat (rcases h52 with ⟨_, h52⟩))
  (apply rs_sto; (exact nflT))
  first | refine ln rfl rfl rfl rfl ?_ | (refine gy rfl rfl ?_; (first | refine lo (lop_len_map (by first | exact W rfl id | exact E rfl)) rfl ?_ | refine lo (lop_len_ro (by first | exact W rfl id | exact E rfl)) rfl ?_ | refine lo (lop_len_own (by first | exact W rfl id | exact E rfl)) rfl ?_)) | refine lg rfl rfl (lop_len_map (by first | exact W rfl id | exact E rfl)) rfl ?_ | refine lg rfl rfl (lop_len_ro (by first | exact W rfl id | exact E rfl)) rfl ?_ | refine lg rfl rfl (lop_len_own (by first | exact W rfl id | exact E rfl)) rfl ?_
  first | refine ln rfl rfl rfl rfl ?_ | (refine gy rfl rfl ?_; refine lo (lop_eql (by first | exact W rfl id | exact E rfl) (by first | exact W rfl id | exact E rfl)) rfl ?_) | refine lg rfl rfl (lop_eql (by first | exact W rfl id | exact E rfl) (by first | exact W rfl id | exact E rfl)) rfl ?_
  refine z68 ?_
  refine lo (lop_move (E rfl)) rfl ?_
  simp only [beq_self_eq_true]
  first | refine ln rfl rfl rfl rfl ?_ | (refine gy rfl rfl ?_; (first | refine lo (lop_load_ptr_agg (E rfl) rfl sgT (fun _ => Nat.le_of_ble_eq_true rfl)) rfl ?_ | refine lo (lop_load_el_agg (E rfl) rfl (fun hc => by first | rfl | exact get_map (by assumption) | assumption | exact get_map (at_bang (by omega))) (fun _ => Nat.le_of_ble_eq_true rfl)) rfl ?_)) | refine lg rfl rfl (lop_load_ptr_agg (E rfl) rfl sgT (fun _ => Nat.le_of_ble_eq_true rfl)) rfl ?_ | refine lg rfl rfl (lop_load_el_agg (E rfl) rfl (fun hc => by first | rfl | exact get_map (by assumption) | assumption | exact get_map (at_bang (by (try simp at hc) <;> omega))) (fun _ => Nat.le_of_ble_eq_true rfl)) rfl ?_
  first | refine ln rfl rfl rfl rfl ?_ | (refine gy rfl rfl ?_; (first | refine lo (lop_load_ptr_agg (E rfl) rfl sgT (fun _ => Nat.le_of_ble_eq_true rfl)) rfl ?_ | refine lo (lop_load_el_agg (E rfl) rfl (fun hc => by first | rfl | exact get_map (by assumption) | assumption | exact get_map (at_bang (by omega))) (fun _ => Nat.le_of_ble_eq_true rfl)) rfl ?_)) | refine lg rfl rfl (lop_load_ptr_agg (E rfl) rfl sgT (fun _ => Nat.le_of_ble_eq_true rfl)) rfl ?_ | refine lg rfl rfl (lop_load_el_agg (E rfl) rfl (fun hc => by first | rfl | exact get_map (by assumption) | assumption | exact get_map (at_bang (by (try simp at hc) <;> omega))) (fun _ => Nat.le_of_ble_eq_true rfl)) rfl ?_
  refine gy rfl rfl ?_
  refine puA Try.call22 (ref_eqInstr .any .any x x) rfl pargsT nofT ?_
  rw [eqN_self]
  refine z68 ?_
  refine lo (lop_assign (E rfl)) rfl ?_
  refine leT ?_
  (refine ctlT ?_)
  (apply aend; (exact resT))
  · rfl
  · (exact stleT)
end Go.Proofs.Ytkjfflabapeidaa
