/-
  InstrMany.
-/
import Derived.Test.YtkjfflabapeidaaInstrR
import Derived.Test.YtkjfflabapeidaaInstrRd
namespace Go.Proofs.Ytkjfflabapeidaa
open Go.RowKit Go.ChangeShapes Go.WideShapes Go.ChangeAt Go.Deep
set_option linter.unusedSimpArgs false
set_option linter.unusedVariables false
attribute [local irreducible] SW RS RD AThen ABlock

def mN (L : List Ins) (j : Nat) : List Ins := (L.take j).filter mayN
def pN (L : List Ins) (j : Nat) : List Nat := (mN L j).flatMap putN
theorem mN_yes {L : List Ins} {j : Nat} {x : Ins} (h : L[j]? = some x) (hm : mayN x = true) : mN L (j + 1) = mN L j ++ [x] := by
  unfold mN; rw [List.take_add_one, h, List.filter_append]; simp [hm]
theorem mN_no {L : List Ins} {j : Nat} {x : Ins} (h : L[j]? = some x) (hm : mayN x = false) : mN L (j + 1) = mN L j := by
  unfold mN; rw [List.take_add_one, h, List.filter_append]; simp [hm]
theorem mN_mem {L : List Ins} {j : Nat} {x : Ins} (h : x ∈ mN L j) : x ∈ L ∧ mayN x = true := by
  unfold mN at h
  rw [List.mem_filter] at h
  exact ⟨List.mem_of_mem_take h.1, h.2⟩
theorem flat_put_len : ∀ {M : List Ins}, (∀ x ∈ M, x.Ok ∧ mayN x = true) → (M.flatMap putN).length ≤ 200 * M.length
  | [], _ => by simp
  | x :: M, h => by
    have ih := flat_put_len (M := M) fun y hy => h y (List.mem_cons_of_mem _ hy)
    have h1 := putN_len (h x List.mem_cons_self).1 (h x List.mem_cons_self).2
    simp only [List.flatMap_cons, List.length_append, List.length_cons]
    omega
theorem flat_put_lt {M : List Ins} (h : ∀ x ∈ M, x.Ok ∧ mayN x = true) : ∀ b ∈ M.flatMap putN, b < 256 := by
  intro b hb
  obtain ⟨x, hx, hb⟩ := List.mem_flatMap.1 hb
  exact putN_lt (h x hx).2 b hb
theorem mN_len (L : List Ins) (j : Nat) : (mN L j).length ≤ L.length := by
  unfold mN
  refine Nat.le_trans (List.length_filter_le ..) ?_
  simp; omega
theorem cut_ok {x : Ins} (h : x.Wf) : (cutN x).Ok := ⟨h.1.1, h.1.2, h.2.1.1, h.2.1.2, by simp [cutN]; omega⟩
theorem body_ok {l : List Ins} (h : ∀ x ∈ l, x.Wf) (n : Nat) : ∀ x ∈ bodyN l n, x.Ok := by
  intro x hx
  obtain ⟨y, hy, rfl⟩ := List.mem_map.1 hx
  exact cut_ok (h y (List.mem_of_mem_take hy))
def bN (M : List Ins) (j : Nat) : List Nat := (M.drop j).flatMap putN
theorem bN_next {M : List Ins} {j : Nat} {x : Ins} (h : M[j]? = some x) : bN M j = putN x ++ bN M (j + 1) := by
  unfold bN
  obtain ⟨hj, hx⟩ := List.getElem?_eq_some_iff.1 h
  rw [List.drop_eq_getElem_cons hj, hx]
  simp
set_option maxRecDepth 100000 in
theorem law_instrMany (l : List Ins) (hl : l.length ≤ maxLen) (hw : ∀ x ∈ l, x.Wf) : SCall Try.prog 6 [.ro 4 (l.map (iv .any)) .any] [] (fun x _ => x = .bool true) := by
  refine scall_of (n := 75) (ks := [0, 2, 3, 4, 5, 6, 7, 8, 9, 10, 13, 19, 26, 43, 68]) Try.func6 rfl rfl (Nat.le_of_ble_eq_true rfl) ?_
  (refine ctlT ?_)
  refine rgT ?_
  refine lo (lop_assign (E rfl)) rfl ?_
  refine leT ?_
  (refine ctlT ?_)
  refine rgT ?_
  refine puA Try.call16 law_begun5 rfl pargsT nofT ?_
  refine lo (lop_assign (E rfl)) rfl ?_
  refine leT ?_
  (refine ctlT ?_)
  refine rgT ?_
  refine lo (lop_move (E rfl)) rfl ?_
  refine lo (lop_not (E rfl)) rfl ?_
  refine leT ?_
  (refine ctlT ?_)
  refine rgT ?_
  refine lo (lop_move (E rfl)) rfl ?_
  refine cw [] Try.call28 (law_body l hl (fun x hx => (hw x hx).2.2.2.1) 30 (by decide)) rfl argsleT stleT ?_
  rintro _ σ' ⟨q4, rfl, rfl⟩ h15
  (apply rs_sto; (exact nflT))
  refine fzv (j := 15) rfl sdelT (bor_own sgT (by simp)) ?_
  refine lo (lop_assign (E rfl)) rfl ?_
  refine leT ?_
  (refine ctlT ?_)
  have hL := body_ok hw 30
  have hLl : (bodyN l 30).length ≤ 30 := by unfold bodyN; simp; omega
  generalize bodyN l 30 = L at hL hLl ⊢
  refine rgT ?_
  refine lo (lop_assign (E rfl)) rfl ?_
  refine leT ?_
  (refine ctlT ?_)
  refine rgT ?_
  refine lo (lop_assign (E rfl)) rfl ?_
  refine leT ?_
  (refine ctlT ?_)
  refine rgT ?_
  refine lo (lop_assign (E rfl)) rfl ?_
  refine leT ?_
  (refine ctlT ?_)
  refine sw_virt 4 5 1 (by decide) rfl (by decide) (freshT fun b0 hb0 => ?_); (repeat (rcases hb0 with ⟨_, hb0⟩))
  refine sw_virt 5 24 4 (by decide) rfl (by decide) (freshT fun m0 hm0 => ?_); (repeat (rcases hm0 with ⟨_, hm0⟩))
  refine lp (β := Nat × Nat × Nat) (fun b => ⟨[(0, .ro 4 (L.map (iv .any)) .any), (4, .own b.1 0 (pN L b.2.2).length), (5, .own b.2.1 0 (mN L b.2.2).length), (6, .int .i64 b.2.2)], [(b.1, .arr 5 1 ((pN L b.2.2).map encU)), (b.2.1, .arr 24 4 ((mN L b.2.2).map (iv .any)))]⟩) (fun b => Nq b.1 b.2.1 ∧ b.2.2 ≤ L.length) (fun b => L.length - b.2.2) (b0, m0, 0) sgoT ⟨by show Nq b0 m0; (exact nqT), Nat.zero_le _⟩ ?_
  rintro ⟨b, m, j⟩ ⟨hbm, hj⟩
  dsimp only at hbm hj ⊢
  have hM : ∀ x ∈ mN L j, x.Ok ∧ mayN x = true := fun x hx => ⟨hL x (mN_mem hx).1, (mN_mem hx).2⟩
  have hMl := mN_len L j
  have hpl : (pN L j).length ≤ 200 * (mN L j).length := flat_put_len hM
  (refine ctlT ?_)
  refine rgT ?_
  refine lo (lop_move (E rfl)) rfl ?_
  refine lo (lop_move (E rfl)) rfl ?_
  refine z14 ?_
  refine lo (lop_lss (E rfl) (E rfl)) rfl ?_
  refine leT ?_
  (refine ctlT ?_)
  refine sw_cond rfl (fun g8 => ?_) (fun g8 => ?_)
  · have hlt : j < L.length := by simp at g8; omega
    obtain ⟨x, hx⟩ : ∃ x, L[j]? = some x := ⟨_, List.getElem?_eq_getElem hlt⟩
    have hxo := hL x (List.mem_of_getElem? hx)
    (refine ctlT ?_)
    refine rgT ?_
    refine lo (lop_move (E rfl)) rfl ?_
    refine lo (lop_move (E rfl)) rfl ?_
    refine z15 ?_
    first | refine lo (lop_load_el_agg (E rfl) rfl (fun hc => by first | rfl | exact get_map (by assumption) | assumption | exact get_map (at_bang (by omega))) (fun _ => Nat.le_of_ble_eq_true rfl)) rfl ?_ | refine lo (lop_load_ow_agg (E rfl) rfl sgT (fun hc => by first | rfl | exact get_map (by assumption) | assumption | exact get_map (at_bang (by omega))) (fun _ => Nat.le_of_ble_eq_true rfl)) rfl ?_
    refine puA Try.call19 (ref_mayInstr .any x hxo) rfl pargsT nofT ?_
    refine leT ?_
    (refine ctlT ?_)
    refine sw_cond rfl (fun g10 => ?_) (fun g10 => ?_)
    · have hm1 := mN_yes hx g10
      have hp1 : pN L (j + 1) = pN L j ++ putN x := by unfold pN; rw [hm1]; simp
      (refine ctlT ?_)
      refine rgT ?_
      refine lo (lop_move (E rfl)) rfl ?_
      refine lo (lop_move (E rfl)) rfl ?_
      refine lo (lop_move (E rfl)) rfl ?_
      refine z15 ?_
      first | refine lo (lop_load_el_agg (E rfl) rfl (fun hc => by first | rfl | exact get_map (by assumption) | assumption | exact get_map (at_bang (by omega))) (fun _ => Nat.le_of_ble_eq_true rfl)) rfl ?_ | refine lo (lop_load_ow_agg (E rfl) rfl sgT (fun hc => by first | rfl | exact get_map (by assumption) | assumption | exact get_map (at_bang (by omega))) (fun _ => Nat.le_of_ble_eq_true rfl)) rfl ?_
      refine z1 ?_; refine freshT fun r32 h32 => ?_; (repeat (rcases h32 with ⟨_, h32⟩))
      refine apA ((mN L j ++ [x]).map (iv .any)) (mN L j ++ [x]).length ?_
      refine apnT fun r33 h33 => ?_; (repeat (rcases h33 with ⟨_, h33⟩))
      refine lo (lop_assign (E rfl)) rfl ?_
      refine leT ?_
      (refine ctlT ?_)
      refine rgT ?_
      refine lo (lop_move (E rfl)) rfl ?_
      refine lo (lop_move (E rfl)) rfl ?_
      refine lo (lop_move (E rfl)) rfl ?_
      refine z15 ?_
      first | refine lo (lop_load_el_agg (E rfl) rfl (fun hc => by first | rfl | exact get_map (by assumption) | assumption | exact get_map (at_bang (by omega))) (fun _ => Nat.le_of_ble_eq_true rfl)) rfl ?_ | refine lo (lop_load_ow_agg (E rfl) rfl sgT (fun hc => by first | rfl | exact get_map (by assumption) | assumption | exact get_map (at_bang (by omega))) (fun _ => Nat.le_of_ble_eq_true rfl)) rfl ?_
      refine cw [(b, .arr 5 1 ((pN L j).map encU))] Try.call23 (instr_put b (pN L j) (by omega) .any x hxo g10) rfl argsleT stleT ?_
      rintro _ σ' ⟨r39, rfl, rfl⟩ h39
      have k39 := rest1T h39; (repeat (rcases k39 with ⟨_, k39⟩))
      (apply rs_sto; (exact nflT))
      refine lo (lop_assign (E rfl)) rfl ?_
      refine leT ?_
      (refine ctlT ?_)
      refine rgT ?_
      refine lo (lop_move (E rfl)) rfl ?_
      refine z17 ?_
      refine lo (lop_assign (E rfl)) rfl ?_
      refine leT ?_
      (refine ctlT ?_)
      first | (refine ⟨(r39, r33, j + 1), ⟨by show Nq r39 r33; (exact nqT), hlt⟩, by show L.length - (j + 1) < L.length - j; omega, ?_⟩; dsimp only; rw [hm1, hp1]; (exact sgoT)) | (refine ⟨(b, m, j + 1), ⟨hbm, hlt⟩, by show L.length - (j + 1) < L.length - j; omega, ?_⟩; dsimp only; rw [hm1, hp1]; (exact sgoT))
    have hm1 := mN_no hx g10
    have hp1 : pN L (j + 1) = pN L j := by unfold pN; rw [hm1]
    (refine ctlT ?_)
    refine rgT ?_
    refine lo (lop_move (E rfl)) rfl ?_
    refine z17 ?_
    refine lo (lop_assign (E rfl)) rfl ?_
    refine leT ?_
    (refine ctlT ?_)
    first | (refine ⟨(r39, r33, j + 1), ⟨by show Nq r39 r33; (exact nqT), hlt⟩, by show L.length - (j + 1) < L.length - j; omega, ?_⟩; dsimp only; rw [hm1, hp1]; (exact sgoT)) | (refine ⟨(b, m, j + 1), ⟨hbm, hlt⟩, by show L.length - (j + 1) < L.length - j; omega, ?_⟩; dsimp only; rw [hm1, hp1]; (exact sgoT))
  unfold pN at hpl ⊢
  generalize mN L j = M at hM hMl hpl ⊢
  refine fzvs (j := 4) rfl sdelT (bor_own sgT (by simp)) ?_
  refine fzvs (j := 5) rfl sdelT (bor_own sgT (by simp)) ?_
  (refine ctlT ?_)
  refine rgT ?_
  refine lo (lop_assign (E rfl)) rfl ?_
  refine leT ?_
  (refine ctlT ?_)
  refine lp (β := Nat) (fun j => ⟨[(4, .ro 1 ((bN M j).map encU) .any), (5, .ro 4 (M.map (iv .any)) .any), (7, .int .i64 j)], []⟩) (fun j => j ≤ M.length) (fun j => M.length - j) 0 sgoT (Nat.zero_le _) ?_
  intro i hi
  (refine ctlT ?_)
  refine rgT ?_
  refine lo (lop_move (E rfl)) rfl ?_
  refine lo (lop_move (E rfl)) rfl ?_
  refine z14 ?_
  refine lo (lop_lss (E rfl) (E rfl)) rfl ?_
  refine leT ?_
  (refine ctlT ?_)
  refine sw_cond rfl (fun g14 => ?_) (fun g14 => ?_)
  · have hlt : i < M.length := by simp at g14; omega
    obtain ⟨x, hx⟩ : ∃ x, M[i]? = some x := ⟨_, List.getElem?_eq_getElem hlt⟩
    obtain ⟨hxo, hxm⟩ := hM x (List.mem_of_getElem? hx)
    have hbn := bN_next hx
    have hg : getP (bN M i) = (x, (putN x).length, 0) := by rw [hbn]; exact get_put hxo hxm _
    have hsub : ∀ y ∈ M.drop i, y.Ok ∧ mayN y = true := fun y hy => hM y (List.mem_of_mem_drop hy)
    have hbl : (bN M i).length ≤ 200 * (M.drop i).length := flat_put_len hsub
    have hdl : (M.drop i).length ≤ M.length := by simp
    have hle : (putN x).length ≤ (bN M i).length := by rw [hbn]; simp
    have hdrop : (bN M i).drop (putN x).length = bN M (i + 1) := by rw [hbn]; simp
    (refine ctlT ?_)
    refine rgT ?_
    refine lo (lop_move (E rfl)) rfl ?_
    refine cw [] Try.call25 (instr_get (bN M i) (by omega) (flat_put_lt hsub)) rfl argsleT stleT ?_
    rintro _ σ' ⟨q48, rfl, rfl⟩ h48
    rw [hg]
    dsimp only
    (apply rs_sto; (exact nflT))
    refine lo (lop_move (E rfl)) rfl ?_
    refine lo (lop_extract (E rfl) rfl) rfl ?_
    refine lo (lop_extract (E rfl) rfl) rfl ?_
    refine lo (lop_extract (E rfl) rfl) rfl ?_
    apply al; rfl; (exact zcT); refine freshT fun r8 h8 => ?_; (repeat (rcases h8 with ⟨_, h8⟩))
    apply stp; rfl; rfl; rfl; rfl; (exact sputT)
    refine lo (lop_assign (E rfl)) rfl ?_
    refine lo (lop_assign (E rfl)) rfl ?_
    refine leT ?_
    (refine ctlT ?_)
    refine rgD [(0, true), (1, true), (2, true), (3, true), (4, true), (5, true), (6, true), (7, true), (8, false), (9, true), (10, true), (11, true), (12, true), (13, true), (14, true), (15, true), (16, true)] ?_
    refine dlo rfl (lop_move (E rfl)) rfl ?_
    refine z58 ?_
    refine dlo rfl (lop_move (E rfl)) rfl ?_
    first | refine dln rfl rfl rfl rfl rfl ?_ | (first | refine dly rfl rfl rfl (lop_load_ptr_agg (E rfl) rfl sgT (fun _ => Nat.le_of_ble_eq_true rfl)) rfl ?_ | refine dly rfl rfl rfl (lop_load_el_agg (E rfl) rfl (fun hc => by first | rfl | exact get_map (by assumption) | assumption | exact get_map (at_bang (by omega))) (fun _ => Nat.le_of_ble_eq_true rfl)) rfl ?_) | refine dlg rfl rfl rfl (lop_load_ptr_agg (E rfl) rfl sgT (fun _ => Nat.le_of_ble_eq_true rfl)) rfl ?_ | refine dlg rfl rfl rfl (lop_load_el_agg (E rfl) rfl (fun hc => by first | rfl | exact get_map (by assumption) | assumption | exact get_map (at_bang (by (try simp at hc) <;> omega))) (fun _ => Nat.le_of_ble_eq_true rfl)) rfl ?_
    first | refine dln rfl rfl rfl rfl rfl ?_ | (refine dly rfl rfl rfl (lop_move (E rfl)) rfl ?_) | refine dlg rfl rfl rfl (lop_move (E rfl)) rfl ?_
    first | refine dln rfl rfl rfl rfl rfl ?_ | (refine dly rfl rfl rfl (lop_move (E rfl)) rfl ?_) | refine dlg rfl rfl rfl (lop_move (E rfl)) rfl ?_
    first | refine dln rfl rfl rfl rfl rfl ?_ | (first | refine dly rfl rfl rfl (lop_index_ro (by first | exact W rfl id | exact E rfl) (by first | exact W rfl id | exact E rfl) (fun hc => by (simp only [List.length_map]; omega))) rfl ?_ | refine dly rfl rfl rfl (lop_index_own0 (by first | exact W rfl id | exact E rfl) sgT (by first | exact W rfl id | exact E rfl) (fun hc => by omega)) rfl ?_ | refine dly rfl rfl rfl (lop_index_own (by first | exact W rfl id | exact E rfl) sgT (by first | exact W rfl id | exact E rfl) (fun hc => by omega)) rfl ?_) | refine dlg rfl rfl rfl (lop_index_ro (by first | exact W rfl id | exact E rfl) (by first | exact W rfl id | exact E rfl) (fun hc => by (try simp at hc) <;> (simp only [List.length_map]; omega))) rfl ?_ | refine dlg rfl rfl rfl (lop_index_own0 (by first | exact W rfl id | exact E rfl) sgT (by first | exact W rfl id | exact E rfl) (fun hc => by (try simp at hc) <;> omega)) rfl ?_ | refine dlg rfl rfl rfl (lop_index_own (by first | exact W rfl id | exact E rfl) sgT (by first | exact W rfl id | exact E rfl) (fun hc => by (try simp at hc) <;> omega)) rfl ?_
    first | refine dln rfl rfl rfl rfl rfl ?_ | (first | refine dly rfl rfl rfl (lop_load_el_agg (by first | exact W rfl id | exact E rfl) rfl (fun hc => by first | rfl | exact get_map (by assumption) | assumption | exact get_map (at_bang (by omega))) (fun _ => Nat.le_of_ble_eq_true rfl)) rfl ?_ | refine dly rfl rfl rfl (lop_load_ow_agg (by first | exact W rfl id | exact E rfl) rfl sgT (fun hc => by first | rfl | exact get_map (by assumption) | assumption | exact get_map (at_bang (by omega))) (fun _ => Nat.le_of_ble_eq_true rfl)) rfl ?_) | refine dlg rfl rfl rfl (lop_load_el_agg (by first | exact W rfl id | exact E rfl) rfl (fun hc => by first | rfl | exact get_map (by assumption) | assumption | exact get_map (at_bang (by (try simp at hc) <;> omega))) (fun _ => Nat.le_of_ble_eq_true rfl)) rfl ?_ | refine dlg rfl rfl rfl (lop_load_ow_agg (by first | exact W rfl id | exact E rfl) rfl sgT (fun hc => by first | rfl | exact get_map (by assumption) | assumption | exact get_map (at_bang (by (try simp at hc) <;> omega))) (fun _ => Nat.le_of_ble_eq_true rfl)) rfl ?_
    refine dpuyA rfl rfl rfl Try.call22 (ref_eqInstr .any .any x x) rfl pargsT nofT ?_
    rw [eqN_self]
    first | refine dln rfl rfl rfl rfl rfl ?_ | (refine dly rfl rfl rfl (lop_not (by first | exact W rfl id | exact E rfl)) rfl ?_) | refine dlg rfl rfl rfl (lop_not (by first | exact W rfl id | exact E rfl)) rfl ?_
    first | refine dlo rfl (lop_pick_t (E rfl) (E rfl)) rfl ?_ | refine dlo rfl (lop_pick_f (E rfl) (by first | exact W rfl (by simp) | exact E rfl)) rfl ?_ | refine dlo rfl (lop_pick (E rfl) (E rfl) (by first | exact W rfl (by simp) | exact E rfl)) rfl ?_
    refine dlo rfl (lop_move (E rfl)) rfl ?_
    first | refine dln rfl rfl rfl rfl rfl ?_ | (refine dly rfl rfl rfl (lop_move (E rfl)) rfl ?_) | refine dlg rfl rfl rfl (lop_move (E rfl)) rfl ?_
    first | refine dln rfl rfl rfl rfl rfl ?_ | (refine dly rfl rfl rfl (lop_move (E rfl)) rfl ?_) | refine dlg rfl rfl rfl (lop_move (E rfl)) rfl ?_
    first | refine dln rfl rfl rfl rfl rfl ?_ | (first | refine dly rfl rfl rfl (lop_len_map (by first | exact W rfl id | exact E rfl)) rfl ?_ | refine dly rfl rfl rfl (lop_len_ro (by first | exact W rfl id | exact E rfl)) rfl ?_ | refine dly rfl rfl rfl (lop_len_own (by first | exact W rfl id | exact E rfl)) rfl ?_) | refine dlg rfl rfl rfl (lop_len_map (by first | exact W rfl id | exact E rfl)) rfl ?_ | refine dlg rfl rfl rfl (lop_len_ro (by first | exact W rfl id | exact E rfl)) rfl ?_ | refine dlg rfl rfl rfl (lop_len_own (by first | exact W rfl id | exact E rfl)) rfl ?_
    first | refine dln rfl rfl rfl rfl rfl ?_ | (refine dly rfl rfl rfl (lop_gtr (by first | exact W rfl id | exact E rfl) (by first | exact W rfl id | exact E rfl)) rfl ?_) | refine dlg rfl rfl rfl (lop_gtr (by first | exact W rfl id | exact E rfl) (by first | exact W rfl id | exact E rfl)) rfl ?_
    first | refine dlo rfl (lop_pick_t (E rfl) (E rfl)) rfl ?_ | refine dlo rfl (lop_pick_f (E rfl) (by first | exact W rfl (by simp) | exact E rfl)) rfl ?_ | refine dlo rfl (lop_pick (E rfl) (E rfl) (by first | exact W rfl (by simp) | exact E rfl)) rfl ?_
    refine deT ?_
    (refine ctlT ?_)
    refine sw_cond rfl (fun g17 => ?_) (fun g17 => ?_)
    · (refine ctlT ?_)
      exfalso; simp at g17; omega
    (refine ctlT ?_)
    refine rgT ?_
    refine lo (lop_move (E rfl)) rfl ?_
    refine lo (lop_move (E rfl)) rfl ?_
    first | refine lo (lop_slice_ro (E rfl) (OB.some (E rfl) (fun _ => by first | rfl | exact (Int.toNat_of_nonneg (by omega)).symm)) OB.none (fun _ => by first | (simp only [List.length_map]; omega) | omega)) rfl ?_ | refine lo (lop_slice_own (E rfl) sgT (OB.some (E rfl) (fun _ => by first | rfl | exact (Int.toNat_of_nonneg (by omega)).symm)) OB.none (fun _ => by first | (simp only [List.length_map]; omega) | omega)) rfl ?_
    refine lo (lop_assign (E rfl)) rfl ?_
    refine leT ?_
    (refine ctlT ?_)
    refine rgT ?_
    refine lo (lop_move (E rfl)) rfl ?_
    refine z17 ?_
    refine lo (lop_assign (E rfl)) rfl ?_
    refine leT ?_
    (refine ctlT ?_)
    refine ⟨i + 1, hlt, by show M.length - (i + 1) < M.length - i; omega, ?_⟩
    rw [← hdrop]
    have ht : List.take ((bN M i).length - (putN x).length) (List.drop (putN x).length (List.map encU (bN M i))) = List.drop (putN x).length (List.map encU (bN M i)) := List.take_of_length_le (by simp)
    refine sgo_st ?_ ?_ <;> (repeat (first | exact FrLe.nil | (apply FrLe.cons; rfl; first | exact VLe.refl _ | exact VLe.of_eq (by simp [ht])) | exact StLe.nil))
  have hlt : i = M.length := by simp at g14; omega
  have he : bN M i = [] := by unfold bN; rw [hlt]; simp
  rw [he]
  (refine ctlT ?_)
  refine rgT ?_
  refine lo (lop_move (E rfl)) rfl ?_
  refine z14 ?_
  refine lo (lop_eql (E rfl) (E rfl)) rfl ?_
  refine lo (lop_assign (E rfl)) rfl ?_
  refine leT ?_
  (refine ctlT ?_)
  (apply aend; (exact resT))
  · rfl
  · (exact stleT)
end Go.Proofs.Ytkjfflabapeidaa
