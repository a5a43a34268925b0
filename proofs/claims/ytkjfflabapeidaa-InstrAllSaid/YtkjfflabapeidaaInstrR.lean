/-
  Body: instructions whose lists are cut, not too many.
-/
import Derived.Test.YtkjfflabapeidaaInstrPl
namespace Go.Proofs.Ytkjfflabapeidaa
open Go.RowKit Go.ChangeShapes Go.WideShapes Go.ChangeAt Go.Deep
set_option linter.unusedSimpArgs false
set_option linter.unusedVariables false
attribute [local irreducible] SW RS RD AThen ABlock

def bodyN (l : List Ins) (n : Nat) : List Ins := (l.take n).map cutN
theorem bodyN_next {l : List Ins} {j : Nat} {x : Ins} (h : l[j]? = some x) : bodyN l (j + 1) = bodyN l j ++ [cutN x] := by
  unfold bodyN; rw [List.take_add_one, h]; simp
theorem bodyN_len {l : List Ins} {j : Nat} (h : j ≤ l.length) : (bodyN l j).length = j := by unfold bodyN; simp; omega
theorem bor_io {q : Nat} {x : Ins} {e : TypeId} {σ : Sto} (h : sget σ q = some (.arr e 1 (x.l.map encI))) : Bor σ [q] (.agg (io q x)) (.agg (iv .any x)) :=
  bagg (.cons (.refl _) (.cons (.refl _) (.cons (.refl _) (.cons (bor_own h (by simp)) .nil))))
set_option maxRecDepth 100000 in
theorem law_body (l : List Ins) (hl : l.length ≤ maxLen) (hw : ∀ x ∈ l, x.l.length ≤ maxLen) (n : Nat) (hn : n ≤ 1000) : SCall Try.prog 28 [.ro 4 (l.map (iv .any)) .any, .int .i64 n] []
    (fun y σ => ∃ q, y = .own q 0 (bodyN l n).length ∧ σ = [(q, .arr 24 4 ((bodyN l n).map (iv .any)))]) := by
  unfold maxLen at hl
  refine scall_of (n := 27) (ks := [0, 1, 4, 5, 6, 15]) Try.func28 rfl rfl (Nat.le_of_ble_eq_true rfl) ?_
  (refine ctlT ?_)
  refine rgT ?_
  refine lo (lop_assign (E rfl)) rfl ?_
  refine leT ?_
  (refine ctlT ?_)
  refine rgT ?_
  refine lo (lop_assign (E rfl)) rfl ?_
  refine leT ?_
  (refine ctlT ?_)
  refine rgT ?_
  refine lo (lop_assign (E rfl)) rfl ?_
  refine leT ?_
  (refine ctlT ?_)
  refine sw_virt 5 24 4 (by decide) rfl (by decide) (freshT fun q0 hq0 => ?_); (repeat (rcases hq0 with ⟨_, hq0⟩))
  refine lp (β := Nat × Nat) (fun b => ⟨[(0, .ro 4 (l.map (iv .any)) .any), (1, .int .i64 n), (5, .own b.1 0 (bodyN l b.2).length), (6, .int .i64 b.2)], [(b.1, .arr 24 4 ((bodyN l b.2).map (iv .any)))]⟩) (fun b => b.2 ≤ n ∧ b.2 ≤ l.length) (fun b => n - b.2) (q0, 0) sgoT ⟨by omega, by omega⟩ ?_
  rintro ⟨q, j⟩ ⟨hj, hjl⟩
  dsimp only at hj hjl ⊢
  (refine ctlT ?_)
  refine rgT ?_
  refine lo (lop_move (E rfl)) rfl ?_
  refine lo (lop_move (E rfl)) rfl ?_
  refine z14 ?_
  refine lo (lop_lss (E rfl) (E rfl)) rfl ?_
  refine lo (lop_move (E rfl)) rfl ?_
  first | refine ln rfl rfl rfl rfl ?_ | (refine gy rfl rfl ?_; refine lo (lop_move (E rfl)) rfl ?_) | refine lg rfl rfl (lop_move (E rfl)) rfl ?_
  first | refine ln rfl rfl rfl rfl ?_ | (refine gy rfl rfl ?_; refine lo (lop_move (E rfl)) rfl ?_) | refine lg rfl rfl (lop_move (E rfl)) rfl ?_
  first | refine ln rfl rfl rfl rfl ?_ | (refine gy rfl rfl ?_; refine lo (lop_lss (by first | exact W rfl id | exact E rfl) (by first | exact W rfl id | exact E rfl)) rfl ?_) | refine lg rfl rfl (lop_lss (by first | exact W rfl id | exact E rfl) (by first | exact W rfl id | exact E rfl)) rfl ?_
  refine z68 ?_
  refine leT ?_
  (refine ctlT ?_)
  refine sw_cond rfl (fun g3 => ?_) (fun g3 => ?_)
  · replace g3 := bT g3
    obtain ⟨x, hx⟩ : ∃ x, l[j]? = some x := ⟨_, List.getElem?_eq_getElem (by omega)⟩
    have hxm := hw x (List.mem_of_getElem? hx)
    have hnx := bodyN_next hx
    have hbl := bodyN_len hjl
    (refine ctlT ?_)
    refine rgT ?_
    refine lo (lop_move (E rfl)) rfl ?_
    refine lo (lop_move (E rfl)) rfl ?_
    refine lo (lop_move (E rfl)) rfl ?_
    refine z15 ?_
    first | refine lo (lop_load_el_agg (E rfl) rfl (fun hc => by first | rfl | exact get_map (by assumption) | assumption | exact get_map (at_bang (by omega))) (fun _ => Nat.le_of_ble_eq_true rfl)) rfl ?_ | refine lo (lop_load_ow_agg (E rfl) rfl sgT (fun hc => by first | rfl | exact get_map (by assumption) | assumption | exact get_map (at_bang (by omega))) (fun _ => Nat.le_of_ble_eq_true rfl)) rfl ?_
    refine cw [] Try.call17 (law_cut x hxm) rfl argsleT stleT ?_
    rintro _ σ' ⟨q2, rfl, rfl⟩ h23
    replace h23 := cnewT h23; (repeat (rcases h23 with ⟨_, h23⟩))
    (apply rs_sto; (exact nflT))
    refine fzv (j := 23) rfl sdelT (bor_io sgT) ?_
    refine z1 ?_; refine freshT fun r24 h24 => ?_; (repeat (rcases h24 with ⟨_, h24⟩))
    refine apA ((bodyN l j ++ [cutN x]).map (iv .any)) (bodyN l j ++ [cutN x]).length ?_
    refine apnT fun r25 h25 => ?_; (repeat (rcases h25 with ⟨_, h25⟩))
    refine lo (lop_assign (E rfl)) rfl ?_
    refine leT ?_
    (refine ctlT ?_)
    refine rgT ?_
    refine lo (lop_move (E rfl)) rfl ?_
    refine z17 ?_
    refine lo (lop_assign (E rfl)) rfl ?_
    refine leT ?_
    (refine ctlT ?_)
    refine ⟨(r25, j + 1), ⟨by show j + 1 ≤ n; omega, by show j + 1 ≤ l.length; omega⟩, by show n - (j + 1) < n - j; omega, ?_⟩
    dsimp only
    rw [hnx]
    (exact sgoT)
  have he : bodyN l j = bodyN l n := by
    have : j = n ∨ j = l.length := by replace g3 := bT g3; omega
    rcases this with rfl | rfl
    · rfl
    · unfold bodyN; rw [List.take_of_length_le (Nat.le_refl _), List.take_of_length_le hj]
  rw [he]
  (refine ctlT ?_)
  refine rgT ?_
  refine lo (lop_move (E rfl)) rfl ?_
  refine lo (lop_assign (E rfl)) rfl ?_
  refine leT ?_
  (refine ctlT ?_)
  (apply aend; (exact resT))
  · exact ⟨q, rfl, rfl⟩
  · (exact stleT)
end Go.Proofs.Ytkjfflabapeidaa
