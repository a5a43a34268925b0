/-
  Package space: what the methods of no space do.
-/
import Derived.Test.YtpdgnenffiphcaaSpaceC
namespace Go.Proofs.Ytpdgnenffiphcaa
open Go.RowKit Go.ChangeShapes Go.WideShapes Go.ChangeAt Go.Deep
set_option linter.unusedSimpArgs false
set_option linter.unusedVariables false
attribute [local irreducible] SW RS RD AThen ABlock

set_option maxRecDepth 100000 in
theorem nil_elem (i : Int) : SCall Try.prog 21 [.nilp, .int .i64 i] [] (fun x σ => x = .tup [.int .i64 0, .bool false] ∧ σ = []) := by
  refine scall_of (n := 38) (ks := [0, 1, 4, 5, 30]) Try.func21 rfl rfl (Nat.le_of_ble_eq_true rfl) ?_
  (repeat (first | refine cs ?_ | refine cb ?_ | refine ck ?_ | refine cx ?_ | refine cr ?_ | refine an ?_ | refine ae ?_ | refine ar ?_ | refine bn ?_ | refine bh ?_ | refine be rfl ?_ | refine br ?_ | refine ct rfl ?_ | refine cf rfl ?_))
  first | refine sw_seq_region ?_ | refine sw_region ?_
  refine lo (lop_assign (E rfl)) rfl ?_
  refine lo (lop_assign (E rfl)) rfl ?_
  apply le; (repeat (first | (apply KeepIs.take; rfl) | (apply KeepIs.skip; rfl) | exact KeepIs.nil))
  (repeat (first | refine cs ?_ | refine cb ?_ | refine ck ?_ | refine cx ?_ | refine cr ?_ | refine an ?_ | refine ae ?_ | refine ar ?_ | refine bn ?_ | refine bh ?_ | refine be rfl ?_ | refine br ?_ | refine ct rfl ?_ | refine cf rfl ?_))
  first | refine sw_seq_region ?_ | refine sw_region ?_
  refine lo (lop_move (E rfl)) rfl ?_
  first | refine lo (lop_peql (E rfl) (E rfl) (.inl ⟨rfl, rfl⟩)) rfl ?_ | refine lo (lop_peql (E rfl) (E rfl) (.inr (.inl ⟨⟨_, _, rfl⟩, rfl⟩))) rfl ?_ | refine lo (lop_peql (E rfl) (E rfl) (.inr (.inr ⟨⟨_, _, _, rfl⟩, rfl⟩))) rfl ?_
  refine lo (lop_move (E rfl)) rfl ?_
  first | refine ln rfl rfl rfl rfl ?_ | refine lg rfl rfl (lop_move (E rfl)) rfl ?_
  first | refine ln rfl rfl rfl rfl ?_ | refine lg rfl rfl (lop_lss (W rfl id) (E rfl)) rfl ?_
  first | refine lo (lop_pick_t (E rfl) (E rfl)) rfl ?_ | refine lo (lop_pick_f (E rfl) (W rfl (by simp))) rfl ?_ | refine lo (lop_pick (E rfl) (E rfl) (W rfl (by simp))) rfl ?_
  refine lo (lop_move (E rfl)) rfl ?_
  first | refine ln rfl rfl rfl rfl ?_ | refine lg rfl rfl (lop_move (E rfl)) rfl ?_
  first | refine ln rfl rfl rfl rfl ?_ | refine lg rfl rfl (lop_move (E rfl)) rfl ?_
  first | refine ln rfl rfl rfl rfl ?_ | refine lg rfl rfl (lop_nilCheck (W rfl id) (.inl ⟨_, _, rfl⟩)) rfl ?_
  first | refine ln rfl rfl rfl rfl ?_ | refine lg rfl rfl (lop_field_ptr (W rfl id) rfl (by decide)) rfl ?_
  first | refine ln rfl rfl rfl rfl ?_ | refine lg rfl rfl (lop_load_ptr (W rfl id) rfl (by repeat (first | exact sget_here | refine sget_next (by (first | assumption | (apply Nq.en; assumption) | omega | (simp only [Nq] at *; omega))) ?_)) (fun _ => rfl)) rfl ?_
  first | refine ln rfl rfl rfl rfl ?_ | refine lg rfl rfl (lop_len_map (W rfl id)) rfl ?_ | refine lg rfl rfl (lop_len_ro (W rfl id)) rfl ?_ | refine lg rfl rfl (lop_len_own (W rfl id)) rfl ?_
  first | refine ln rfl rfl rfl rfl ?_ | refine lg rfl rfl (lop_geq (W rfl id) (W rfl id)) rfl ?_
  first | refine lo (lop_pick_t (E rfl) (E rfl)) rfl ?_ | refine lo (lop_pick_f (E rfl) (W rfl (by simp))) rfl ?_ | refine lo (lop_pick (E rfl) (E rfl) (W rfl (by simp))) rfl ?_
  refine lo (lop_move (E rfl)) rfl ?_
  first | refine ln rfl rfl rfl rfl ?_ | refine lg rfl rfl (lop_move (E rfl)) rfl ?_
  first | refine ln rfl rfl rfl rfl ?_ | refine lg rfl rfl (lop_nilCheck (W rfl id) (.inl ⟨_, _, rfl⟩)) rfl ?_
  first | refine ln rfl rfl rfl rfl ?_ | refine lg rfl rfl (lop_field_ptr (W rfl id) rfl (by decide)) rfl ?_
  first | refine ln rfl rfl rfl rfl ?_ | refine lg rfl rfl (lop_load_ptr (W rfl id) rfl (by repeat (first | exact sget_here | refine sget_next (by (first | assumption | (apply Nq.en; assumption) | omega | (simp only [Nq] at *; omega))) ?_)) (fun _ => rfl)) rfl ?_
  first | refine ln rfl rfl rfl rfl ?_ | refine lg rfl rfl (lop_move (E rfl)) rfl ?_
  first | refine ln rfl rfl rfl rfl ?_ | refine lg rfl rfl (lop_index_ro (W rfl id) (W rfl id) (fun hc => by (try simp at hc) <;> (simp only [List.length_map]; omega))) rfl ?_ | refine lg rfl rfl (lop_index_own0 (W rfl id) (by repeat (first | exact sget_here | refine sget_next (by (first | assumption | (apply Nq.en; assumption) | omega | (simp only [Nq] at *; omega))) ?_)) (W rfl id) (fun hc => by (try simp at hc) <;> omega)) rfl ?_ | refine lg rfl rfl (lop_index_own (W rfl id) (by repeat (first | exact sget_here | refine sget_next (by (first | assumption | (apply Nq.en; assumption) | omega | (simp only [Nq] at *; omega))) ?_)) (W rfl id) (fun hc => by (try simp at hc) <;> omega)) rfl ?_
  first | refine ln rfl rfl rfl rfl ?_ | refine lg rfl rfl (lop_load_el (W rfl id) rfl (fun hc => by first | rfl | exact get_map (by assumption) | assumption | exact get_map (at_bang (by (try simp at hc) <;> omega))) (fun _ => rfl)) rfl ?_ | refine lg rfl rfl (lop_load_ow (W rfl id) rfl (by repeat (first | exact sget_here | refine sget_next (by (first | assumption | (apply Nq.en; assumption) | omega | (simp only [Nq] at *; omega))) ?_)) (fun hc => by first | rfl | exact get_map (by assumption) | assumption | exact get_map (at_bang (by (try simp at hc) <;> omega))) (fun _ => rfl)) rfl ?_
  first | refine ln rfl rfl rfl rfl ?_ | refine lg rfl rfl (lop_lss (W rfl id) (E rfl)) rfl ?_
  first | refine lo (lop_pick_t (E rfl) (E rfl)) rfl ?_ | refine lo (lop_pick_f (E rfl) (W rfl (by simp))) rfl ?_ | refine lo (lop_pick (E rfl) (E rfl) (W rfl (by simp))) rfl ?_
  apply le; (repeat (first | (apply KeepIs.take; rfl) | (apply KeepIs.skip; rfl) | exact KeepIs.nil))
  (repeat (first | refine cs ?_ | refine cb ?_ | refine ck ?_ | refine cx ?_ | refine cr ?_ | refine an ?_ | refine ae ?_ | refine ar ?_ | refine bn ?_ | refine bh ?_ | refine be rfl ?_ | refine br ?_ | refine ct rfl ?_ | refine cf rfl ?_))
  first | refine sw_seq_region ?_ | refine sw_region ?_
  refine lo (lop_assign (E rfl)) rfl ?_
  refine lo (lop_assign (E rfl)) rfl ?_
  apply le; (repeat (first | (apply KeepIs.take; rfl) | (apply KeepIs.skip; rfl) | exact KeepIs.nil))
  (repeat (first | refine cs ?_ | refine cb ?_ | refine ck ?_ | refine cx ?_ | refine cr ?_ | refine an ?_ | refine ae ?_ | refine ar ?_ | refine bn ?_ | refine bh ?_ | refine be rfl ?_ | refine br ?_ | refine ct rfl ?_ | refine cf rfl ?_))
  (apply aend; (repeat (first | exact ResL.nil | (apply ResL.tmp; rfl) | (apply ResL.cell; rfl; infer_instance; rfl; (repeat (first | exact sget_here | (apply sget_next; (first | assumption | (apply Nq.en; assumption) | omega | (simp only [Nq] at *; omega))))); rfl) | (apply ResL.cells; rfl; infer_instance; infer_instance; rfl; (repeat (first | exact sget_here | (apply sget_next; (first | assumption | (apply Nq.en; assumption) | omega | (simp only [Nq] at *; omega))))); exact Nat.le_of_ble_eq_true rfl))))
  · exact ⟨rfl, rfl⟩
  · (first | exact no_mem | (apply StLe.mem; (repeat (first | exact StLe.nil | (apply StLe.cons; (repeat (first | exact List.mem_cons_self | apply List.mem_cons_of_mem)); first | rfl | focus (congr 1; done) | focus (simp; done) | (simp; rfl))))))
set_option maxRecDepth 100000 in
theorem nil_global (i : Int) : SCall Try.prog 20 [.nilp, .int .i64 i] [] (fun x σ => x = .tup [.agg [.int .i64 0, .int .i64 0], .bool false] ∧ σ = []) := by
  refine scall_of (n := 29) (ks := [0, 1, 4, 5, 20]) Try.func20 rfl rfl (Nat.le_of_ble_eq_true rfl) ?_
  (repeat (first | refine cs ?_ | refine cb ?_ | refine ck ?_ | refine cx ?_ | refine cr ?_ | refine an ?_ | refine ae ?_ | refine ar ?_ | refine bn ?_ | refine bh ?_ | refine be rfl ?_ | refine br ?_ | refine ct rfl ?_ | refine cf rfl ?_))
  first | refine sw_seq_region ?_ | refine sw_region ?_
  apply al; rfl; (first | (simp only [Value.cells, AV.cells, List.map_cons, List.map_nil, ofConst, ofCell]; rfl) | rfl); intro r4 h4; simp only [fresh_cons, fresh_nil, and_true] at h4; (repeat (rcases h4 with ⟨_, h4⟩))
  refine lo (lop_assign (E rfl)) rfl ?_
  apply le; (repeat (first | (apply KeepIs.take; rfl) | (apply KeepIs.skip; rfl) | exact KeepIs.nil))
  (repeat (first | refine cs ?_ | refine cb ?_ | refine ck ?_ | refine cx ?_ | refine cr ?_ | refine an ?_ | refine ae ?_ | refine ar ?_ | refine bn ?_ | refine bh ?_ | refine be rfl ?_ | refine br ?_ | refine ct rfl ?_ | refine cf rfl ?_))
  first | refine sw_seq_region ?_ | refine sw_region ?_
  refine lo (lop_move (E rfl)) rfl ?_
  first | refine lo (lop_peql (E rfl) (E rfl) (.inl ⟨rfl, rfl⟩)) rfl ?_ | refine lo (lop_peql (E rfl) (E rfl) (.inr (.inl ⟨⟨_, _, rfl⟩, rfl⟩))) rfl ?_ | refine lo (lop_peql (E rfl) (E rfl) (.inr (.inr ⟨⟨_, _, _, rfl⟩, rfl⟩))) rfl ?_
  refine lo (lop_move (E rfl)) rfl ?_
  first | refine ln rfl rfl rfl rfl ?_ | refine lg rfl rfl (lop_move (E rfl)) rfl ?_
  first | refine ln rfl rfl rfl rfl ?_ | refine lg rfl rfl (lop_lss (W rfl id) (E rfl)) rfl ?_
  first | refine lo (lop_pick_t (E rfl) (E rfl)) rfl ?_ | refine lo (lop_pick_f (E rfl) (W rfl (by simp))) rfl ?_ | refine lo (lop_pick (E rfl) (E rfl) (W rfl (by simp))) rfl ?_
  refine lo (lop_move (E rfl)) rfl ?_
  first | refine ln rfl rfl rfl rfl ?_ | refine lg rfl rfl (lop_move (E rfl)) rfl ?_
  first | refine ln rfl rfl rfl rfl ?_ | refine lg rfl rfl (lop_move (E rfl)) rfl ?_
  first | refine ln rfl rfl rfl rfl ?_ | refine lg rfl rfl (lop_nilCheck (W rfl id) (.inl ⟨_, _, rfl⟩)) rfl ?_
  first | refine ln rfl rfl rfl rfl ?_ | refine lg rfl rfl (lop_field_ptr (W rfl id) rfl (by decide)) rfl ?_
  first | refine ln rfl rfl rfl rfl ?_ | refine lg rfl rfl (lop_load_ptr (W rfl id) rfl (by repeat (first | exact sget_here | refine sget_next (by (first | assumption | (apply Nq.en; assumption) | omega | (simp only [Nq] at *; omega))) ?_)) (fun _ => rfl)) rfl ?_
  first | refine ln rfl rfl rfl rfl ?_ | refine lg rfl rfl (lop_len_map (W rfl id)) rfl ?_ | refine lg rfl rfl (lop_len_ro (W rfl id)) rfl ?_ | refine lg rfl rfl (lop_len_own (W rfl id)) rfl ?_
  first | refine ln rfl rfl rfl rfl ?_ | refine lg rfl rfl (lop_geq (W rfl id) (W rfl id)) rfl ?_
  first | refine lo (lop_pick_t (E rfl) (E rfl)) rfl ?_ | refine lo (lop_pick_f (E rfl) (W rfl (by simp))) rfl ?_ | refine lo (lop_pick (E rfl) (E rfl) (W rfl (by simp))) rfl ?_
  apply le; (repeat (first | (apply KeepIs.take; rfl) | (apply KeepIs.skip; rfl) | exact KeepIs.nil))
  (repeat (first | refine cs ?_ | refine cb ?_ | refine ck ?_ | refine cx ?_ | refine cr ?_ | refine an ?_ | refine ae ?_ | refine ar ?_ | refine bn ?_ | refine bh ?_ | refine be rfl ?_ | refine br ?_ | refine ct rfl ?_ | refine cf rfl ?_))
  first | refine sw_seq_region ?_ | refine sw_region ?_
  refine lo (lop_str (by repeat (first | exact PEvs.nil | (apply PEvs.cons; first | exact W rfl id | exact E rfl))) (by (first | (simp only [Value.cells, AV.cells, List.map_cons, List.map_nil, ofConst, ofCell]; rfl) | rfl)) (by repeat (first | exact Fill.nil | (apply Fill.cons; rfl; rfl; rfl; (repeat (first | exact Put.done | apply Put.put | apply Put.skip)))))) rfl ?_
  apply stp; rfl; rfl; rfl; rfl; (repeat (first | (apply SPut.here; (repeat (first | exact Put.done | apply Put.put | apply Put.skip)); (repeat (first | exact Fresh.nil | (apply Fresh.cons; (first | assumption | (apply Nq.en; assumption) | omega | (simp only [Nq] at *; omega)))))) | (apply SPut.next; (first | assumption | (apply Nq.en; assumption) | omega | (simp only [Nq] at *; omega)))))
  refine lo (lop_assign (E rfl)) rfl ?_
  apply le; (repeat (first | (apply KeepIs.take; rfl) | (apply KeepIs.skip; rfl) | exact KeepIs.nil))
  (repeat (first | refine cs ?_ | refine cb ?_ | refine ck ?_ | refine cx ?_ | refine cr ?_ | refine an ?_ | refine ae ?_ | refine ar ?_ | refine bn ?_ | refine bh ?_ | refine be rfl ?_ | refine br ?_ | refine ct rfl ?_ | refine cf rfl ?_))
  (apply aend; (repeat (first | exact ResL.nil | (apply ResL.tmp; rfl) | (apply ResL.cell; rfl; infer_instance; rfl; (repeat (first | exact sget_here | (apply sget_next; (first | assumption | (apply Nq.en; assumption) | omega | (simp only [Nq] at *; omega))))); rfl) | (apply ResL.cells; rfl; infer_instance; infer_instance; rfl; (repeat (first | exact sget_here | (apply sget_next; (first | assumption | (apply Nq.en; assumption) | omega | (simp only [Nq] at *; omega))))); exact Nat.le_of_ble_eq_true rfl))))
  · exact ⟨rfl, rfl⟩
  · (first | exact no_mem | (apply StLe.mem; (repeat (first | exact StLe.nil | (apply StLe.cons; (repeat (first | exact List.mem_cons_self | apply List.mem_cons_of_mem)); first | rfl | focus (congr 1; done) | focus (simp; done) | (simp; rfl))))))
set_option maxRecDepth 100000 in
theorem nil_elems : SCall Try.prog 19 [.nilp] [] (fun x σ => x = .ro 0 [] .nil ∧ σ = []) := by
  refine scall_of (n := 10) (ks := [0, 2, 4]) Try.func19 rfl rfl (Nat.le_of_ble_eq_true rfl) ?_
  (repeat (first | refine cs ?_ | refine cb ?_ | refine ck ?_ | refine cx ?_ | refine cr ?_ | refine an ?_ | refine ae ?_ | refine ar ?_ | refine bn ?_ | refine bh ?_ | refine be rfl ?_ | refine br ?_ | refine ct rfl ?_ | refine cf rfl ?_))
  first | refine sw_seq_region ?_ | refine sw_region ?_
  refine lo (lop_assign (E rfl)) rfl ?_
  apply le; (repeat (first | (apply KeepIs.take; rfl) | (apply KeepIs.skip; rfl) | exact KeepIs.nil))
  (repeat (first | refine cs ?_ | refine cb ?_ | refine ck ?_ | refine cx ?_ | refine cr ?_ | refine an ?_ | refine ae ?_ | refine ar ?_ | refine bn ?_ | refine bh ?_ | refine be rfl ?_ | refine br ?_ | refine ct rfl ?_ | refine cf rfl ?_))
  first | refine sw_seq_region ?_ | refine sw_region ?_
  refine lo (lop_move (E rfl)) rfl ?_
  first | refine lo (lop_peql (E rfl) (E rfl) (.inl ⟨rfl, rfl⟩)) rfl ?_ | refine lo (lop_peql (E rfl) (E rfl) (.inr (.inl ⟨⟨_, _, rfl⟩, rfl⟩))) rfl ?_ | refine lo (lop_peql (E rfl) (E rfl) (.inr (.inr ⟨⟨_, _, _, rfl⟩, rfl⟩))) rfl ?_
  apply le; (repeat (first | (apply KeepIs.take; rfl) | (apply KeepIs.skip; rfl) | exact KeepIs.nil))
  (repeat (first | refine cs ?_ | refine cb ?_ | refine ck ?_ | refine cx ?_ | refine cr ?_ | refine an ?_ | refine ae ?_ | refine ar ?_ | refine bn ?_ | refine bh ?_ | refine be rfl ?_ | refine br ?_ | refine ct rfl ?_ | refine cf rfl ?_))
  first | refine sw_seq_region ?_ | refine sw_region ?_
  refine lo (lop_assign (E rfl)) rfl ?_
  apply le; (repeat (first | (apply KeepIs.take; rfl) | (apply KeepIs.skip; rfl) | exact KeepIs.nil))
  (repeat (first | refine cs ?_ | refine cb ?_ | refine ck ?_ | refine cx ?_ | refine cr ?_ | refine an ?_ | refine ae ?_ | refine ar ?_ | refine bn ?_ | refine bh ?_ | refine be rfl ?_ | refine br ?_ | refine ct rfl ?_ | refine cf rfl ?_))
  (apply aend; (repeat (first | exact ResL.nil | (apply ResL.tmp; rfl) | (apply ResL.cell; rfl; infer_instance; rfl; (repeat (first | exact sget_here | (apply sget_next; (first | assumption | (apply Nq.en; assumption) | omega | (simp only [Nq] at *; omega))))); rfl) | (apply ResL.cells; rfl; infer_instance; infer_instance; rfl; (repeat (first | exact sget_here | (apply sget_next; (first | assumption | (apply Nq.en; assumption) | omega | (simp only [Nq] at *; omega))))); exact Nat.le_of_ble_eq_true rfl))))
  · exact ⟨rfl, rfl⟩
  · (first | exact no_mem | (apply StLe.mem; (repeat (first | exact StLe.nil | (apply StLe.cons; (repeat (first | exact List.mem_cons_self | apply List.mem_cons_of_mem)); first | rfl | focus (congr 1; done) | focus (simp; done) | (simp; rfl))))))
set_option maxRecDepth 100000 in
theorem nil_globals : SCall Try.prog 17 [.nilp] [] (fun x σ => x = .ro 0 [] .nil ∧ σ = []) := by
  refine scall_of (n := 10) (ks := [0, 2, 4]) Try.func17 rfl rfl (Nat.le_of_ble_eq_true rfl) ?_
  (repeat (first | refine cs ?_ | refine cb ?_ | refine ck ?_ | refine cx ?_ | refine cr ?_ | refine an ?_ | refine ae ?_ | refine ar ?_ | refine bn ?_ | refine bh ?_ | refine be rfl ?_ | refine br ?_ | refine ct rfl ?_ | refine cf rfl ?_))
  first | refine sw_seq_region ?_ | refine sw_region ?_
  refine lo (lop_assign (E rfl)) rfl ?_
  apply le; (repeat (first | (apply KeepIs.take; rfl) | (apply KeepIs.skip; rfl) | exact KeepIs.nil))
  (repeat (first | refine cs ?_ | refine cb ?_ | refine ck ?_ | refine cx ?_ | refine cr ?_ | refine an ?_ | refine ae ?_ | refine ar ?_ | refine bn ?_ | refine bh ?_ | refine be rfl ?_ | refine br ?_ | refine ct rfl ?_ | refine cf rfl ?_))
  first | refine sw_seq_region ?_ | refine sw_region ?_
  refine lo (lop_move (E rfl)) rfl ?_
  first | refine lo (lop_peql (E rfl) (E rfl) (.inl ⟨rfl, rfl⟩)) rfl ?_ | refine lo (lop_peql (E rfl) (E rfl) (.inr (.inl ⟨⟨_, _, rfl⟩, rfl⟩))) rfl ?_ | refine lo (lop_peql (E rfl) (E rfl) (.inr (.inr ⟨⟨_, _, _, rfl⟩, rfl⟩))) rfl ?_
  apply le; (repeat (first | (apply KeepIs.take; rfl) | (apply KeepIs.skip; rfl) | exact KeepIs.nil))
  (repeat (first | refine cs ?_ | refine cb ?_ | refine ck ?_ | refine cx ?_ | refine cr ?_ | refine an ?_ | refine ae ?_ | refine ar ?_ | refine bn ?_ | refine bh ?_ | refine be rfl ?_ | refine br ?_ | refine ct rfl ?_ | refine cf rfl ?_))
  first | refine sw_seq_region ?_ | refine sw_region ?_
  refine lo (lop_assign (E rfl)) rfl ?_
  apply le; (repeat (first | (apply KeepIs.take; rfl) | (apply KeepIs.skip; rfl) | exact KeepIs.nil))
  (repeat (first | refine cs ?_ | refine cb ?_ | refine ck ?_ | refine cx ?_ | refine cr ?_ | refine an ?_ | refine ae ?_ | refine ar ?_ | refine bn ?_ | refine bh ?_ | refine be rfl ?_ | refine br ?_ | refine ct rfl ?_ | refine cf rfl ?_))
  (apply aend; (repeat (first | exact ResL.nil | (apply ResL.tmp; rfl) | (apply ResL.cell; rfl; infer_instance; rfl; (repeat (first | exact sget_here | (apply sget_next; (first | assumption | (apply Nq.en; assumption) | omega | (simp only [Nq] at *; omega))))); rfl) | (apply ResL.cells; rfl; infer_instance; infer_instance; rfl; (repeat (first | exact sget_here | (apply sget_next; (first | assumption | (apply Nq.en; assumption) | omega | (simp only [Nq] at *; omega))))); exact Nat.le_of_ble_eq_true rfl))))
  · exact ⟨rfl, rfl⟩
  · (first | exact no_mem | (apply StLe.mem; (repeat (first | exact StLe.nil | (apply StLe.cons; (repeat (first | exact List.mem_cons_self | apply List.mem_cons_of_mem)); first | rfl | focus (congr 1; done) | focus (simp; done) | (simp; rfl))))))
set_option maxRecDepth 100000 in
theorem nil_setElems (i : Int) (y : AV) : SCall Try.prog 15 [.nilp, .int .i64 i, y] [] (fun x σ => x = .bool false ∧ σ = []) := by
  refine scall_of (n := 33) (ks := [0, 1, 2, 6, 24]) Try.func15 rfl rfl (Nat.le_of_ble_eq_true rfl) ?_
  (repeat (first | refine cs ?_ | refine cb ?_ | refine ck ?_ | refine cx ?_ | refine cr ?_ | refine an ?_ | refine ae ?_ | refine ar ?_ | refine bn ?_ | refine bh ?_ | refine be rfl ?_ | refine br ?_ | refine ct rfl ?_ | refine cf rfl ?_))
  first | refine sw_seq_region ?_ | refine sw_region ?_
  refine lo (lop_assign (E rfl)) rfl ?_
  apply le; (repeat (first | (apply KeepIs.take; rfl) | (apply KeepIs.skip; rfl) | exact KeepIs.nil))
  (repeat (first | refine cs ?_ | refine cb ?_ | refine ck ?_ | refine cx ?_ | refine cr ?_ | refine an ?_ | refine ae ?_ | refine ar ?_ | refine bn ?_ | refine bh ?_ | refine be rfl ?_ | refine br ?_ | refine ct rfl ?_ | refine cf rfl ?_))
  first | refine sw_seq_region ?_ | refine sw_region ?_
  refine lo (lop_move (E rfl)) rfl ?_
  first | refine lo (lop_peql (E rfl) (E rfl) (.inl ⟨rfl, rfl⟩)) rfl ?_ | refine lo (lop_peql (E rfl) (E rfl) (.inr (.inl ⟨⟨_, _, rfl⟩, rfl⟩))) rfl ?_ | refine lo (lop_peql (E rfl) (E rfl) (.inr (.inr ⟨⟨_, _, _, rfl⟩, rfl⟩))) rfl ?_
  refine lo (lop_move (E rfl)) rfl ?_
  first | refine ln rfl rfl rfl rfl ?_ | refine lg rfl rfl (lop_move (E rfl)) rfl ?_
  first | refine ln rfl rfl rfl rfl ?_ | refine lg rfl rfl (lop_lss (W rfl id) (E rfl)) rfl ?_
  first | refine lo (lop_pick_t (E rfl) (E rfl)) rfl ?_ | refine lo (lop_pick_f (E rfl) (W rfl (by simp))) rfl ?_ | refine lo (lop_pick (E rfl) (E rfl) (W rfl (by simp))) rfl ?_
  refine lo (lop_move (E rfl)) rfl ?_
  first | refine ln rfl rfl rfl rfl ?_ | refine lg rfl rfl (lop_move (E rfl)) rfl ?_
  first | refine ln rfl rfl rfl rfl ?_ | refine lg rfl rfl (lop_move (E rfl)) rfl ?_
  first | refine ln rfl rfl rfl rfl ?_ | refine lg rfl rfl (lop_nilCheck (W rfl id) (.inl ⟨_, _, rfl⟩)) rfl ?_
  first | refine ln rfl rfl rfl rfl ?_ | refine lg rfl rfl (lop_field_ptr (W rfl id) rfl (by decide)) rfl ?_
  first | refine ln rfl rfl rfl rfl ?_ | refine lg rfl rfl (lop_load_ptr (W rfl id) rfl (by repeat (first | exact sget_here | refine sget_next (by (first | assumption | (apply Nq.en; assumption) | omega | (simp only [Nq] at *; omega))) ?_)) (fun _ => rfl)) rfl ?_
  first | refine ln rfl rfl rfl rfl ?_ | refine lg rfl rfl (lop_len_map (W rfl id)) rfl ?_ | refine lg rfl rfl (lop_len_ro (W rfl id)) rfl ?_ | refine lg rfl rfl (lop_len_own (W rfl id)) rfl ?_
  first | refine ln rfl rfl rfl rfl ?_ | refine lg rfl rfl (lop_move (E rfl)) rfl ?_
  first | refine ln rfl rfl rfl rfl ?_ | refine lg rfl rfl (lop_len_map (W rfl id)) rfl ?_ | refine lg rfl rfl (lop_len_ro (W rfl id)) rfl ?_ | refine lg rfl rfl (lop_len_own (W rfl id)) rfl ?_
  first | refine ln rfl rfl rfl rfl ?_ | refine lg rfl rfl (lop_sub64 (W rfl id) (W rfl id) (by omega) (by omega)) rfl ?_ | refine lg rfl rfl (lop_sub64c (W rfl id) (W rfl id) (fun hc => by simp at hc <;> omega)) rfl ?_ | refine lg rfl rfl (lop_sub (W rfl id) (W rfl id)) rfl ?_
  first | refine ln rfl rfl rfl rfl ?_ | refine lg rfl rfl (lop_gtr (W rfl id) (W rfl id)) rfl ?_
  first | refine lo (lop_pick_t (E rfl) (E rfl)) rfl ?_ | refine lo (lop_pick_f (E rfl) (W rfl (by simp))) rfl ?_ | refine lo (lop_pick (E rfl) (E rfl) (W rfl (by simp))) rfl ?_
  apply le; (repeat (first | (apply KeepIs.take; rfl) | (apply KeepIs.skip; rfl) | exact KeepIs.nil))
  (repeat (first | refine cs ?_ | refine cb ?_ | refine ck ?_ | refine cx ?_ | refine cr ?_ | refine an ?_ | refine ae ?_ | refine ar ?_ | refine bn ?_ | refine bh ?_ | refine be rfl ?_ | refine br ?_ | refine ct rfl ?_ | refine cf rfl ?_))
  first | refine sw_seq_region ?_ | refine sw_region ?_
  refine lo (lop_assign (E rfl)) rfl ?_
  apply le; (repeat (first | (apply KeepIs.take; rfl) | (apply KeepIs.skip; rfl) | exact KeepIs.nil))
  (repeat (first | refine cs ?_ | refine cb ?_ | refine ck ?_ | refine cx ?_ | refine cr ?_ | refine an ?_ | refine ae ?_ | refine ar ?_ | refine bn ?_ | refine bh ?_ | refine be rfl ?_ | refine br ?_ | refine ct rfl ?_ | refine cf rfl ?_))
  (apply aend; (repeat (first | exact ResL.nil | (apply ResL.tmp; rfl) | (apply ResL.cell; rfl; infer_instance; rfl; (repeat (first | exact sget_here | (apply sget_next; (first | assumption | (apply Nq.en; assumption) | omega | (simp only [Nq] at *; omega))))); rfl) | (apply ResL.cells; rfl; infer_instance; infer_instance; rfl; (repeat (first | exact sget_here | (apply sget_next; (first | assumption | (apply Nq.en; assumption) | omega | (simp only [Nq] at *; omega))))); exact Nat.le_of_ble_eq_true rfl))))
  · exact ⟨rfl, rfl⟩
  · (first | exact no_mem | (apply StLe.mem; (repeat (first | exact StLe.nil | (apply StLe.cons; (repeat (first | exact List.mem_cons_self | apply List.mem_cons_of_mem)); first | rfl | focus (congr 1; done) | focus (simp; done) | (simp; rfl))))))
set_option maxRecDepth 100000 in
theorem nil_setGlobal (i a b : Int) : SCall Try.prog 16 [.nilp, .int .i64 i, .agg [.int .i64 a, .int .i64 b]] [] (fun x σ => x = .bool false ∧ σ = []) := by
  refine scall_of (n := 31) (ks := [0, 1, 2, 5, 6, 7, 8, 23]) Try.func16 rfl rfl (Nat.le_of_ble_eq_true rfl) ?_
  (repeat (first | refine cs ?_ | refine cb ?_ | refine ck ?_ | refine cx ?_ | refine cr ?_ | refine an ?_ | refine ae ?_ | refine ar ?_ | refine bn ?_ | refine bh ?_ | refine be rfl ?_ | refine br ?_ | refine ct rfl ?_ | refine cf rfl ?_))
  first | refine sw_seq_region ?_ | refine sw_region ?_
  apply bx; rfl; rfl; (first | (simp only [Value.cells, AV.cells, List.map_cons, List.map_nil, ofConst, ofCell]; rfl) | rfl); rfl; intro r5 h5; simp only [fresh_cons, fresh_nil, and_true] at h5; (repeat (rcases h5 with ⟨_, h5⟩))
  refine lo (lop_assign (E rfl)) rfl ?_
  apply le; (repeat (first | (apply KeepIs.take; rfl) | (apply KeepIs.skip; rfl) | exact KeepIs.nil))
  (repeat (first | refine cs ?_ | refine cb ?_ | refine ck ?_ | refine cx ?_ | refine cr ?_ | refine an ?_ | refine ae ?_ | refine ar ?_ | refine bn ?_ | refine bh ?_ | refine be rfl ?_ | refine br ?_ | refine ct rfl ?_ | refine cf rfl ?_))
  first | refine sw_seq_region ?_ | refine sw_region ?_
  refine lo (lop_move (E rfl)) rfl ?_
  refine lo (lop_move (E rfl)) rfl ?_
  (first | refine pu [] Try.call20 (nil_global i) rfl (by repeat (first | exact ArgsIf.nil | refine ArgsIf.cons (by first | exact Ev.when rfl (by first | exact id | simp) | exact Ev.here rfl) (by first | exact Bor.refl _ | exact Bor.le VLe.any | exact Bor.le VLe.empty | exact Bor.own (by simp) (by repeat (first | exact sget_here | refine sget_next (by (first | assumption | (apply Nq.en; assumption) | omega | (simp only [Nq] at *; omega))) ?_)) (by simp) | exact Bor.le (VLe.of_eq (by simp))) ?_)) (by repeat (first | exact NoF.int | exact NoF.bool | exact NoF.nilp | exact NoF.nil | exact NoF.own | exact NoF.ptr | exact NoF.str | exact nofl_nil | apply NoF.tup | apply NoF.agg | apply nofl_cons)) ?_ | refine pug [] rfl rfl Try.call20 (fun _ => (nil_global i)) rfl (by repeat (first | exact ArgsIf.nil | refine ArgsIf.cons (by first | exact Ev.when rfl (by first | exact id | simp) | exact Ev.here rfl) (by first | exact Bor.refl _ | exact Bor.le VLe.any | exact Bor.le VLe.empty | exact Bor.own (by simp) (by repeat (first | exact sget_here | refine sget_next (by (first | assumption | (apply Nq.en; assumption) | omega | (simp only [Nq] at *; omega))) ?_)) (by simp) | exact Bor.le (VLe.of_eq (by simp))) ?_)) (by repeat (first | exact NoF.int | exact NoF.bool | exact NoF.nilp | exact NoF.nil | exact NoF.own | exact NoF.ptr | exact NoF.str | exact nofl_nil | apply NoF.tup | apply NoF.agg | apply nofl_cons)) ?_)
  refine lo (lop_move (E rfl)) rfl ?_
  refine lo (lop_extract (E rfl) rfl) rfl ?_
  refine lo (lop_extract (E rfl) rfl) rfl ?_
  apply al; rfl; (first | (simp only [Value.cells, AV.cells, List.map_cons, List.map_nil, ofConst, ofCell]; rfl) | rfl); intro r7 h7; simp only [fresh_cons, fresh_nil, and_true] at h7; (repeat (rcases h7 with ⟨_, h7⟩))
  apply stp; rfl; rfl; rfl; rfl; (repeat (first | (apply SPut.here; (repeat (first | exact Put.done | apply Put.put | apply Put.skip)); (repeat (first | exact Fresh.nil | (apply Fresh.cons; (first | assumption | (apply Nq.en; assumption) | omega | (simp only [Nq] at *; omega)))))) | (apply SPut.next; (first | assumption | (apply Nq.en; assumption) | omega | (simp only [Nq] at *; omega)))))
  refine lo (lop_assign (E rfl)) rfl ?_
  apply le; (repeat (first | (apply KeepIs.take; rfl) | (apply KeepIs.skip; rfl) | exact KeepIs.nil))
  (repeat (first | refine cs ?_ | refine cb ?_ | refine ck ?_ | refine cx ?_ | refine cr ?_ | refine an ?_ | refine ae ?_ | refine ar ?_ | refine bn ?_ | refine bh ?_ | refine be rfl ?_ | refine br ?_ | refine ct rfl ?_ | refine cf rfl ?_))
  first | refine sw_seq_region ?_ | refine sw_region ?_
  refine lo (lop_move (E rfl)) rfl ?_
  refine lo (lop_not (E rfl)) rfl ?_
  refine lo (lop_move (E rfl)) rfl ?_
  first | refine ln rfl rfl rfl rfl ?_ | refine lg rfl rfl (lop_field_ptr (E rfl) rfl (by decide)) rfl ?_
  first | refine ln rfl rfl rfl rfl ?_ | refine lg rfl rfl (lop_load_ptr (W rfl id) rfl (by repeat (first | exact sget_here | refine sget_next (by (first | assumption | (apply Nq.en; assumption) | omega | (simp only [Nq] at *; omega))) ?_)) (fun _ => rfl)) rfl ?_
  first | refine ln rfl rfl rfl rfl ?_ | refine lg rfl rfl (lop_field_ptr (E rfl) rfl (by decide)) rfl ?_
  first | refine ln rfl rfl rfl rfl ?_ | refine lg rfl rfl (lop_load_ptr (W rfl id) rfl (by repeat (first | exact sget_here | refine sget_next (by (first | assumption | (apply Nq.en; assumption) | omega | (simp only [Nq] at *; omega))) ?_)) (fun _ => rfl)) rfl ?_
  first | refine ln rfl rfl rfl rfl ?_ | refine lg rfl rfl (lop_neq (W rfl id) (W rfl id)) rfl ?_
  first | refine lo (lop_pick_t (E rfl) (E rfl)) rfl ?_ | refine lo (lop_pick_f (E rfl) (W rfl (by simp))) rfl ?_ | refine lo (lop_pick (E rfl) (E rfl) (W rfl (by simp))) rfl ?_
  apply le; (repeat (first | (apply KeepIs.take; rfl) | (apply KeepIs.skip; rfl) | exact KeepIs.nil))
  (repeat (first | refine cs ?_ | refine cb ?_ | refine ck ?_ | refine cx ?_ | refine cr ?_ | refine an ?_ | refine ae ?_ | refine ar ?_ | refine bn ?_ | refine bh ?_ | refine be rfl ?_ | refine br ?_ | refine ct rfl ?_ | refine cf rfl ?_))
  first | refine sw_seq_region ?_ | refine sw_region ?_
  refine lo (lop_assign (E rfl)) rfl ?_
  apply le; (repeat (first | (apply KeepIs.take; rfl) | (apply KeepIs.skip; rfl) | exact KeepIs.nil))
  (repeat (first | refine cs ?_ | refine cb ?_ | refine ck ?_ | refine cx ?_ | refine cr ?_ | refine an ?_ | refine ae ?_ | refine ar ?_ | refine bn ?_ | refine bh ?_ | refine be rfl ?_ | refine br ?_ | refine ct rfl ?_ | refine cf rfl ?_))
  (apply aend; (repeat (first | exact ResL.nil | (apply ResL.tmp; rfl) | (apply ResL.cell; rfl; infer_instance; rfl; (repeat (first | exact sget_here | (apply sget_next; (first | assumption | (apply Nq.en; assumption) | omega | (simp only [Nq] at *; omega))))); rfl) | (apply ResL.cells; rfl; infer_instance; infer_instance; rfl; (repeat (first | exact sget_here | (apply sget_next; (first | assumption | (apply Nq.en; assumption) | omega | (simp only [Nq] at *; omega))))); exact Nat.le_of_ble_eq_true rfl))))
  · exact ⟨rfl, rfl⟩
  · (first | exact no_mem | (apply StLe.mem; (repeat (first | exact StLe.nil | (apply StLe.cons; (repeat (first | exact List.mem_cons_self | apply List.mem_cons_of_mem)); first | rfl | focus (congr 1; done) | focus (simp; done) | (simp; rfl))))))
end Go.Proofs.Ytpdgnenffiphcaa
