/-
  Package extent: what each function does.
-/
import Derived.Test.YtpdgnenffiphcaaLibC
namespace Go.Proofs.Ytpdgnenffiphcaa
open Go.RowKit Go.ChangeShapes Go.WideShapes Go.ChangeAt Go.Deep
set_option linter.unusedSimpArgs false
set_option linter.unusedVariables false
attribute [local irreducible] SW RS RD AThen ABlock

def newX (a n : Int) : Bool := decide (a < 0) || decide (n < 0) || decide (2048 < n)
def newA (a n : Int) : Int := if newX a n then 0 else a
def newF (a n : Int) : List Bool := if newX a n then [] else List.replicate n.toNat true
theorem bools_noF {l : List Bool} : ∀ e ∈ l.map encB, ∀ x ∈ e, NoF x := by
  intro e he x hx
  obtain ⟨b, _, rfl⟩ := List.mem_map.1 he
  obtain rfl := List.mem_singleton.1 hx
  exact .bool
theorem rep_noF' {n : Nat} {b : Bool} : ∀ e ∈ List.replicate n [AV.bool b], ∀ x ∈ e, NoF x := by
  intro e he x hx
  obtain rfl := List.eq_of_mem_replicate he
  obtain rfl := List.mem_singleton.1 hx
  exact .bool
set_option maxRecDepth 100000 in
theorem extent_new (a n : Int) : SCall Try.prog 24 [.int .i64 a, .int .i64 n] []
    (fun x σ => ∃ s q, Nq q s ∧ x = .ptr s 0 ∧ σ = [(s, .box 83 [.int .i64 (newA a n), .own q 0 (newF a n).length]), (q, .arr 4 1 ((newF a n).map encB))]) := by
  refine scall_of (n := 23) (ks := [0, 1, 4, 14]) Try.func24 rfl rfl (Nat.le_of_ble_eq_true rfl) ?_
  (repeat (first | refine cs ?_ | refine cb ?_ | refine ck ?_ | refine cx ?_ | refine cr ?_ | refine an ?_ | refine ae ?_ | refine ar ?_ | refine bn ?_ | refine bh ?_ | refine be rfl ?_ | refine br ?_ | refine ct rfl ?_ | refine cf rfl ?_))
  first | refine sw_seq_region ?_ | refine sw_region ?_
  refine lo (lop_assign (E rfl)) rfl ?_
  apply le; (repeat (first | (apply KeepIs.take; rfl) | (apply KeepIs.skip; rfl) | exact KeepIs.nil))
  (repeat (first | refine cs ?_ | refine cb ?_ | refine ck ?_ | refine cx ?_ | refine cr ?_ | refine an ?_ | refine ae ?_ | refine ar ?_ | refine bn ?_ | refine bh ?_ | refine be rfl ?_ | refine br ?_ | refine ct rfl ?_ | refine cf rfl ?_))
  first | refine sw_seq_region ?_ | refine sw_region ?_
  refine lo (lop_move (E rfl)) rfl ?_
  refine lo (lop_lss (E rfl) (E rfl)) rfl ?_
  refine lo (lop_move (E rfl)) rfl ?_
  first | refine ln rfl rfl rfl rfl ?_ | refine lg rfl rfl (lop_move (E rfl)) rfl ?_
  first | refine ln rfl rfl rfl rfl ?_ | refine lg rfl rfl (lop_lss (W rfl id) (E rfl)) rfl ?_
  first | refine lo (lop_pick_t (E rfl) (E rfl)) rfl ?_ | refine lo (lop_pick_f (E rfl) (W rfl (by simp))) rfl ?_ | refine lo (lop_pick (E rfl) (E rfl) (W rfl (by simp))) rfl ?_
  refine lo (lop_move (E rfl)) rfl ?_
  first | refine ln rfl rfl rfl rfl ?_ | refine lg rfl rfl (lop_move (E rfl)) rfl ?_
  first | refine ln rfl rfl rfl rfl ?_ | refine lg rfl rfl (lop_gtr (W rfl id) (E rfl)) rfl ?_
  first | refine lo (lop_pick_t (E rfl) (E rfl)) rfl ?_ | refine lo (lop_pick_f (E rfl) (W rfl (by simp))) rfl ?_ | refine lo (lop_pick (E rfl) (E rfl) (W rfl (by simp))) rfl ?_
  apply le; (repeat (first | (apply KeepIs.take; rfl) | (apply KeepIs.skip; rfl) | exact KeepIs.nil))
  (repeat (first | refine cs ?_ | refine cb ?_ | refine ck ?_ | refine cx ?_ | refine cr ?_ | refine an ?_ | refine ae ?_ | refine ar ?_ | refine bn ?_ | refine bh ?_ | refine be rfl ?_ | refine br ?_ | refine ct rfl ?_ | refine cf rfl ?_))
  refine sw_cond rfl (fun h => ?_) (fun h => ?_)
  · have hx : newX a n = true := by simpa [newX] using h
    (repeat (first | refine cs ?_ | refine cb ?_ | refine ck ?_ | refine cx ?_ | refine cr ?_ | refine an ?_ | refine ae ?_ | refine ar ?_ | refine bn ?_ | refine bh ?_ | refine be rfl ?_ | refine br ?_ | refine ct rfl ?_ | refine cf rfl ?_))
    first | refine sw_seq_region ?_ | refine sw_region ?_
    refine lo (lop_str (by repeat (first | exact PEvs.nil | (apply PEvs.cons; first | exact W rfl id | exact E rfl))) (by (first | (simp only [Value.cells, AV.cells, List.map_cons, List.map_nil, ofConst, ofCell]; rfl) | rfl)) (by repeat (first | exact Fill.nil | (apply Fill.cons; rfl; rfl; rfl; (repeat (first | exact Put.done | apply Put.put | apply Put.skip)))))) rfl ?_
    apply bx; rfl; rfl; (first | (simp only [Value.cells, AV.cells, List.map_cons, List.map_nil, ofConst, ofCell]; rfl) | rfl); rfl; intro r16 h16; simp only [fresh_cons, fresh_nil, and_true] at h16; (repeat (rcases h16 with ⟨_, h16⟩))
    refine lo (lop_assign (E rfl)) rfl ?_
    apply le; (repeat (first | (apply KeepIs.take; rfl) | (apply KeepIs.skip; rfl) | exact KeepIs.nil))
    refine an ?_
    refine sw_virt_box (ks := [0, 1, 4, 14]) r16 1 4 1 (by decide) (by repeat (first | exact sget_here | refine sget_next (by (first | assumption | (apply Nq.en; assumption) | omega | (simp only [Nq] at *; omega))) ?_)) rfl (by decide) fun q hq => ?_
    simp only [fresh_cons, fresh_nil, and_true] at hq; (repeat (rcases hq with ⟨_, hq⟩))
    apply Exists.intro; apply And.intro; (repeat (first | (apply SSet.here; (repeat (first | exact Fresh.nil | (apply Fresh.cons; (first | assumption | (apply Nq.en; assumption) | omega | (simp only [Nq] at *; omega)))))) | (apply SSet.next; (first | assumption | (apply Nq.en; assumption) | omega | (simp only [Nq] at *; omega)))))
    (repeat (first | refine cs ?_ | refine cb ?_ | refine ck ?_ | refine cx ?_ | refine cr ?_ | refine an ?_ | refine ae ?_ | refine ar ?_ | refine bn ?_ | refine bh ?_ | refine be rfl ?_ | refine br ?_ | refine ct rfl ?_ | refine cf rfl ?_))
    (apply aend; (repeat (first | exact ResL.nil | (apply ResL.tmp; rfl) | (apply ResL.cell; rfl; infer_instance; rfl; (repeat (first | exact sget_here | (apply sget_next; (first | assumption | (apply Nq.en; assumption) | omega | (simp only [Nq] at *; omega))))); rfl) | (apply ResL.cells; rfl; infer_instance; infer_instance; rfl; (repeat (first | exact sget_here | (apply sget_next; (first | assumption | (apply Nq.en; assumption) | omega | (simp only [Nq] at *; omega))))); exact Nat.le_of_ble_eq_true rfl))))
    · exact ⟨r16, q, by (first | assumption | (apply Nq.en; assumption) | omega | (simp only [Nq] at *; omega)), rfl, rfl⟩
    · simp only [newA, newF, hx, if_true]
      (first | exact no_mem | (apply StLe.mem; (repeat (first | exact StLe.nil | (apply StLe.cons; (repeat (first | exact List.mem_cons_self | apply List.mem_cons_of_mem)); first | rfl | focus (congr 1; done) | focus (simp; done) | (simp; rfl))))))
  · have hx : newX a n = false := by simpa [newX] using h
    simp at h
    obtain ⟨m, rfl⟩ := Int.eq_ofNat_of_zero_le (show 0 ≤ n by omega)
    (repeat (first | refine cs ?_ | refine cb ?_ | refine ck ?_ | refine cx ?_ | refine cr ?_ | refine an ?_ | refine ae ?_ | refine ar ?_ | refine bn ?_ | refine bh ?_ | refine be rfl ?_ | refine br ?_ | refine ct rfl ?_ | refine cf rfl ?_))
    first | refine sw_seq_region ?_ | refine sw_region ?_
    refine lo (lop_move (E rfl)) rfl ?_
    apply bs; (repeat (first | exact AEvs.nil | (apply AEvs.cons; rfl))); rfl; rfl; rfl; rfl; (first | (simp only [Value.cells, AV.cells, List.map_cons, List.map_nil, ofConst, ofCell]; rfl) | rfl); rfl; intro r18 h18; simp only [fresh_cons, fresh_nil, and_true] at h18; (repeat (rcases h18 with ⟨_, h18⟩))
    refine lo (lop_move (E rfl)) rfl ?_
    refine cl [r18] Try.call35 (lib_repeat_bool (v := .bool true) rfl m (by omega)) rfl ?_ ?_ ?_
    · (repeat (first | exact ArgsBor.nil | (apply ArgsBor.cons; rfl; (first | exact Bor.refl _ | exact Bor.le VLe.any | exact Bor.le VLe.empty | (apply bown; (repeat (first | exact List.mem_cons_self | apply List.mem_cons_of_mem)); (repeat (first | exact sget_here | (apply sget_next; (first | assumption | (apply Nq.en; assumption) | omega | (simp only [Nq] at *; omega))))); (first | focus (simp; done) | omega | focus (simp; omega)); (first | rfl | focus (simp; done) | focus (exact List.take_of_length_le (by first | (simp; done) | (simp; omega))))) | focus (apply bagg; (repeat (first | exact BorL.nil | (apply BorL.cons; (first | exact Bor.refl _ | exact Bor.le VLe.any | exact Bor.le VLe.empty | (apply bown; (repeat (first | exact List.mem_cons_self | apply List.mem_cons_of_mem)); (repeat (first | exact sget_here | (apply sget_next; (first | assumption | (apply Nq.en; assumption) | omega | (simp only [Nq] at *; omega))))); (first | focus (simp; done) | omega); (first | rfl | focus (simp; done) | focus (exact List.take_of_length_le (by first | (simp; done) | (simp; omega))))) | focus (apply Bor.le; apply VLe.of_eq; simp; done))))); done) | focus (apply Bor.le; apply VLe.of_eq; simp; done)))))
    · rintro x σ' ⟨r, rfl, rfl⟩
      refine ⟨NoF.own, ?_⟩
      simp only [List.mem_singleton, forall_eq]
      exact rep_noF'
    rintro x σ' ⟨q, rfl, rfl⟩ hq
    simp only [List.mem_cons, List.mem_singleton, List.not_mem_nil, or_false, forall_eq_or_imp, forall_eq, fresh_cons, fresh_nil, and_true, and_assoc] at hq; (repeat (rcases hq with ⟨_, hq⟩))
    (apply rs_sto; (first | (simp (disch := (first | (simp only [List.mem_cons, List.not_mem_nil, true_or, or_true, or_false]; done) | (focus (simp only [List.mem_cons, List.not_mem_nil, or_false, not_or]; (repeat' (first | apply And.intro | (first | assumption | (apply Nq.en; assumption) | omega | (simp only [Nq] at *; omega)))); done)) | omega)) only [↓put_σ, ↓mk_σ, AV.cells, sset, sdrop_none, sdrop_nil, sdrop_in, sdrop_out, List.nil_append, List.cons_append, List.append_nil, List.map_nil, List.map_cons, List.take_succ_cons, List.take_zero, List.drop_succ_cons, List.drop_zero, take_len', take_map_len, Nat.zero_add, Nat.add_zero, ofCell, ofConst]; rfl) | rfl))
    refine lo (lop_str (by repeat (first | exact PEvs.nil | (apply PEvs.cons; first | exact W rfl id | exact E rfl))) (by (first | (simp only [Value.cells, AV.cells, List.map_cons, List.map_nil, ofConst, ofCell]; rfl) | rfl)) (by repeat (first | exact Fill.nil | (apply Fill.cons; rfl; rfl; rfl; (repeat (first | exact Put.done | apply Put.put | apply Put.skip)))))) rfl ?_
    apply bx; rfl; rfl; (first | (simp only [Value.cells, AV.cells, List.map_cons, List.map_nil, ofConst, ofCell]; rfl) | rfl); rfl; intro r22 h22; simp only [fresh_cons, fresh_nil, and_true] at h22; (repeat (rcases h22 with ⟨_, h22⟩))
    refine lo (lop_assign (E rfl)) rfl ?_
    apply le; (repeat (first | (apply KeepIs.take; rfl) | (apply KeepIs.skip; rfl) | exact KeepIs.nil))
    (repeat (first | refine cs ?_ | refine cb ?_ | refine ck ?_ | refine cx ?_ | refine cr ?_ | refine an ?_ | refine ae ?_ | refine ar ?_ | refine bn ?_ | refine bh ?_ | refine be rfl ?_ | refine br ?_ | refine ct rfl ?_ | refine cf rfl ?_))
    (apply aend; (repeat (first | exact ResL.nil | (apply ResL.tmp; rfl) | (apply ResL.cell; rfl; infer_instance; rfl; (repeat (first | exact sget_here | (apply sget_next; (first | assumption | (apply Nq.en; assumption) | omega | (simp only [Nq] at *; omega))))); rfl) | (apply ResL.cells; rfl; infer_instance; infer_instance; rfl; (repeat (first | exact sget_here | (apply sget_next; (first | assumption | (apply Nq.en; assumption) | omega | (simp only [Nq] at *; omega))))); exact Nat.le_of_ble_eq_true rfl))))
    · exact ⟨r22, q, by (first | assumption | (apply Nq.en; assumption) | omega | (simp only [Nq] at *; omega)), rfl, rfl⟩
    · simp only [newA, newF, hx, Bool.false_eq_true, if_false, Int.toNat_natCast, List.map_replicate, List.length_replicate]
      (first | exact no_mem | (apply StLe.mem; (repeat (first | exact StLe.nil | (apply StLe.cons; (repeat (first | exact List.mem_cons_self | apply List.mem_cons_of_mem)); first | rfl | focus (congr 1; done) | focus (simp; done) | (simp; rfl))))))

section
variable {s q : Nat}
def allB (at_ : Int) (fr : List Bool) (a l : Int) (v : Bool) : Bool :=
  decide (1 ≤ l) && decide (l ≤ fr.length) && decide (at_ ≤ a) && decide (a - at_ ≤ fr.length - l) && !(((fr.drop (a - at_).toNat).take l.toNat).contains (!v))
set_option maxRecDepth 100000 in
theorem extent_all (h1 : Nq q s) (at_ : Int) (fr : List Bool) (h0 : 0 ≤ at_) (hf : fr.length ≤ 100000) (a l : Int) (ha : a ≤ 9223372036854775807) (hl : l ≤ 9223372036854775807) (v : Bool) : SCall Try.prog 39 [.ptr s 0, .agg [.int .i64 a, .int .i64 l], .bool v]
    [(s, .box 83 [.int .i64 at_, .own q 0 fr.length]), (q, .arr 4 1 (fr.map encB))]
    (fun x σ => x = .bool (allB at_ fr a l v) ∧ σ = [(s, .box 83 [.int .i64 at_, .own q 0 fr.length]), (q, .arr 4 1 (fr.map encB))]) := by
  refine scall_of (n := 73) (ks := [0, 1, 2, 4, 6, 7, 51]) Try.func39 rfl rfl (Nat.le_of_ble_eq_true rfl) ?_
  (repeat (first | refine cs ?_ | refine cb ?_ | refine ck ?_ | refine cx ?_ | refine cr ?_ | refine an ?_ | refine ae ?_ | refine ar ?_ | refine bn ?_ | refine bh ?_ | refine be rfl ?_ | refine br ?_ | refine ct rfl ?_ | refine cf rfl ?_))
  first | refine sw_seq_region ?_ | refine sw_region ?_
  apply bx; rfl; rfl; (first | (simp only [Value.cells, AV.cells, List.map_cons, List.map_nil, ofConst, ofCell]; rfl) | rfl); rfl; intro r4 h4; simp only [fresh_cons, fresh_nil, and_true] at h4; (repeat (rcases h4 with ⟨_, h4⟩))
  refine lo (lop_assign (E rfl)) rfl ?_
  apply le; (repeat (first | (apply KeepIs.take; rfl) | (apply KeepIs.skip; rfl) | exact KeepIs.nil))
  (repeat (first | refine cs ?_ | refine cb ?_ | refine ck ?_ | refine cx ?_ | refine cr ?_ | refine an ?_ | refine ae ?_ | refine ar ?_ | refine bn ?_ | refine bh ?_ | refine be rfl ?_ | refine br ?_ | refine ct rfl ?_ | refine cf rfl ?_))
  first | refine sw_seq_drawn [(0, true), (1, true), (2, true), (3, true), (4, true), (5, true), (6, true), (7, true), (8, true), (9, true), (10, true), (11, true), (12, true), (13, true), (14, true), (15, true), (16, true), (17, true), (18, true), (19, true), (20, true), (21, true), (22, true), (23, true), (24, true), (25, true), (26, true), (27, true), (28, true), (29, true), (30, true), (31, true), (32, true), (33, true), (34, true), (35, true), (36, true), (37, true), (38, true), (39, true), (40, true), (41, true), (42, true), (43, true)] mixed (by kernel_rfl) (by kernel_rfl) ?_ | refine sw_region_drawn [(0, true), (1, true), (2, true), (3, true), (4, true), (5, true), (6, true), (7, true), (8, true), (9, true), (10, true), (11, true), (12, true), (13, true), (14, true), (15, true), (16, true), (17, true), (18, true), (19, true), (20, true), (21, true), (22, true), (23, true), (24, true), (25, true), (26, true), (27, true), (28, true), (29, true), (30, true), (31, true), (32, true), (33, true), (34, true), (35, true), (36, true), (37, true), (38, true), (39, true), (40, true), (41, true), (42, true), (43, true)] mixed (by kernel_rfl) (by kernel_rfl) ?_
  refine dlo rfl (lop_move (E rfl)) rfl ?_
  first | refine dlo rfl (lop_peql (E rfl) (E rfl) (.inl ⟨rfl, rfl⟩)) rfl ?_ | refine dlo rfl (lop_peql (E rfl) (E rfl) (.inr (.inl ⟨⟨_, _, rfl⟩, rfl⟩))) rfl ?_ | refine dlo rfl (lop_peql (E rfl) (E rfl) (.inr (.inr ⟨⟨_, _, _, rfl⟩, rfl⟩))) rfl ?_
  refine dlo rfl (lop_move (E rfl)) rfl ?_
  first | refine dln rfl rfl rfl rfl rfl ?_ | refine dlg rfl rfl rfl (lop_field_ptr (E rfl) rfl (by decide)) rfl ?_
  first | refine dln rfl rfl rfl rfl rfl ?_ | refine dlg rfl rfl rfl (lop_load_ptr (W rfl id) rfl (by repeat (first | exact sget_here | refine sget_next (by (first | assumption | (apply Nq.en; assumption) | omega | (simp only [Nq] at *; omega))) ?_)) (fun _ => rfl)) rfl ?_
  first | refine dln rfl rfl rfl rfl rfl ?_ | refine dlg rfl rfl rfl (lop_lss (W rfl id) (E rfl)) rfl ?_
  first | refine dlo rfl (lop_pick_t (E rfl) (E rfl)) rfl ?_ | refine dlo rfl (lop_pick_f (E rfl) (W rfl (by simp))) rfl ?_ | refine dlo rfl (lop_pick (E rfl) (E rfl) (W rfl (by simp))) rfl ?_
  refine dlo rfl (lop_move (E rfl)) rfl ?_
  first | refine dln rfl rfl rfl rfl rfl ?_ | refine dlg rfl rfl rfl (lop_field_ptr (E rfl) rfl (by decide)) rfl ?_
  first | refine dln rfl rfl rfl rfl rfl ?_ | refine dlg rfl rfl rfl (lop_load_ptr (W rfl id) rfl (by repeat (first | exact sget_here | refine sget_next (by (first | assumption | (apply Nq.en; assumption) | omega | (simp only [Nq] at *; omega))) ?_)) (fun _ => rfl)) rfl ?_
  first | refine dln rfl rfl rfl rfl rfl ?_ | refine dlg rfl rfl rfl (lop_move (E rfl)) rfl ?_
  first | refine dln rfl rfl rfl rfl rfl ?_ | refine dlg rfl rfl rfl (lop_nilCheck (W rfl id) (.inl ⟨_, _, rfl⟩)) rfl ?_
  first | refine dln rfl rfl rfl rfl rfl ?_ | refine dlg rfl rfl rfl (lop_field_ptr (W rfl id) rfl (by decide)) rfl ?_
  first | refine dln rfl rfl rfl rfl rfl ?_ | refine dlg rfl rfl rfl (lop_load_ptr (W rfl id) rfl (by repeat (first | exact sget_here | refine sget_next (by (first | assumption | (apply Nq.en; assumption) | omega | (simp only [Nq] at *; omega))) ?_)) (fun _ => rfl)) rfl ?_
  first | refine dln rfl rfl rfl rfl rfl ?_ | refine dlg rfl rfl rfl (lop_len_map (W rfl id)) rfl ?_ | refine dlg rfl rfl rfl (lop_len_ro (W rfl id)) rfl ?_ | refine dlg rfl rfl rfl (lop_len_own (W rfl id)) rfl ?_
  first | refine dln rfl rfl rfl rfl rfl ?_ | refine dlg rfl rfl rfl (lop_gtr (W rfl id) (W rfl id)) rfl ?_
  first | refine dlo rfl (lop_pick_t (E rfl) (E rfl)) rfl ?_ | refine dlo rfl (lop_pick_f (E rfl) (W rfl (by simp))) rfl ?_ | refine dlo rfl (lop_pick (E rfl) (E rfl) (W rfl (by simp))) rfl ?_
  refine dlo rfl (lop_move (E rfl)) rfl ?_
  first | refine dln rfl rfl rfl rfl rfl ?_ | refine dlg rfl rfl rfl (lop_field_ptr (E rfl) rfl (by decide)) rfl ?_
  first | refine dln rfl rfl rfl rfl rfl ?_ | refine dlg rfl rfl rfl (lop_load_ptr (W rfl id) rfl (by repeat (first | exact sget_here | refine sget_next (by (first | assumption | (apply Nq.en; assumption) | omega | (simp only [Nq] at *; omega))) ?_)) (fun _ => rfl)) rfl ?_
  first | refine dln rfl rfl rfl rfl rfl ?_ | refine dlg rfl rfl rfl (lop_move (E rfl)) rfl ?_
  first | refine dln rfl rfl rfl rfl rfl ?_ | refine dlg rfl rfl rfl (lop_nilCheck (W rfl id) (.inl ⟨_, _, rfl⟩)) rfl ?_
  first | refine dln rfl rfl rfl rfl rfl ?_ | refine dlg rfl rfl rfl (lop_field_ptr (W rfl id) rfl (by decide)) rfl ?_
  first | refine dln rfl rfl rfl rfl rfl ?_ | refine dlg rfl rfl rfl (lop_load_ptr (W rfl id) rfl (by repeat (first | exact sget_here | refine sget_next (by (first | assumption | (apply Nq.en; assumption) | omega | (simp only [Nq] at *; omega))) ?_)) (fun _ => rfl)) rfl ?_
  first | refine dln rfl rfl rfl rfl rfl ?_ | refine dlg rfl rfl rfl (lop_lss (W rfl id) (W rfl id)) rfl ?_
  first | refine dlo rfl (lop_pick_t (E rfl) (E rfl)) rfl ?_ | refine dlo rfl (lop_pick_f (E rfl) (W rfl (by simp))) rfl ?_ | refine dlo rfl (lop_pick (E rfl) (E rfl) (W rfl (by simp))) rfl ?_
  refine dlo rfl (lop_move (E rfl)) rfl ?_
  first | refine dln rfl rfl rfl rfl rfl ?_ | refine dlg rfl rfl rfl (lop_field_ptr (E rfl) rfl (by decide)) rfl ?_
  first | refine dln rfl rfl rfl rfl rfl ?_ | refine dlg rfl rfl rfl (lop_load_ptr (W rfl id) rfl (by repeat (first | exact sget_here | refine sget_next (by (first | assumption | (apply Nq.en; assumption) | omega | (simp only [Nq] at *; omega))) ?_)) (fun _ => rfl)) rfl ?_
  first | refine dln rfl rfl rfl rfl rfl ?_ | refine dlg rfl rfl rfl (lop_move (E rfl)) rfl ?_
  first | refine dln rfl rfl rfl rfl rfl ?_ | refine dlg rfl rfl rfl (lop_nilCheck (W rfl id) (.inl ⟨_, _, rfl⟩)) rfl ?_
  first | refine dln rfl rfl rfl rfl rfl ?_ | refine dlg rfl rfl rfl (lop_field_ptr (W rfl id) rfl (by decide)) rfl ?_
  first | refine dln rfl rfl rfl rfl rfl ?_ | refine dlg rfl rfl rfl (lop_load_ptr (W rfl id) rfl (by repeat (first | exact sget_here | refine sget_next (by (first | assumption | (apply Nq.en; assumption) | omega | (simp only [Nq] at *; omega))) ?_)) (fun _ => rfl)) rfl ?_
  first | refine dln rfl rfl rfl rfl rfl ?_ | refine dlg rfl rfl rfl (lop_sub64 (W rfl id) (W rfl id) (by omega) (by omega)) rfl ?_ | refine dlg rfl rfl rfl (lop_sub64c (W rfl id) (W rfl id) (fun hc => by simp at hc <;> omega)) rfl ?_ | refine dlg rfl rfl rfl (lop_sub (W rfl id) (W rfl id)) rfl ?_
  first | refine dln rfl rfl rfl rfl rfl ?_ | refine dlg rfl rfl rfl (lop_move (E rfl)) rfl ?_
  first | refine dln rfl rfl rfl rfl rfl ?_ | refine dlg rfl rfl rfl (lop_nilCheck (W rfl id) (.inl ⟨_, _, rfl⟩)) rfl ?_
  first | refine dln rfl rfl rfl rfl rfl ?_ | refine dlg rfl rfl rfl (lop_field_ptr (W rfl id) rfl (by decide)) rfl ?_
  first | refine dln rfl rfl rfl rfl rfl ?_ | refine dlg rfl rfl rfl (lop_load_ptr (W rfl id) rfl (by repeat (first | exact sget_here | refine sget_next (by (first | assumption | (apply Nq.en; assumption) | omega | (simp only [Nq] at *; omega))) ?_)) (fun _ => rfl)) rfl ?_
  first | refine dln rfl rfl rfl rfl rfl ?_ | refine dlg rfl rfl rfl (lop_len_map (W rfl id)) rfl ?_ | refine dlg rfl rfl rfl (lop_len_ro (W rfl id)) rfl ?_ | refine dlg rfl rfl rfl (lop_len_own (W rfl id)) rfl ?_
  first | refine dln rfl rfl rfl rfl rfl ?_ | refine dlg rfl rfl rfl (lop_field_ptr (E rfl) rfl (by decide)) rfl ?_
  first | refine dln rfl rfl rfl rfl rfl ?_ | refine dlg rfl rfl rfl (lop_load_ptr (W rfl id) rfl (by repeat (first | exact sget_here | refine sget_next (by (first | assumption | (apply Nq.en; assumption) | omega | (simp only [Nq] at *; omega))) ?_)) (fun _ => rfl)) rfl ?_
  first | refine dln rfl rfl rfl rfl rfl ?_ | refine dlg rfl rfl rfl (lop_sub64 (W rfl id) (W rfl id) (by omega) (by omega)) rfl ?_ | refine dlg rfl rfl rfl (lop_sub64c (W rfl id) (W rfl id) (fun hc => by simp at hc <;> omega)) rfl ?_ | refine dlg rfl rfl rfl (lop_sub (W rfl id) (W rfl id)) rfl ?_
  first | refine dln rfl rfl rfl rfl rfl ?_ | refine dlg rfl rfl rfl (lop_gtr (W rfl id) (W rfl id)) rfl ?_
  first | refine dlo rfl (lop_pick_t (E rfl) (E rfl)) rfl ?_ | refine dlo rfl (lop_pick_f (E rfl) (W rfl (by simp))) rfl ?_ | refine dlo rfl (lop_pick (E rfl) (E rfl) (W rfl (by simp))) rfl ?_
  apply de; (repeat (first | (apply KeepIs.take; rfl) | (apply KeepIs.skip; rfl) | exact KeepIs.nil))
  (repeat (first | refine cs ?_ | refine cb ?_ | refine ck ?_ | refine cx ?_ | refine cr ?_ | refine an ?_ | refine ae ?_ | refine ar ?_ | refine bn ?_ | refine bh ?_ | refine be rfl ?_ | refine br ?_ | refine ct rfl ?_ | refine cf rfl ?_))
  refine sw_cond rfl (fun h => ?_) (fun h => ?_)
  · (repeat (first | refine cs ?_ | refine cb ?_ | refine ck ?_ | refine cx ?_ | refine cr ?_ | refine an ?_ | refine ae ?_ | refine ar ?_ | refine bn ?_ | refine bh ?_ | refine be rfl ?_ | refine br ?_ | refine ct rfl ?_ | refine cf rfl ?_))
    first | refine sw_seq_region ?_ | refine sw_region ?_
    refine lo (lop_assign (E rfl)) rfl ?_
    apply le; (repeat (first | (apply KeepIs.take; rfl) | (apply KeepIs.skip; rfl) | exact KeepIs.nil))
    (repeat (first | refine cs ?_ | refine cb ?_ | refine ck ?_ | refine cx ?_ | refine cr ?_ | refine an ?_ | refine ae ?_ | refine ar ?_ | refine bn ?_ | refine bh ?_ | refine be rfl ?_ | refine br ?_ | refine ct rfl ?_ | refine cf rfl ?_))
    (apply aend; (repeat (first | exact ResL.nil | (apply ResL.tmp; rfl) | (apply ResL.cell; rfl; infer_instance; rfl; (repeat (first | exact sget_here | (apply sget_next; (first | assumption | (apply Nq.en; assumption) | omega | (simp only [Nq] at *; omega))))); rfl) | (apply ResL.cells; rfl; infer_instance; infer_instance; rfl; (repeat (first | exact sget_here | (apply sget_next; (first | assumption | (apply Nq.en; assumption) | omega | (simp only [Nq] at *; omega))))); exact Nat.le_of_ble_eq_true rfl))))
    · refine ⟨?_, rfl⟩
      have : allB at_ fr a l v = false := by
        simp at h
        simp [allB]
        intro h1 h2 h3 h4
        omega
      simp [resAV, ofConst, this]
    · (first | exact no_mem | (apply StLe.mem; (repeat (first | exact StLe.nil | (apply StLe.cons; (repeat (first | exact List.mem_cons_self | apply List.mem_cons_of_mem)); first | rfl | focus (congr 1; done) | focus (simp; done) | (simp; rfl))))))
  simp at h
  (repeat (first | refine cs ?_ | refine cb ?_ | refine ck ?_ | refine cx ?_ | refine cr ?_ | refine an ?_ | refine ae ?_ | refine ar ?_ | refine bn ?_ | refine bh ?_ | refine be rfl ?_ | refine br ?_ | refine ct rfl ?_ | refine cf rfl ?_))
  first | refine sw_seq_drawn [(0, true), (1, true), (2, true), (3, true), (4, true), (5, true), (6, true), (7, true)] mixed (by kernel_rfl) (by kernel_rfl) ?_ | refine sw_region_drawn [(0, true), (1, true), (2, true), (3, true), (4, true), (5, true), (6, true), (7, true)] mixed (by kernel_rfl) (by kernel_rfl) ?_
  refine dlo rfl (lop_field_ptr (E rfl) rfl (by decide)) rfl ?_
  refine dlo rfl (lop_load_ptr (E rfl) rfl (by repeat (first | exact sget_here | refine sget_next (by (first | assumption | (apply Nq.en; assumption) | omega | (simp only [Nq] at *; omega))) ?_)) (fun _ => rfl)) rfl ?_
  refine dlo rfl (lop_move (E rfl)) rfl ?_
  refine dlo rfl (lop_nilCheck (E rfl) (.inl ⟨_, _, rfl⟩)) rfl ?_
  refine dlo rfl (lop_field_ptr (E rfl) rfl (by decide)) rfl ?_
  refine dlo rfl (lop_load_ptr (E rfl) rfl (by repeat (first | exact sget_here | refine sget_next (by (first | assumption | (apply Nq.en; assumption) | omega | (simp only [Nq] at *; omega))) ?_)) (fun _ => rfl)) rfl ?_
  first | refine dlo rfl (lop_sub64 (E rfl) (E rfl) (by omega) (by omega)) rfl ?_ | refine dlo rfl (lop_sub (E rfl) (E rfl)) rfl ?_
  refine dlo rfl (lop_assign (E rfl)) rfl ?_
  apply de; (repeat (first | (apply KeepIs.take; rfl) | (apply KeepIs.skip; rfl) | exact KeepIs.nil))
  (repeat (first | refine cs ?_ | refine cb ?_ | refine ck ?_ | refine cx ?_ | refine cr ?_ | refine an ?_ | refine ae ?_ | refine ar ?_ | refine bn ?_ | refine bh ?_ | refine be rfl ?_ | refine br ?_ | refine ct rfl ?_ | refine cf rfl ?_))
  first | refine sw_seq_drawn [(0, true), (1, true), (2, true), (3, true), (4, true), (5, true), (6, true), (7, true), (8, true), (9, true), (10, true), (11, true), (12, false), (13, true), (14, true)] mixed (by kernel_rfl) (by kernel_rfl) ?_ | refine sw_region_drawn [(0, true), (1, true), (2, true), (3, true), (4, true), (5, true), (6, true), (7, true), (8, true), (9, true), (10, true), (11, true), (12, false), (13, true), (14, true)] mixed (by kernel_rfl) (by kernel_rfl) ?_
  refine dlo rfl (lop_move (E rfl)) rfl ?_
  refine dlo rfl (lop_nilCheck (E rfl) (.inl ⟨_, _, rfl⟩)) rfl ?_
  refine dlo rfl (lop_field_ptr (E rfl) rfl (by decide)) rfl ?_
  refine dlo rfl (lop_load_ptr (E rfl) rfl (by repeat (first | exact sget_here | refine sget_next (by (first | assumption | (apply Nq.en; assumption) | omega | (simp only [Nq] at *; omega))) ?_)) (fun _ => rfl)) rfl ?_
  refine dlo rfl (lop_move (E rfl)) rfl ?_
  refine dlo rfl (lop_move (E rfl)) rfl ?_
  refine dlo rfl (lop_field_ptr (E rfl) rfl (by decide)) rfl ?_
  refine dlo rfl (lop_load_ptr (E rfl) rfl (by repeat (first | exact sget_here | refine sget_next (by (first | assumption | (apply Nq.en; assumption) | omega | (simp only [Nq] at *; omega))) ?_)) (fun _ => rfl)) rfl ?_
  first | refine dlo rfl (lop_add64 (E rfl) (E rfl) (by omega) (by omega)) rfl ?_ | refine dlo rfl (lop_add (E rfl) (E rfl)) rfl ?_
  first | refine dlo rfl (lop_slice_ro (E rfl) (OB.some (E rfl) (fun _ => by first | rfl | exact (Int.toNat_of_nonneg (by omega)).symm)) (OB.some (E rfl) (fun _ => by first | rfl | exact (Int.toNat_of_nonneg (by omega)).symm)) (fun _ => by first | (simp only [List.length_map]; omega) | omega)) rfl ?_ | refine dlo rfl (lop_slice_own (E rfl) (by repeat (first | exact sget_here | refine sget_next (by (first | assumption | (apply Nq.en; assumption) | omega | (simp only [Nq] at *; omega))) ?_)) (OB.some (E rfl) (fun _ => by first | rfl | exact (Int.toNat_of_nonneg (by omega)).symm)) (OB.some (E rfl) (fun _ => by first | rfl | exact (Int.toNat_of_nonneg (by omega)).symm)) (fun _ => by first | (simp only [List.length_map]; omega) | omega)) rfl ?_
  refine dlo rfl (lop_move (E rfl)) rfl ?_
  refine dlo rfl (lop_not (E rfl)) rfl ?_
  refine dpu [q] rfl Try.call42 (lib_contains_bool (k := .any) ((fr.drop (a - at_).toNat).take l.toNat) (!v)) rfl ?_ (by repeat (first | exact NoF.int | exact NoF.bool | exact NoF.nilp | exact NoF.nil | exact NoF.own | exact NoF.ptr | exact NoF.str | exact nofl_nil | apply NoF.tup | apply NoF.agg | apply nofl_cons)) ?_
  · apply ArgsIf.cons; exact E rfl
    · apply bown; exact List.mem_cons_self; (repeat (first | exact sget_here | (apply sget_next; (first | assumption | (apply Nq.en; assumption) | omega | (simp only [Nq] at *; omega)))))
      · simp; omega
      · rw [List.map_take, List.map_drop, Nat.zero_add]; congr 1; omega
    (repeat (first | exact ArgsIf.nil | (apply ArgsIf.cons; (first | exact W rfl id | exact W rfl (fun _ => rfl) | exact E rfl); (first | exact Bor.refl _ | exact Bor.le VLe.any | exact Bor.le VLe.empty | (apply bown; (repeat (first | exact List.mem_cons_self | apply List.mem_cons_of_mem)); (repeat (first | exact sget_here | (apply sget_next; (first | assumption | (apply Nq.en; assumption) | omega | (simp only [Nq] at *; omega))))); (first | focus (simp; done) | omega | focus (simp; omega)); (first | rfl | focus (simp; done) | focus (exact List.take_of_length_le (by first | (simp; done) | (simp; omega))))) | focus (apply bagg; (repeat (first | exact BorL.nil | (apply BorL.cons; (first | exact Bor.refl _ | exact Bor.le VLe.any | exact Bor.le VLe.empty | (apply bown; (repeat (first | exact List.mem_cons_self | apply List.mem_cons_of_mem)); (repeat (first | exact sget_here | (apply sget_next; (first | assumption | (apply Nq.en; assumption) | omega | (simp only [Nq] at *; omega))))); (first | focus (simp; done) | omega); (first | rfl | focus (simp; done) | focus (exact List.take_of_length_le (by first | (simp; done) | (simp; omega))))) | focus (apply Bor.le; apply VLe.of_eq; simp; done))))); done) | focus (apply Bor.le; apply VLe.of_eq; simp; done)))))
  refine dlo rfl (lop_not (E rfl)) rfl ?_
  refine dlo rfl (lop_assign (E rfl)) rfl ?_
  apply de; (repeat (first | (apply KeepIs.take; rfl) | (apply KeepIs.skip; rfl) | exact KeepIs.nil))
  (repeat (first | refine cs ?_ | refine cb ?_ | refine ck ?_ | refine cx ?_ | refine cr ?_ | refine an ?_ | refine ae ?_ | refine ar ?_ | refine bn ?_ | refine bh ?_ | refine be rfl ?_ | refine br ?_ | refine ct rfl ?_ | refine cf rfl ?_))
  (apply aend; (repeat (first | exact ResL.nil | (apply ResL.tmp; rfl) | (apply ResL.cell; rfl; infer_instance; rfl; (repeat (first | exact sget_here | (apply sget_next; (first | assumption | (apply Nq.en; assumption) | omega | (simp only [Nq] at *; omega))))); rfl) | (apply ResL.cells; rfl; infer_instance; infer_instance; rfl; (repeat (first | exact sget_here | (apply sget_next; (first | assumption | (apply Nq.en; assumption) | omega | (simp only [Nq] at *; omega))))); exact Nat.le_of_ble_eq_true rfl))))
  · refine ⟨?_, rfl⟩
    have h2 : (decide (1 ≤ l) && decide (l ≤ fr.length) && decide (at_ ≤ a) && decide (a - at_ ≤ fr.length - l)) = true := by simp; omega
    simp only [resAV, allB, h2, Bool.true_and]
  · (first | exact no_mem | (apply StLe.mem; (repeat (first | exact StLe.nil | (apply StLe.cons; (repeat (first | exact List.mem_cons_self | apply List.mem_cons_of_mem)); first | rfl | focus (congr 1; done) | focus (simp; done) | (simp; rfl))))))
set_option maxRecDepth 100000 in
theorem nil_all (a l : Int) (v : Bool) : SCall Try.prog 39 [.nilp, .agg [.int .i64 a, .int .i64 l], .bool v] [] (fun x σ => x = .bool false ∧ σ = []) := by
  refine scall_of (n := 73) (ks := [0, 1, 2, 4, 6, 7, 51]) Try.func39 rfl rfl (Nat.le_of_ble_eq_true rfl) ?_
  (repeat (first | refine cs ?_ | refine cb ?_ | refine ck ?_ | refine cx ?_ | refine cr ?_ | refine an ?_ | refine ae ?_ | refine ar ?_ | refine bn ?_ | refine bh ?_ | refine be rfl ?_ | refine br ?_ | refine ct rfl ?_ | refine cf rfl ?_))
  first | refine sw_seq_region ?_ | refine sw_region ?_
  apply bx; rfl; rfl; (first | (simp only [Value.cells, AV.cells, List.map_cons, List.map_nil, ofConst, ofCell]; rfl) | rfl); rfl; intro r4 h4; simp only [fresh_cons, fresh_nil, and_true] at h4; (repeat (rcases h4 with ⟨_, h4⟩))
  refine lo (lop_assign (E rfl)) rfl ?_
  apply le; (repeat (first | (apply KeepIs.take; rfl) | (apply KeepIs.skip; rfl) | exact KeepIs.nil))
  (repeat (first | refine cs ?_ | refine cb ?_ | refine ck ?_ | refine cx ?_ | refine cr ?_ | refine an ?_ | refine ae ?_ | refine ar ?_ | refine bn ?_ | refine bh ?_ | refine be rfl ?_ | refine br ?_ | refine ct rfl ?_ | refine cf rfl ?_))
  first | refine sw_seq_drawn [(0, true), (1, true), (2, true), (3, true), (4, true), (5, true), (6, true), (7, true), (8, true), (9, true), (10, true), (11, true), (12, true), (13, true), (14, true), (15, true), (16, true), (17, true), (18, true), (19, true), (20, true), (21, true), (22, true), (23, true), (24, true), (25, true), (26, true), (27, true), (28, true), (29, true), (30, true), (31, true), (32, true), (33, true), (34, true), (35, true), (36, true), (37, true), (38, true), (39, true), (40, true), (41, true), (42, true), (43, true)] mixed (by kernel_rfl) (by kernel_rfl) ?_ | refine sw_region_drawn [(0, true), (1, true), (2, true), (3, true), (4, true), (5, true), (6, true), (7, true), (8, true), (9, true), (10, true), (11, true), (12, true), (13, true), (14, true), (15, true), (16, true), (17, true), (18, true), (19, true), (20, true), (21, true), (22, true), (23, true), (24, true), (25, true), (26, true), (27, true), (28, true), (29, true), (30, true), (31, true), (32, true), (33, true), (34, true), (35, true), (36, true), (37, true), (38, true), (39, true), (40, true), (41, true), (42, true), (43, true)] mixed (by kernel_rfl) (by kernel_rfl) ?_
  refine dlo rfl (lop_move (E rfl)) rfl ?_
  first | refine dlo rfl (lop_peql (E rfl) (E rfl) (.inl ⟨rfl, rfl⟩)) rfl ?_ | refine dlo rfl (lop_peql (E rfl) (E rfl) (.inr (.inl ⟨⟨_, _, rfl⟩, rfl⟩))) rfl ?_ | refine dlo rfl (lop_peql (E rfl) (E rfl) (.inr (.inr ⟨⟨_, _, _, rfl⟩, rfl⟩))) rfl ?_
  refine dlo rfl (lop_move (E rfl)) rfl ?_
  first | refine dln rfl rfl rfl rfl rfl ?_ | refine dlg rfl rfl rfl (lop_field_ptr (E rfl) rfl (by decide)) rfl ?_
  first | refine dln rfl rfl rfl rfl rfl ?_ | refine dlg rfl rfl rfl (lop_load_ptr (W rfl id) rfl (by repeat (first | exact sget_here | refine sget_next (by (first | assumption | (apply Nq.en; assumption) | omega | (simp only [Nq] at *; omega))) ?_)) (fun _ => rfl)) rfl ?_
  first | refine dln rfl rfl rfl rfl rfl ?_ | refine dlg rfl rfl rfl (lop_lss (W rfl id) (E rfl)) rfl ?_
  first | refine dlo rfl (lop_pick_t (E rfl) (E rfl)) rfl ?_ | refine dlo rfl (lop_pick_f (E rfl) (W rfl (by simp))) rfl ?_ | refine dlo rfl (lop_pick (E rfl) (E rfl) (W rfl (by simp))) rfl ?_
  refine dlo rfl (lop_move (E rfl)) rfl ?_
  first | refine dln rfl rfl rfl rfl rfl ?_ | refine dlg rfl rfl rfl (lop_field_ptr (E rfl) rfl (by decide)) rfl ?_
  first | refine dln rfl rfl rfl rfl rfl ?_ | refine dlg rfl rfl rfl (lop_load_ptr (W rfl id) rfl (by repeat (first | exact sget_here | refine sget_next (by (first | assumption | (apply Nq.en; assumption) | omega | (simp only [Nq] at *; omega))) ?_)) (fun _ => rfl)) rfl ?_
  first | refine dln rfl rfl rfl rfl rfl ?_ | refine dlg rfl rfl rfl (lop_move (E rfl)) rfl ?_
  first | refine dln rfl rfl rfl rfl rfl ?_ | refine dlg rfl rfl rfl (lop_nilCheck (W rfl id) (.inl ⟨_, _, rfl⟩)) rfl ?_
  first | refine dln rfl rfl rfl rfl rfl ?_ | refine dlg rfl rfl rfl (lop_field_ptr (W rfl id) rfl (by decide)) rfl ?_
  first | refine dln rfl rfl rfl rfl rfl ?_ | refine dlg rfl rfl rfl (lop_load_ptr (W rfl id) rfl (by repeat (first | exact sget_here | refine sget_next (by (first | assumption | (apply Nq.en; assumption) | omega | (simp only [Nq] at *; omega))) ?_)) (fun _ => rfl)) rfl ?_
  first | refine dln rfl rfl rfl rfl rfl ?_ | refine dlg rfl rfl rfl (lop_len_map (W rfl id)) rfl ?_ | refine dlg rfl rfl rfl (lop_len_ro (W rfl id)) rfl ?_ | refine dlg rfl rfl rfl (lop_len_own (W rfl id)) rfl ?_
  first | refine dln rfl rfl rfl rfl rfl ?_ | refine dlg rfl rfl rfl (lop_gtr (W rfl id) (W rfl id)) rfl ?_
  first | refine dlo rfl (lop_pick_t (E rfl) (E rfl)) rfl ?_ | refine dlo rfl (lop_pick_f (E rfl) (W rfl (by simp))) rfl ?_ | refine dlo rfl (lop_pick (E rfl) (E rfl) (W rfl (by simp))) rfl ?_
  refine dlo rfl (lop_move (E rfl)) rfl ?_
  first | refine dln rfl rfl rfl rfl rfl ?_ | refine dlg rfl rfl rfl (lop_field_ptr (E rfl) rfl (by decide)) rfl ?_
  first | refine dln rfl rfl rfl rfl rfl ?_ | refine dlg rfl rfl rfl (lop_load_ptr (W rfl id) rfl (by repeat (first | exact sget_here | refine sget_next (by (first | assumption | (apply Nq.en; assumption) | omega | (simp only [Nq] at *; omega))) ?_)) (fun _ => rfl)) rfl ?_
  first | refine dln rfl rfl rfl rfl rfl ?_ | refine dlg rfl rfl rfl (lop_move (E rfl)) rfl ?_
  first | refine dln rfl rfl rfl rfl rfl ?_ | refine dlg rfl rfl rfl (lop_nilCheck (W rfl id) (.inl ⟨_, _, rfl⟩)) rfl ?_
  first | refine dln rfl rfl rfl rfl rfl ?_ | refine dlg rfl rfl rfl (lop_field_ptr (W rfl id) rfl (by decide)) rfl ?_
  first | refine dln rfl rfl rfl rfl rfl ?_ | refine dlg rfl rfl rfl (lop_load_ptr (W rfl id) rfl (by repeat (first | exact sget_here | refine sget_next (by (first | assumption | (apply Nq.en; assumption) | omega | (simp only [Nq] at *; omega))) ?_)) (fun _ => rfl)) rfl ?_
  first | refine dln rfl rfl rfl rfl rfl ?_ | refine dlg rfl rfl rfl (lop_lss (W rfl id) (W rfl id)) rfl ?_
  first | refine dlo rfl (lop_pick_t (E rfl) (E rfl)) rfl ?_ | refine dlo rfl (lop_pick_f (E rfl) (W rfl (by simp))) rfl ?_ | refine dlo rfl (lop_pick (E rfl) (E rfl) (W rfl (by simp))) rfl ?_
  refine dlo rfl (lop_move (E rfl)) rfl ?_
  first | refine dln rfl rfl rfl rfl rfl ?_ | refine dlg rfl rfl rfl (lop_field_ptr (E rfl) rfl (by decide)) rfl ?_
  first | refine dln rfl rfl rfl rfl rfl ?_ | refine dlg rfl rfl rfl (lop_load_ptr (W rfl id) rfl (by repeat (first | exact sget_here | refine sget_next (by (first | assumption | (apply Nq.en; assumption) | omega | (simp only [Nq] at *; omega))) ?_)) (fun _ => rfl)) rfl ?_
  first | refine dln rfl rfl rfl rfl rfl ?_ | refine dlg rfl rfl rfl (lop_move (E rfl)) rfl ?_
  first | refine dln rfl rfl rfl rfl rfl ?_ | refine dlg rfl rfl rfl (lop_nilCheck (W rfl id) (.inl ⟨_, _, rfl⟩)) rfl ?_
  first | refine dln rfl rfl rfl rfl rfl ?_ | refine dlg rfl rfl rfl (lop_field_ptr (W rfl id) rfl (by decide)) rfl ?_
  first | refine dln rfl rfl rfl rfl rfl ?_ | refine dlg rfl rfl rfl (lop_load_ptr (W rfl id) rfl (by repeat (first | exact sget_here | refine sget_next (by (first | assumption | (apply Nq.en; assumption) | omega | (simp only [Nq] at *; omega))) ?_)) (fun _ => rfl)) rfl ?_
  first | refine dln rfl rfl rfl rfl rfl ?_ | refine dlg rfl rfl rfl (lop_sub64 (W rfl id) (W rfl id) (by omega) (by omega)) rfl ?_ | refine dlg rfl rfl rfl (lop_sub64c (W rfl id) (W rfl id) (fun hc => by simp at hc <;> omega)) rfl ?_ | refine dlg rfl rfl rfl (lop_sub (W rfl id) (W rfl id)) rfl ?_
  first | refine dln rfl rfl rfl rfl rfl ?_ | refine dlg rfl rfl rfl (lop_move (E rfl)) rfl ?_
  first | refine dln rfl rfl rfl rfl rfl ?_ | refine dlg rfl rfl rfl (lop_nilCheck (W rfl id) (.inl ⟨_, _, rfl⟩)) rfl ?_
  first | refine dln rfl rfl rfl rfl rfl ?_ | refine dlg rfl rfl rfl (lop_field_ptr (W rfl id) rfl (by decide)) rfl ?_
  first | refine dln rfl rfl rfl rfl rfl ?_ | refine dlg rfl rfl rfl (lop_load_ptr (W rfl id) rfl (by repeat (first | exact sget_here | refine sget_next (by (first | assumption | (apply Nq.en; assumption) | omega | (simp only [Nq] at *; omega))) ?_)) (fun _ => rfl)) rfl ?_
  first | refine dln rfl rfl rfl rfl rfl ?_ | refine dlg rfl rfl rfl (lop_len_map (W rfl id)) rfl ?_ | refine dlg rfl rfl rfl (lop_len_ro (W rfl id)) rfl ?_ | refine dlg rfl rfl rfl (lop_len_own (W rfl id)) rfl ?_
  first | refine dln rfl rfl rfl rfl rfl ?_ | refine dlg rfl rfl rfl (lop_field_ptr (E rfl) rfl (by decide)) rfl ?_
  first | refine dln rfl rfl rfl rfl rfl ?_ | refine dlg rfl rfl rfl (lop_load_ptr (W rfl id) rfl (by repeat (first | exact sget_here | refine sget_next (by (first | assumption | (apply Nq.en; assumption) | omega | (simp only [Nq] at *; omega))) ?_)) (fun _ => rfl)) rfl ?_
  first | refine dln rfl rfl rfl rfl rfl ?_ | refine dlg rfl rfl rfl (lop_sub64 (W rfl id) (W rfl id) (by omega) (by omega)) rfl ?_ | refine dlg rfl rfl rfl (lop_sub64c (W rfl id) (W rfl id) (fun hc => by simp at hc <;> omega)) rfl ?_ | refine dlg rfl rfl rfl (lop_sub (W rfl id) (W rfl id)) rfl ?_
  first | refine dln rfl rfl rfl rfl rfl ?_ | refine dlg rfl rfl rfl (lop_gtr (W rfl id) (W rfl id)) rfl ?_
  first | refine dlo rfl (lop_pick_t (E rfl) (E rfl)) rfl ?_ | refine dlo rfl (lop_pick_f (E rfl) (W rfl (by simp))) rfl ?_ | refine dlo rfl (lop_pick (E rfl) (E rfl) (W rfl (by simp))) rfl ?_
  apply de; (repeat (first | (apply KeepIs.take; rfl) | (apply KeepIs.skip; rfl) | exact KeepIs.nil))
  (repeat (first | refine cs ?_ | refine cb ?_ | refine ck ?_ | refine cx ?_ | refine cr ?_ | refine an ?_ | refine ae ?_ | refine ar ?_ | refine bn ?_ | refine bh ?_ | refine be rfl ?_ | refine br ?_ | refine ct rfl ?_ | refine cf rfl ?_))
  first | refine sw_seq_region ?_ | refine sw_region ?_
  refine lo (lop_assign (E rfl)) rfl ?_
  apply le; (repeat (first | (apply KeepIs.take; rfl) | (apply KeepIs.skip; rfl) | exact KeepIs.nil))
  (repeat (first | refine cs ?_ | refine cb ?_ | refine ck ?_ | refine cx ?_ | refine cr ?_ | refine an ?_ | refine ae ?_ | refine ar ?_ | refine bn ?_ | refine bh ?_ | refine be rfl ?_ | refine br ?_ | refine ct rfl ?_ | refine cf rfl ?_))
  (apply aend; (repeat (first | exact ResL.nil | (apply ResL.tmp; rfl) | (apply ResL.cell; rfl; infer_instance; rfl; (repeat (first | exact sget_here | (apply sget_next; (first | assumption | (apply Nq.en; assumption) | omega | (simp only [Nq] at *; omega))))); rfl) | (apply ResL.cells; rfl; infer_instance; infer_instance; rfl; (repeat (first | exact sget_here | (apply sget_next; (first | assumption | (apply Nq.en; assumption) | omega | (simp only [Nq] at *; omega))))); exact Nat.le_of_ble_eq_true rfl))))
  · exact ⟨rfl, rfl⟩
  · (first | exact no_mem | (apply StLe.mem; (repeat (first | exact StLe.nil | (apply StLe.cons; (repeat (first | exact List.mem_cons_self | apply List.mem_cons_of_mem)); first | rfl | focus (congr 1; done) | focus (simp; done) | (simp; rfl))))))

def fillR (fr : List Bool) (o k : Nat) (v : Bool) : List Bool := fr.take o ++ List.replicate k v ++ fr.drop (o + k)
theorem fillR_len {fr : List Bool} {o k : Nat} {v : Bool} (h : o + k ≤ fr.length) : (fillR fr o k v).length = fr.length := by simp [fillR]; omega
theorem fillR_step {fr : List Bool} {o k : Nat} {v : Bool} (h : o + k < fr.length) : (fillR fr o k v).set (o + k) v = fillR fr o (k + 1) v := by
  unfold fillR
  have e : (fr.take o ++ List.replicate k v).length = o + k := by simp; omega
  rw [List.set_append_right _ _ (by omega), e, Nat.sub_self, ← List.getElem_cons_drop h, List.set_cons_zero, List.replicate_succ' (n := k)]
  simp [Nat.add_assoc]
theorem set_encB {l : List Bool} {i : Nat} {x : Bool} : (l.map encB).set i [.bool x] = (l.set i x).map encB := by rw [List.map_set]; rfl
def setF (at_ : Int) (fr : List Bool) (a l : Int) (v : Bool) : List Bool := if allB at_ fr a l (!v) then fillR fr (a - at_).toNat l.toNat v else fr
theorem allB_bd {at_ : Int} {fr : List Bool} {a l : Int} {v : Bool} (h : allB at_ fr a l v = true) : 1 ≤ l ∧ l ≤ fr.length ∧ at_ ≤ a ∧ a - at_ ≤ fr.length - l := by
  simp [allB] at h
  omega
theorem setF_len (at_ : Int) (fr : List Bool) (a l : Int) (v : Bool) : (setF at_ fr a l v).length = fr.length := by
  unfold setF
  split
  · next h => have := allB_bd h; exact fillR_len (by omega)
  · rfl
set_option maxRecDepth 100000 in
theorem extent_set (h1 : Nq q s) (at_ : Int) (fr : List Bool) (h0 : 0 ≤ at_) (hf : fr.length ≤ 100000) (a l : Int) (ha : a ≤ 9223372036854775807) (hl : l ≤ 9223372036854775807) (v : Bool) : SCall Try.prog 36 [.ptr s 0, .agg [.int .i64 a, .int .i64 l], .bool v]
    [(s, .box 83 [.int .i64 at_, .own q 0 fr.length]), (q, .arr 4 1 (fr.map encB))]
    (fun x σ => x = .bool (allB at_ fr a l (!v)) ∧ σ = [(s, .box 83 [.int .i64 at_, .own q 0 (setF at_ fr a l v).length]), (q, .arr 4 1 ((setF at_ fr a l v).map encB))]) := by
  refine scall_of (n := 35) (ks := [0, 1, 2, 4, 6, 7, 13, 15, 16, 17]) Try.func36 rfl rfl (Nat.le_of_ble_eq_true rfl) ?_
  (repeat (first | refine cs ?_ | refine cb ?_ | refine ck ?_ | refine cx ?_ | refine cr ?_ | refine an ?_ | refine ae ?_ | refine ar ?_ | refine bn ?_ | refine bh ?_ | refine be rfl ?_ | refine br ?_ | refine ct rfl ?_ | refine cf rfl ?_))
  first | refine sw_seq_region ?_ | refine sw_region ?_
  apply bx; rfl; rfl; (first | (simp only [Value.cells, AV.cells, List.map_cons, List.map_nil, ofConst, ofCell]; rfl) | rfl); rfl; intro r4 h4; simp only [fresh_cons, fresh_nil, and_true] at h4; (repeat (rcases h4 with ⟨_, h4⟩))
  refine lo (lop_assign (E rfl)) rfl ?_
  apply le; (repeat (first | (apply KeepIs.take; rfl) | (apply KeepIs.skip; rfl) | exact KeepIs.nil))
  (repeat (first | refine cs ?_ | refine cb ?_ | refine ck ?_ | refine cx ?_ | refine cr ?_ | refine an ?_ | refine ae ?_ | refine ar ?_ | refine bn ?_ | refine bh ?_ | refine be rfl ?_ | refine br ?_ | refine ct rfl ?_ | refine cf rfl ?_))
  first | refine sw_seq_region ?_ | refine sw_region ?_
  refine lo (lop_move (E rfl)) rfl ?_
  refine lo (lop_load_ptr_agg (E rfl) rfl (by repeat (first | exact sget_here | refine sget_next (by (first | assumption | (apply Nq.en; assumption) | omega | (simp only [Nq] at *; omega))) ?_)) (fun _ => Nat.le_of_ble_eq_true rfl)) rfl ?_
  refine lo (lop_move (E rfl)) rfl ?_
  refine lo (lop_not (E rfl)) rfl ?_
  refine cw [(s, .box 83 [.int .i64 at_, .own q 0 fr.length]), (q, .arr 4 1 (fr.map encB))] Try.call39 (extent_all h1 at_ fr h0 hf a l ha hl (!v)) rfl ?_ ?_ ?_
  · (repeat (first | exact ArgsLe.nil | (apply ArgsLe.cons; rfl; first | exact VLe.refl _ | exact VLe.when rfl | exact VLe.any | exact VLe.empty | exact VLe.of_eq (by simp))))
  · (first | exact no_mem | (apply StLe.mem; (repeat (first | exact StLe.nil | (apply StLe.cons; (repeat (first | exact List.mem_cons_self | apply List.mem_cons_of_mem)); first | rfl | focus (congr 1; done) | focus (simp; done) | (simp; rfl))))))
  rintro x σ' ⟨rfl, rfl⟩ -
  (apply rs_sto; (first | (simp (disch := (first | (simp only [List.mem_cons, List.not_mem_nil, true_or, or_true, or_false]; done) | (focus (simp only [List.mem_cons, List.not_mem_nil, or_false, not_or]; (repeat' (first | apply And.intro | (first | assumption | (apply Nq.en; assumption) | omega | (simp only [Nq] at *; omega)))); done)) | omega)) only [↓put_σ, ↓mk_σ, AV.cells, sset, sdrop_none, sdrop_nil, sdrop_in, sdrop_out, List.nil_append, List.cons_append, List.append_nil, List.map_nil, List.map_cons, List.take_succ_cons, List.take_zero, List.drop_succ_cons, List.drop_zero, take_len', take_map_len, Nat.zero_add, Nat.add_zero, ofCell, ofConst]; rfl) | rfl))
  refine lo (lop_not (E rfl)) rfl ?_
  apply le; (repeat (first | (apply KeepIs.take; rfl) | (apply KeepIs.skip; rfl) | exact KeepIs.nil))
  (repeat (first | refine cs ?_ | refine cb ?_ | refine ck ?_ | refine cx ?_ | refine cr ?_ | refine an ?_ | refine ae ?_ | refine ar ?_ | refine bn ?_ | refine bh ?_ | refine be rfl ?_ | refine br ?_ | refine ct rfl ?_ | refine cf rfl ?_))
  refine sw_cond rfl (fun h => ?_) (fun h => ?_)
  · (repeat (first | refine cs ?_ | refine cb ?_ | refine ck ?_ | refine cx ?_ | refine cr ?_ | refine an ?_ | refine ae ?_ | refine ar ?_ | refine bn ?_ | refine bh ?_ | refine be rfl ?_ | refine br ?_ | refine ct rfl ?_ | refine cf rfl ?_))
    first | refine sw_seq_region ?_ | refine sw_region ?_
    refine lo (lop_assign (E rfl)) rfl ?_
    apply le; (repeat (first | (apply KeepIs.take; rfl) | (apply KeepIs.skip; rfl) | exact KeepIs.nil))
    (repeat (first | refine cs ?_ | refine cb ?_ | refine ck ?_ | refine cx ?_ | refine cr ?_ | refine an ?_ | refine ae ?_ | refine ar ?_ | refine bn ?_ | refine bh ?_ | refine be rfl ?_ | refine br ?_ | refine ct rfl ?_ | refine cf rfl ?_))
    (apply aend; (repeat (first | exact ResL.nil | (apply ResL.tmp; rfl) | (apply ResL.cell; rfl; infer_instance; rfl; (repeat (first | exact sget_here | (apply sget_next; (first | assumption | (apply Nq.en; assumption) | omega | (simp only [Nq] at *; omega))))); rfl) | (apply ResL.cells; rfl; infer_instance; infer_instance; rfl; (repeat (first | exact sget_here | (apply sget_next; (first | assumption | (apply Nq.en; assumption) | omega | (simp only [Nq] at *; omega))))); exact Nat.le_of_ble_eq_true rfl))))
    · refine ⟨?_, rfl⟩
      have h' : allB at_ fr a l (!v) = false := by simpa using h
      simp [resAV, ofConst, h']
    · have h' : allB at_ fr a l (!v) = false := by simpa using h
      simp only [setF, h', Bool.false_eq_true, if_false]
      (first | exact no_mem | (apply StLe.mem; (repeat (first | exact StLe.nil | (apply StLe.cons; (repeat (first | exact List.mem_cons_self | apply List.mem_cons_of_mem)); first | rfl | focus (congr 1; done) | focus (simp; done) | (simp; rfl))))))
  have h' : allB at_ fr a l (!v) = true := by simpa using h
  have hb := allB_bd h'
  obtain ⟨L, rfl⟩ := Int.eq_ofNat_of_zero_le (show 0 ≤ l by omega)
  (repeat (first | refine cs ?_ | refine cb ?_ | refine ck ?_ | refine cx ?_ | refine cr ?_ | refine an ?_ | refine ae ?_ | refine ar ?_ | refine bn ?_ | refine bh ?_ | refine be rfl ?_ | refine br ?_ | refine ct rfl ?_ | refine cf rfl ?_))
  first | refine sw_seq_region ?_ | refine sw_region ?_
  refine lo (lop_field_ptr (E rfl) rfl (by decide)) rfl ?_
  refine lo (lop_load_ptr (E rfl) rfl (by repeat (first | exact sget_here | refine sget_next (by (first | assumption | (apply Nq.en; assumption) | omega | (simp only [Nq] at *; omega))) ?_)) (fun _ => rfl)) rfl ?_
  refine lo (lop_move (E rfl)) rfl ?_
  apply le; (repeat (first | (apply KeepIs.take; rfl) | (apply KeepIs.skip; rfl) | exact KeepIs.nil))
  (repeat (first | refine cs ?_ | refine cb ?_ | refine ck ?_ | refine cx ?_ | refine cr ?_ | refine an ?_ | refine ae ?_ | refine ar ?_ | refine bn ?_ | refine bh ?_ | refine be rfl ?_ | refine br ?_ | refine ct rfl ?_ | refine cf rfl ?_))
  refine lp (β := Nat) (fun k => ⟨[(0, .ptr s 0), (2, .bool v), (4, .ptr r4 0), (15, .int .i64 L), (16, .int .i64 k)], [(r4, .box 65 [.int .i64 a, .int .i64 L]), (s, .box 83 [.int .i64 at_, .own q 0 fr.length]), (q, .arr 4 1 ((fillR fr (a - at_).toNat k v).map encB))]⟩) (fun k => k ≤ L) (fun k => L - k) 0 ?_ (Nat.zero_le _) ?_
  · rw [show fr.map encB = (fillR fr (a - at_).toNat 0 v).map encB by simp [fillR]]
    (refine sgo_st ?_ ?_ <;> (repeat (first | exact FrLe.nil | (apply FrLe.cons; rfl; first | exact VLe.refl _ | exact VLe.any | exact VLe.empty | exact VLe.of_eq (by simp) | exact VLe.of_eq (by congr 1; omega)) | exact StLe.nil | (apply StLe.cons; (repeat (first | exact List.mem_cons_self | apply List.mem_cons_of_mem)); first | rfl | focus (congr 1; done) | focus (simp; done) | (simp; rfl)))))
  rintro k hk
  (repeat (first | refine cs ?_ | refine cb ?_ | refine ck ?_ | refine cx ?_ | refine cr ?_ | refine an ?_ | refine ae ?_ | refine ar ?_ | refine bn ?_ | refine bh ?_ | refine be rfl ?_ | refine br ?_ | refine ct rfl ?_ | refine cf rfl ?_))
  first | refine sw_seq_region ?_ | refine sw_region ?_
  refine lo (lop_lss (E rfl) (E rfl)) rfl ?_
  apply le; (repeat (first | (apply KeepIs.take; rfl) | (apply KeepIs.skip; rfl) | exact KeepIs.nil))
  (repeat (first | refine cs ?_ | refine cb ?_ | refine ck ?_ | refine cx ?_ | refine cr ?_ | refine an ?_ | refine ae ?_ | refine ar ?_ | refine bn ?_ | refine bh ?_ | refine be rfl ?_ | refine br ?_ | refine ct rfl ?_ | refine cf rfl ?_))
  refine sw_cond rfl (fun h2 => ?_) (fun h2 => ?_)
  · have hlt : k < L := by simp at h2; omega
    have hln := fillR_len (fr := fr) (o := (a - at_).toNat) (k := k) (v := v) (by omega)
    obtain ⟨z, hz⟩ : ∃ z, (fillR fr (a - at_).toNat k v)[(a - at_ + k).toNat]? = some z := ⟨_, List.getElem?_eq_getElem (by omega)⟩
    (repeat (first | refine cs ?_ | refine cb ?_ | refine ck ?_ | refine cx ?_ | refine cr ?_ | refine an ?_ | refine ae ?_ | refine ar ?_ | refine bn ?_ | refine bh ?_ | refine be rfl ?_ | refine br ?_ | refine ct rfl ?_ | refine cf rfl ?_))
    first | refine sw_seq_region ?_ | refine sw_region ?_
    refine lo (lop_move (E rfl)) rfl ?_
    refine lo (lop_assign (E rfl)) rfl ?_
    apply le; (repeat (first | (apply KeepIs.take; rfl) | (apply KeepIs.skip; rfl) | exact KeepIs.nil))
    (repeat (first | refine cs ?_ | refine cb ?_ | refine ck ?_ | refine cx ?_ | refine cr ?_ | refine an ?_ | refine ae ?_ | refine ar ?_ | refine bn ?_ | refine bh ?_ | refine be rfl ?_ | refine br ?_ | refine ct rfl ?_ | refine cf rfl ?_))
    first | refine sw_seq_drawn [(0, true), (1, true), (2, true), (3, true), (4, true), (5, true), (6, true), (7, true), (8, true), (9, true), (10, true), (11, true), (12, true), (13, true), (14, true), (15, false)] mixed (by kernel_rfl) (by kernel_rfl) ?_ | refine sw_region_drawn [(0, true), (1, true), (2, true), (3, true), (4, true), (5, true), (6, true), (7, true), (8, true), (9, true), (10, true), (11, true), (12, true), (13, true), (14, true), (15, false)] mixed (by kernel_rfl) (by kernel_rfl) ?_
    refine dlo rfl (lop_move (E rfl)) rfl ?_
    refine dlo rfl (lop_nilCheck (E rfl) (.inl ⟨_, _, rfl⟩)) rfl ?_
    refine dlo rfl (lop_field_ptr (E rfl) rfl (by decide)) rfl ?_
    refine dlo rfl (lop_load_ptr (E rfl) rfl (by repeat (first | exact sget_here | refine sget_next (by (first | assumption | (apply Nq.en; assumption) | omega | (simp only [Nq] at *; omega))) ?_)) (fun _ => rfl)) rfl ?_
    refine dlo rfl (lop_field_ptr (E rfl) rfl (by decide)) rfl ?_
    refine dlo rfl (lop_load_ptr (E rfl) rfl (by repeat (first | exact sget_here | refine sget_next (by (first | assumption | (apply Nq.en; assumption) | omega | (simp only [Nq] at *; omega))) ?_)) (fun _ => rfl)) rfl ?_
    refine dlo rfl (lop_move (E rfl)) rfl ?_
    refine dlo rfl (lop_nilCheck (E rfl) (.inl ⟨_, _, rfl⟩)) rfl ?_
    refine dlo rfl (lop_field_ptr (E rfl) rfl (by decide)) rfl ?_
    refine dlo rfl (lop_load_ptr (E rfl) rfl (by repeat (first | exact sget_here | refine sget_next (by (first | assumption | (apply Nq.en; assumption) | omega | (simp only [Nq] at *; omega))) ?_)) (fun _ => rfl)) rfl ?_
    first | refine dlo rfl (lop_sub64 (E rfl) (E rfl) (by omega) (by omega)) rfl ?_ | refine dlo rfl (lop_sub (E rfl) (E rfl)) rfl ?_
    refine dlo rfl (lop_move (E rfl)) rfl ?_
    first | refine dlo rfl (lop_add64 (E rfl) (E rfl) (by omega) (by omega)) rfl ?_ | refine dlo rfl (lop_add (E rfl) (E rfl)) rfl ?_
    refine dlo rfl (lop_move (E rfl)) rfl ?_
    first | refine dlo rfl (lop_index_ro (E rfl) (E rfl) (fun hc => by (simp only [List.length_map]; omega))) rfl ?_ | refine dlo rfl (lop_index_own0 (E rfl) (by repeat (first | exact sget_here | refine sget_next (by (first | assumption | (apply Nq.en; assumption) | omega | (simp only [Nq] at *; omega))) ?_)) (E rfl) (fun hc => by omega)) rfl ?_ | refine dlo rfl (lop_index_own (E rfl) (by repeat (first | exact sget_here | refine sget_next (by (first | assumption | (apply Nq.en; assumption) | omega | (simp only [Nq] at *; omega))) ?_)) (E rfl) (fun hc => by omega)) rfl ?_
    apply dsto; rfl; infer_instance; rfl; rfl; rfl; rfl; (repeat (first | (apply SSet.here; (repeat (first | exact Fresh.nil | (apply Fresh.cons; (first | assumption | (apply Nq.en; assumption) | omega | (simp only [Nq] at *; omega)))))) | (apply SSet.next; (first | assumption | (apply Nq.en; assumption) | omega | (simp only [Nq] at *; omega))))); (first | rfl | exact get_map (by assumption) | assumption); (repeat (first | exact Put.done | apply Put.put | apply Put.skip)); rfl; (repeat (first | exact HB.nil | apply HB.none | (apply HB.ok; focus (simp only [List.mem_cons, List.not_mem_nil, or_false, List.map_cons, List.map_nil, forall_eq_or_imp, forall_eq, true_or, or_true, true_and, not_or]; (repeat' (first | apply And.intro | (first | assumption | (apply Nq.en; assumption) | omega | (simp only [Nq] at *; omega)))); done)) | (apply HB.waits; kernel_rfl)))
    apply de; (repeat (first | (apply KeepIs.take; rfl) | (apply KeepIs.skip; rfl) | exact KeepIs.nil))
    (repeat (first | refine cs ?_ | refine cb ?_ | refine ck ?_ | refine cx ?_ | refine cr ?_ | refine an ?_ | refine ae ?_ | refine ar ?_ | refine bn ?_ | refine bh ?_ | refine be rfl ?_ | refine br ?_ | refine ct rfl ?_ | refine cf rfl ?_))
    first | refine sw_seq_region ?_ | refine sw_region ?_
    first | refine lo (lop_add64 (E rfl) (E rfl) (by omega) (by omega)) rfl ?_ | refine lo (lop_add (E rfl) (E rfl)) rfl ?_
    refine lo (lop_move (E rfl)) rfl ?_
    apply le; (repeat (first | (apply KeepIs.take; rfl) | (apply KeepIs.skip; rfl) | exact KeepIs.nil))
    (repeat (first | refine cs ?_ | refine cb ?_ | refine ck ?_ | refine cx ?_ | refine cr ?_ | refine an ?_ | refine ae ?_ | refine ar ?_ | refine bn ?_ | refine bh ?_ | refine be rfl ?_ | refine br ?_ | refine ct rfl ?_ | refine cf rfl ?_))
    refine ⟨k + 1, hlt, by show L - (k + 1) < L - k; omega, ?_⟩
    rw [show (a - at_ + (k : Int)).toNat = (a - at_).toNat + k by omega, set_encB, fillR_step (by omega)]
    (refine sgo_st ?_ ?_ <;> (repeat (first | exact FrLe.nil | (apply FrLe.cons; rfl; first | exact VLe.refl _ | exact VLe.any | exact VLe.empty | exact VLe.of_eq (by simp) | exact VLe.of_eq (by congr 1; omega)) | exact StLe.nil | (apply StLe.cons; (repeat (first | exact List.mem_cons_self | apply List.mem_cons_of_mem)); first | rfl | focus (congr 1; done) | focus (simp; done) | (simp; rfl)))))
  obtain rfl : k = L := by simp at h2; omega
  (repeat (first | refine cs ?_ | refine cb ?_ | refine ck ?_ | refine cx ?_ | refine cr ?_ | refine an ?_ | refine ae ?_ | refine ar ?_ | refine bn ?_ | refine bh ?_ | refine be rfl ?_ | refine br ?_ | refine ct rfl ?_ | refine cf rfl ?_))
  first | refine sw_seq_region ?_ | refine sw_region ?_
  refine lo (lop_assign (E rfl)) rfl ?_
  apply le; (repeat (first | (apply KeepIs.take; rfl) | (apply KeepIs.skip; rfl) | exact KeepIs.nil))
  (repeat (first | refine cs ?_ | refine cb ?_ | refine ck ?_ | refine cx ?_ | refine cr ?_ | refine an ?_ | refine ae ?_ | refine ar ?_ | refine bn ?_ | refine bh ?_ | refine be rfl ?_ | refine br ?_ | refine ct rfl ?_ | refine cf rfl ?_))
  (apply aend; (repeat (first | exact ResL.nil | (apply ResL.tmp; rfl) | (apply ResL.cell; rfl; infer_instance; rfl; (repeat (first | exact sget_here | (apply sget_next; (first | assumption | (apply Nq.en; assumption) | omega | (simp only [Nq] at *; omega))))); rfl) | (apply ResL.cells; rfl; infer_instance; infer_instance; rfl; (repeat (first | exact sget_here | (apply sget_next; (first | assumption | (apply Nq.en; assumption) | omega | (simp only [Nq] at *; omega))))); exact Nat.le_of_ble_eq_true rfl))))
  · refine ⟨?_, rfl⟩
    simp [resAV, ofConst, h']
  · rw [setF_len]
    simp only [setF, h', if_true, Int.toNat_natCast]
    (first | exact no_mem | (apply StLe.mem; (repeat (first | exact StLe.nil | (apply StLe.cons; (repeat (first | exact List.mem_cons_self | apply List.mem_cons_of_mem)); first | rfl | focus (congr 1; done) | focus (simp; done) | (simp; rfl))))))
set_option maxRecDepth 100000 in
theorem nil_set (a l : Int) (v : Bool) : SCall Try.prog 36 [.nilp, .agg [.int .i64 a, .int .i64 l], .bool v] [] (fun x σ => x = .bool false ∧ σ = []) := by
  refine scall_of (n := 35) (ks := [0, 1, 2, 4, 6, 7, 13, 15, 16, 17]) Try.func36 rfl rfl (Nat.le_of_ble_eq_true rfl) ?_
  (repeat (first | refine cs ?_ | refine cb ?_ | refine ck ?_ | refine cx ?_ | refine cr ?_ | refine an ?_ | refine ae ?_ | refine ar ?_ | refine bn ?_ | refine bh ?_ | refine be rfl ?_ | refine br ?_ | refine ct rfl ?_ | refine cf rfl ?_))
  first | refine sw_seq_region ?_ | refine sw_region ?_
  apply bx; rfl; rfl; (first | (simp only [Value.cells, AV.cells, List.map_cons, List.map_nil, ofConst, ofCell]; rfl) | rfl); rfl; intro r4 h4; simp only [fresh_cons, fresh_nil, and_true] at h4; (repeat (rcases h4 with ⟨_, h4⟩))
  refine lo (lop_assign (E rfl)) rfl ?_
  apply le; (repeat (first | (apply KeepIs.take; rfl) | (apply KeepIs.skip; rfl) | exact KeepIs.nil))
  (repeat (first | refine cs ?_ | refine cb ?_ | refine ck ?_ | refine cx ?_ | refine cr ?_ | refine an ?_ | refine ae ?_ | refine ar ?_ | refine bn ?_ | refine bh ?_ | refine be rfl ?_ | refine br ?_ | refine ct rfl ?_ | refine cf rfl ?_))
  first | refine sw_seq_region ?_ | refine sw_region ?_
  refine lo (lop_move (E rfl)) rfl ?_
  refine lo (lop_load_ptr_agg (E rfl) rfl (by repeat (first | exact sget_here | refine sget_next (by (first | assumption | (apply Nq.en; assumption) | omega | (simp only [Nq] at *; omega))) ?_)) (fun _ => Nat.le_of_ble_eq_true rfl)) rfl ?_
  refine lo (lop_move (E rfl)) rfl ?_
  refine lo (lop_not (E rfl)) rfl ?_
  (first | refine pu [] Try.call39 (nil_all a l (!v)) rfl (by repeat (first | exact ArgsIf.nil | refine ArgsIf.cons (by first | exact Ev.when rfl (by first | exact id | simp) | exact Ev.here rfl) (by first | exact Bor.refl _ | exact Bor.le VLe.any | exact Bor.le VLe.empty | exact Bor.own (by simp) (by repeat (first | exact sget_here | refine sget_next (by (first | assumption | (apply Nq.en; assumption) | omega | (simp only [Nq] at *; omega))) ?_)) (by simp) | exact Bor.le (VLe.of_eq (by simp))) ?_)) (by repeat (first | exact NoF.int | exact NoF.bool | exact NoF.nilp | exact NoF.nil | exact NoF.own | exact NoF.ptr | exact NoF.str | exact nofl_nil | apply NoF.tup | apply NoF.agg | apply nofl_cons)) ?_ | refine pug [] rfl rfl Try.call39 (fun _ => (nil_all a l (!v))) rfl (by repeat (first | exact ArgsIf.nil | refine ArgsIf.cons (by first | exact Ev.when rfl (by first | exact id | simp) | exact Ev.here rfl) (by first | exact Bor.refl _ | exact Bor.le VLe.any | exact Bor.le VLe.empty | exact Bor.own (by simp) (by repeat (first | exact sget_here | refine sget_next (by (first | assumption | (apply Nq.en; assumption) | omega | (simp only [Nq] at *; omega))) ?_)) (by simp) | exact Bor.le (VLe.of_eq (by simp))) ?_)) (by repeat (first | exact NoF.int | exact NoF.bool | exact NoF.nilp | exact NoF.nil | exact NoF.own | exact NoF.ptr | exact NoF.str | exact nofl_nil | apply NoF.tup | apply NoF.agg | apply nofl_cons)) ?_)
  refine lo (lop_not (E rfl)) rfl ?_
  apply le; (repeat (first | (apply KeepIs.take; rfl) | (apply KeepIs.skip; rfl) | exact KeepIs.nil))
  (repeat (first | refine cs ?_ | refine cb ?_ | refine ck ?_ | refine cx ?_ | refine cr ?_ | refine an ?_ | refine ae ?_ | refine ar ?_ | refine bn ?_ | refine bh ?_ | refine be rfl ?_ | refine br ?_ | refine ct rfl ?_ | refine cf rfl ?_))
  first | refine sw_seq_region ?_ | refine sw_region ?_
  refine lo (lop_assign (E rfl)) rfl ?_
  apply le; (repeat (first | (apply KeepIs.take; rfl) | (apply KeepIs.skip; rfl) | exact KeepIs.nil))
  (repeat (first | refine cs ?_ | refine cb ?_ | refine ck ?_ | refine cx ?_ | refine cr ?_ | refine an ?_ | refine ae ?_ | refine ar ?_ | refine bn ?_ | refine bh ?_ | refine be rfl ?_ | refine br ?_ | refine ct rfl ?_ | refine cf rfl ?_))
  (apply aend; (repeat (first | exact ResL.nil | (apply ResL.tmp; rfl) | (apply ResL.cell; rfl; infer_instance; rfl; (repeat (first | exact sget_here | (apply sget_next; (first | assumption | (apply Nq.en; assumption) | omega | (simp only [Nq] at *; omega))))); rfl) | (apply ResL.cells; rfl; infer_instance; infer_instance; rfl; (repeat (first | exact sget_here | (apply sget_next; (first | assumption | (apply Nq.en; assumption) | omega | (simp only [Nq] at *; omega))))); exact Nat.le_of_ble_eq_true rfl))))
  · exact ⟨rfl, rfl⟩
  · (first | exact no_mem | (apply StLe.mem; (repeat (first | exact StLe.nil | (apply StLe.cons; (repeat (first | exact List.mem_cons_self | apply List.mem_cons_of_mem)); first | rfl | focus (congr 1; done) | focus (simp; done) | (simp; rfl))))))
set_option maxRecDepth 100000 in
theorem extent_Use (h1 : Nq q s) (at_ : Int) (fr : List Bool) (h0 : 0 ≤ at_) (hf : fr.length ≤ 100000) (a l : Int) (ha : a ≤ 9223372036854775807) (hl : l ≤ 9223372036854775807) : SCall Try.prog 26 [.ptr s 0, .agg [.int .i64 a, .int .i64 l]]
    [(s, .box 83 [.int .i64 at_, .own q 0 fr.length]), (q, .arr 4 1 (fr.map encB))]
    (fun x σ => x = .bool (allB at_ fr a l true) ∧ σ = [(s, .box 83 [.int .i64 at_, .own q 0 (setF at_ fr a l false).length]), (q, .arr 4 1 ((setF at_ fr a l false).map encB))]) := by
  refine scall_of (n := 8) (ks := [0, 1, 3, 4]) Try.func26 rfl rfl (Nat.le_of_ble_eq_true rfl) ?_
  (repeat (first | refine cs ?_ | refine cb ?_ | refine ck ?_ | refine cx ?_ | refine cr ?_ | refine an ?_ | refine ae ?_ | refine ar ?_ | refine bn ?_ | refine bh ?_ | refine be rfl ?_ | refine br ?_ | refine ct rfl ?_ | refine cf rfl ?_))
  first | refine sw_seq_region ?_ | refine sw_region ?_
  apply bx; rfl; rfl; (first | (simp only [Value.cells, AV.cells, List.map_cons, List.map_nil, ofConst, ofCell]; rfl) | rfl); rfl; intro r3 h3; simp only [fresh_cons, fresh_nil, and_true] at h3; (repeat (rcases h3 with ⟨_, h3⟩))
  refine lo (lop_assign (E rfl)) rfl ?_
  apply le; (repeat (first | (apply KeepIs.take; rfl) | (apply KeepIs.skip; rfl) | exact KeepIs.nil))
  (repeat (first | refine cs ?_ | refine cb ?_ | refine ck ?_ | refine cx ?_ | refine cr ?_ | refine an ?_ | refine ae ?_ | refine ar ?_ | refine bn ?_ | refine bh ?_ | refine be rfl ?_ | refine br ?_ | refine ct rfl ?_ | refine cf rfl ?_))
  first | refine sw_seq_region ?_ | refine sw_region ?_
  refine lo (lop_move (E rfl)) rfl ?_
  refine lo (lop_load_ptr_agg (E rfl) rfl (by repeat (first | exact sget_here | refine sget_next (by (first | assumption | (apply Nq.en; assumption) | omega | (simp only [Nq] at *; omega))) ?_)) (fun _ => Nat.le_of_ble_eq_true rfl)) rfl ?_
  refine cw [(s, .box 83 [.int .i64 at_, .own q 0 fr.length]), (q, .arr 4 1 (fr.map encB))] Try.call36 (extent_set h1 at_ fr h0 hf a l ha hl false) rfl ?_ ?_ ?_
  · (repeat (first | exact ArgsLe.nil | (apply ArgsLe.cons; rfl; first | exact VLe.refl _ | exact VLe.when rfl | exact VLe.any | exact VLe.empty | exact VLe.of_eq (by simp))))
  · (first | exact no_mem | (apply StLe.mem; (repeat (first | exact StLe.nil | (apply StLe.cons; (repeat (first | exact List.mem_cons_self | apply List.mem_cons_of_mem)); first | rfl | focus (congr 1; done) | focus (simp; done) | (simp; rfl))))))
  rintro x σ' ⟨rfl, rfl⟩ -
  (apply rs_sto; (first | (simp (disch := (first | (simp only [List.mem_cons, List.not_mem_nil, true_or, or_true, or_false]; done) | (focus (simp only [List.mem_cons, List.not_mem_nil, or_false, not_or]; (repeat' (first | apply And.intro | (first | assumption | (apply Nq.en; assumption) | omega | (simp only [Nq] at *; omega)))); done)) | omega)) only [↓put_σ, ↓mk_σ, AV.cells, sset, sdrop_none, sdrop_nil, sdrop_in, sdrop_out, List.nil_append, List.cons_append, List.append_nil, List.map_nil, List.map_cons, List.take_succ_cons, List.take_zero, List.drop_succ_cons, List.drop_zero, take_len', take_map_len, Nat.zero_add, Nat.add_zero, ofCell, ofConst]; rfl) | rfl))
  refine lo (lop_assign (E rfl)) rfl ?_
  apply le; (repeat (first | (apply KeepIs.take; rfl) | (apply KeepIs.skip; rfl) | exact KeepIs.nil))
  (repeat (first | refine cs ?_ | refine cb ?_ | refine ck ?_ | refine cx ?_ | refine cr ?_ | refine an ?_ | refine ae ?_ | refine ar ?_ | refine bn ?_ | refine bh ?_ | refine be rfl ?_ | refine br ?_ | refine ct rfl ?_ | refine cf rfl ?_))
  (apply aend; (repeat (first | exact ResL.nil | (apply ResL.tmp; rfl) | (apply ResL.cell; rfl; infer_instance; rfl; (repeat (first | exact sget_here | (apply sget_next; (first | assumption | (apply Nq.en; assumption) | omega | (simp only [Nq] at *; omega))))); rfl) | (apply ResL.cells; rfl; infer_instance; infer_instance; rfl; (repeat (first | exact sget_here | (apply sget_next; (first | assumption | (apply Nq.en; assumption) | omega | (simp only [Nq] at *; omega))))); exact Nat.le_of_ble_eq_true rfl))))
  · exact ⟨rfl, rfl⟩
  · (first | exact no_mem | (apply StLe.mem; (repeat (first | exact StLe.nil | (apply StLe.cons; (repeat (first | exact List.mem_cons_self | apply List.mem_cons_of_mem)); first | rfl | focus (congr 1; done) | focus (simp; done) | (simp; rfl))))))
set_option maxRecDepth 100000 in
theorem nil_Use (a l : Int) : SCall Try.prog 26 [.nilp, .agg [.int .i64 a, .int .i64 l]] [] (fun x σ => x = .bool false ∧ σ = []) := by
  refine scall_of (n := 8) (ks := [0, 1, 3, 4]) Try.func26 rfl rfl (Nat.le_of_ble_eq_true rfl) ?_
  (repeat (first | refine cs ?_ | refine cb ?_ | refine ck ?_ | refine cx ?_ | refine cr ?_ | refine an ?_ | refine ae ?_ | refine ar ?_ | refine bn ?_ | refine bh ?_ | refine be rfl ?_ | refine br ?_ | refine ct rfl ?_ | refine cf rfl ?_))
  first | refine sw_seq_region ?_ | refine sw_region ?_
  apply bx; rfl; rfl; (first | (simp only [Value.cells, AV.cells, List.map_cons, List.map_nil, ofConst, ofCell]; rfl) | rfl); rfl; intro r3 h3; simp only [fresh_cons, fresh_nil, and_true] at h3; (repeat (rcases h3 with ⟨_, h3⟩))
  refine lo (lop_assign (E rfl)) rfl ?_
  apply le; (repeat (first | (apply KeepIs.take; rfl) | (apply KeepIs.skip; rfl) | exact KeepIs.nil))
  (repeat (first | refine cs ?_ | refine cb ?_ | refine ck ?_ | refine cx ?_ | refine cr ?_ | refine an ?_ | refine ae ?_ | refine ar ?_ | refine bn ?_ | refine bh ?_ | refine be rfl ?_ | refine br ?_ | refine ct rfl ?_ | refine cf rfl ?_))
  first | refine sw_seq_region ?_ | refine sw_region ?_
  refine lo (lop_move (E rfl)) rfl ?_
  refine lo (lop_load_ptr_agg (E rfl) rfl (by repeat (first | exact sget_here | refine sget_next (by (first | assumption | (apply Nq.en; assumption) | omega | (simp only [Nq] at *; omega))) ?_)) (fun _ => Nat.le_of_ble_eq_true rfl)) rfl ?_
  (first | refine pu [] Try.call36 (nil_set a l false) rfl (by repeat (first | exact ArgsIf.nil | refine ArgsIf.cons (by first | exact Ev.when rfl (by first | exact id | simp) | exact Ev.here rfl) (by first | exact Bor.refl _ | exact Bor.le VLe.any | exact Bor.le VLe.empty | exact Bor.own (by simp) (by repeat (first | exact sget_here | refine sget_next (by (first | assumption | (apply Nq.en; assumption) | omega | (simp only [Nq] at *; omega))) ?_)) (by simp) | exact Bor.le (VLe.of_eq (by simp))) ?_)) (by repeat (first | exact NoF.int | exact NoF.bool | exact NoF.nilp | exact NoF.nil | exact NoF.own | exact NoF.ptr | exact NoF.str | exact nofl_nil | apply NoF.tup | apply NoF.agg | apply nofl_cons)) ?_ | refine pug [] rfl rfl Try.call36 (fun _ => (nil_set a l false)) rfl (by repeat (first | exact ArgsIf.nil | refine ArgsIf.cons (by first | exact Ev.when rfl (by first | exact id | simp) | exact Ev.here rfl) (by first | exact Bor.refl _ | exact Bor.le VLe.any | exact Bor.le VLe.empty | exact Bor.own (by simp) (by repeat (first | exact sget_here | refine sget_next (by (first | assumption | (apply Nq.en; assumption) | omega | (simp only [Nq] at *; omega))) ?_)) (by simp) | exact Bor.le (VLe.of_eq (by simp))) ?_)) (by repeat (first | exact NoF.int | exact NoF.bool | exact NoF.nilp | exact NoF.nil | exact NoF.own | exact NoF.ptr | exact NoF.str | exact nofl_nil | apply NoF.tup | apply NoF.agg | apply nofl_cons)) ?_)
  refine lo (lop_assign (E rfl)) rfl ?_
  apply le; (repeat (first | (apply KeepIs.take; rfl) | (apply KeepIs.skip; rfl) | exact KeepIs.nil))
  (repeat (first | refine cs ?_ | refine cb ?_ | refine ck ?_ | refine cx ?_ | refine cr ?_ | refine an ?_ | refine ae ?_ | refine ar ?_ | refine bn ?_ | refine bh ?_ | refine be rfl ?_ | refine br ?_ | refine ct rfl ?_ | refine cf rfl ?_))
  (apply aend; (repeat (first | exact ResL.nil | (apply ResL.tmp; rfl) | (apply ResL.cell; rfl; infer_instance; rfl; (repeat (first | exact sget_here | (apply sget_next; (first | assumption | (apply Nq.en; assumption) | omega | (simp only [Nq] at *; omega))))); rfl) | (apply ResL.cells; rfl; infer_instance; infer_instance; rfl; (repeat (first | exact sget_here | (apply sget_next; (first | assumption | (apply Nq.en; assumption) | omega | (simp only [Nq] at *; omega))))); exact Nat.le_of_ble_eq_true rfl))))
  · exact ⟨rfl, rfl⟩
  · (first | exact no_mem | (apply StLe.mem; (repeat (first | exact StLe.nil | (apply StLe.cons; (repeat (first | exact List.mem_cons_self | apply List.mem_cons_of_mem)); first | rfl | focus (congr 1; done) | focus (simp; done) | (simp; rfl))))))
set_option maxRecDepth 100000 in
theorem extent_Give (h1 : Nq q s) (at_ : Int) (fr : List Bool) (h0 : 0 ≤ at_) (hf : fr.length ≤ 100000) (a l : Int) (ha : a ≤ 9223372036854775807) (hl : l ≤ 9223372036854775807) : SCall Try.prog 27 [.ptr s 0, .agg [.int .i64 a, .int .i64 l]]
    [(s, .box 83 [.int .i64 at_, .own q 0 fr.length]), (q, .arr 4 1 (fr.map encB))]
    (fun x σ => x = .bool (allB at_ fr a l false) ∧ σ = [(s, .box 83 [.int .i64 at_, .own q 0 (setF at_ fr a l true).length]), (q, .arr 4 1 ((setF at_ fr a l true).map encB))]) := by
  refine scall_of (n := 8) (ks := [0, 1, 3, 4]) Try.func27 rfl rfl (Nat.le_of_ble_eq_true rfl) ?_
  (repeat (first | refine cs ?_ | refine cb ?_ | refine ck ?_ | refine cx ?_ | refine cr ?_ | refine an ?_ | refine ae ?_ | refine ar ?_ | refine bn ?_ | refine bh ?_ | refine be rfl ?_ | refine br ?_ | refine ct rfl ?_ | refine cf rfl ?_))
  first | refine sw_seq_region ?_ | refine sw_region ?_
  apply bx; rfl; rfl; (first | (simp only [Value.cells, AV.cells, List.map_cons, List.map_nil, ofConst, ofCell]; rfl) | rfl); rfl; intro r3 h3; simp only [fresh_cons, fresh_nil, and_true] at h3; (repeat (rcases h3 with ⟨_, h3⟩))
  refine lo (lop_assign (E rfl)) rfl ?_
  apply le; (repeat (first | (apply KeepIs.take; rfl) | (apply KeepIs.skip; rfl) | exact KeepIs.nil))
  (repeat (first | refine cs ?_ | refine cb ?_ | refine ck ?_ | refine cx ?_ | refine cr ?_ | refine an ?_ | refine ae ?_ | refine ar ?_ | refine bn ?_ | refine bh ?_ | refine be rfl ?_ | refine br ?_ | refine ct rfl ?_ | refine cf rfl ?_))
  first | refine sw_seq_region ?_ | refine sw_region ?_
  refine lo (lop_move (E rfl)) rfl ?_
  refine lo (lop_load_ptr_agg (E rfl) rfl (by repeat (first | exact sget_here | refine sget_next (by (first | assumption | (apply Nq.en; assumption) | omega | (simp only [Nq] at *; omega))) ?_)) (fun _ => Nat.le_of_ble_eq_true rfl)) rfl ?_
  refine cw [(s, .box 83 [.int .i64 at_, .own q 0 fr.length]), (q, .arr 4 1 (fr.map encB))] Try.call36 (extent_set h1 at_ fr h0 hf a l ha hl true) rfl ?_ ?_ ?_
  · (repeat (first | exact ArgsLe.nil | (apply ArgsLe.cons; rfl; first | exact VLe.refl _ | exact VLe.when rfl | exact VLe.any | exact VLe.empty | exact VLe.of_eq (by simp))))
  · (first | exact no_mem | (apply StLe.mem; (repeat (first | exact StLe.nil | (apply StLe.cons; (repeat (first | exact List.mem_cons_self | apply List.mem_cons_of_mem)); first | rfl | focus (congr 1; done) | focus (simp; done) | (simp; rfl))))))
  rintro x σ' ⟨rfl, rfl⟩ -
  (apply rs_sto; (first | (simp (disch := (first | (simp only [List.mem_cons, List.not_mem_nil, true_or, or_true, or_false]; done) | (focus (simp only [List.mem_cons, List.not_mem_nil, or_false, not_or]; (repeat' (first | apply And.intro | (first | assumption | (apply Nq.en; assumption) | omega | (simp only [Nq] at *; omega)))); done)) | omega)) only [↓put_σ, ↓mk_σ, AV.cells, sset, sdrop_none, sdrop_nil, sdrop_in, sdrop_out, List.nil_append, List.cons_append, List.append_nil, List.map_nil, List.map_cons, List.take_succ_cons, List.take_zero, List.drop_succ_cons, List.drop_zero, take_len', take_map_len, Nat.zero_add, Nat.add_zero, ofCell, ofConst]; rfl) | rfl))
  refine lo (lop_assign (E rfl)) rfl ?_
  apply le; (repeat (first | (apply KeepIs.take; rfl) | (apply KeepIs.skip; rfl) | exact KeepIs.nil))
  (repeat (first | refine cs ?_ | refine cb ?_ | refine ck ?_ | refine cx ?_ | refine cr ?_ | refine an ?_ | refine ae ?_ | refine ar ?_ | refine bn ?_ | refine bh ?_ | refine be rfl ?_ | refine br ?_ | refine ct rfl ?_ | refine cf rfl ?_))
  (apply aend; (repeat (first | exact ResL.nil | (apply ResL.tmp; rfl) | (apply ResL.cell; rfl; infer_instance; rfl; (repeat (first | exact sget_here | (apply sget_next; (first | assumption | (apply Nq.en; assumption) | omega | (simp only [Nq] at *; omega))))); rfl) | (apply ResL.cells; rfl; infer_instance; infer_instance; rfl; (repeat (first | exact sget_here | (apply sget_next; (first | assumption | (apply Nq.en; assumption) | omega | (simp only [Nq] at *; omega))))); exact Nat.le_of_ble_eq_true rfl))))
  · exact ⟨rfl, rfl⟩
  · (first | exact no_mem | (apply StLe.mem; (repeat (first | exact StLe.nil | (apply StLe.cons; (repeat (first | exact List.mem_cons_self | apply List.mem_cons_of_mem)); first | rfl | focus (congr 1; done) | focus (simp; done) | (simp; rfl))))))
set_option maxRecDepth 100000 in
theorem nil_Give (a l : Int) : SCall Try.prog 27 [.nilp, .agg [.int .i64 a, .int .i64 l]] [] (fun x σ => x = .bool false ∧ σ = []) := by
  refine scall_of (n := 8) (ks := [0, 1, 3, 4]) Try.func27 rfl rfl (Nat.le_of_ble_eq_true rfl) ?_
  (repeat (first | refine cs ?_ | refine cb ?_ | refine ck ?_ | refine cx ?_ | refine cr ?_ | refine an ?_ | refine ae ?_ | refine ar ?_ | refine bn ?_ | refine bh ?_ | refine be rfl ?_ | refine br ?_ | refine ct rfl ?_ | refine cf rfl ?_))
  first | refine sw_seq_region ?_ | refine sw_region ?_
  apply bx; rfl; rfl; (first | (simp only [Value.cells, AV.cells, List.map_cons, List.map_nil, ofConst, ofCell]; rfl) | rfl); rfl; intro r3 h3; simp only [fresh_cons, fresh_nil, and_true] at h3; (repeat (rcases h3 with ⟨_, h3⟩))
  refine lo (lop_assign (E rfl)) rfl ?_
  apply le; (repeat (first | (apply KeepIs.take; rfl) | (apply KeepIs.skip; rfl) | exact KeepIs.nil))
  (repeat (first | refine cs ?_ | refine cb ?_ | refine ck ?_ | refine cx ?_ | refine cr ?_ | refine an ?_ | refine ae ?_ | refine ar ?_ | refine bn ?_ | refine bh ?_ | refine be rfl ?_ | refine br ?_ | refine ct rfl ?_ | refine cf rfl ?_))
  first | refine sw_seq_region ?_ | refine sw_region ?_
  refine lo (lop_move (E rfl)) rfl ?_
  refine lo (lop_load_ptr_agg (E rfl) rfl (by repeat (first | exact sget_here | refine sget_next (by (first | assumption | (apply Nq.en; assumption) | omega | (simp only [Nq] at *; omega))) ?_)) (fun _ => Nat.le_of_ble_eq_true rfl)) rfl ?_
  (first | refine pu [] Try.call36 (nil_set a l true) rfl (by repeat (first | exact ArgsIf.nil | refine ArgsIf.cons (by first | exact Ev.when rfl (by first | exact id | simp) | exact Ev.here rfl) (by first | exact Bor.refl _ | exact Bor.le VLe.any | exact Bor.le VLe.empty | exact Bor.own (by simp) (by repeat (first | exact sget_here | refine sget_next (by (first | assumption | (apply Nq.en; assumption) | omega | (simp only [Nq] at *; omega))) ?_)) (by simp) | exact Bor.le (VLe.of_eq (by simp))) ?_)) (by repeat (first | exact NoF.int | exact NoF.bool | exact NoF.nilp | exact NoF.nil | exact NoF.own | exact NoF.ptr | exact NoF.str | exact nofl_nil | apply NoF.tup | apply NoF.agg | apply nofl_cons)) ?_ | refine pug [] rfl rfl Try.call36 (fun _ => (nil_set a l true)) rfl (by repeat (first | exact ArgsIf.nil | refine ArgsIf.cons (by first | exact Ev.when rfl (by first | exact id | simp) | exact Ev.here rfl) (by first | exact Bor.refl _ | exact Bor.le VLe.any | exact Bor.le VLe.empty | exact Bor.own (by simp) (by repeat (first | exact sget_here | refine sget_next (by (first | assumption | (apply Nq.en; assumption) | omega | (simp only [Nq] at *; omega))) ?_)) (by simp) | exact Bor.le (VLe.of_eq (by simp))) ?_)) (by repeat (first | exact NoF.int | exact NoF.bool | exact NoF.nilp | exact NoF.nil | exact NoF.own | exact NoF.ptr | exact NoF.str | exact nofl_nil | apply NoF.tup | apply NoF.agg | apply nofl_cons)) ?_)
  refine lo (lop_assign (E rfl)) rfl ?_
  apply le; (repeat (first | (apply KeepIs.take; rfl) | (apply KeepIs.skip; rfl) | exact KeepIs.nil))
  (repeat (first | refine cs ?_ | refine cb ?_ | refine ck ?_ | refine cx ?_ | refine cr ?_ | refine an ?_ | refine ae ?_ | refine ar ?_ | refine bn ?_ | refine bh ?_ | refine be rfl ?_ | refine br ?_ | refine ct rfl ?_ | refine cf rfl ?_))
  (apply aend; (repeat (first | exact ResL.nil | (apply ResL.tmp; rfl) | (apply ResL.cell; rfl; infer_instance; rfl; (repeat (first | exact sget_here | (apply sget_next; (first | assumption | (apply Nq.en; assumption) | omega | (simp only [Nq] at *; omega))))); rfl) | (apply ResL.cells; rfl; infer_instance; infer_instance; rfl; (repeat (first | exact sget_here | (apply sget_next; (first | assumption | (apply Nq.en; assumption) | omega | (simp only [Nq] at *; omega))))); exact Nat.le_of_ble_eq_true rfl))))
  · exact ⟨rfl, rfl⟩
  · (first | exact no_mem | (apply StLe.mem; (repeat (first | exact StLe.nil | (apply StLe.cons; (repeat (first | exact List.mem_cons_self | apply List.mem_cons_of_mem)); first | rfl | focus (congr 1; done) | focus (simp; done) | (simp; rfl))))))
end
end Go.Proofs.Ytpdgnenffiphcaa
