/-
  SpaceAll, walked.
-/
import Derived.Test.YtpdgnenffiphcaaSpaceH
import Derived.Test.YtpdgnenffiphcaaSpaceL
namespace Go.Proofs.Ytpdgnenffiphcaa
open Go.RowKit Go.ChangeShapes Go.WideShapes Go.ChangeAt Go.Deep
set_option linter.unusedSimpArgs false
set_option linter.unusedVariables false
attribute [local irreducible] SW RS RD AThen ABlock

abbrev SOp := Int × Int × List Int × (Int × Int)
def encO (o : SOp) : List AV := [.int .i64 o.1, .int .i64 o.2.1, .ro 1 (o.2.2.1.map encI) .any, .int .i64 o.2.2.2.1, .int .i64 o.2.2.2.2]
def gOf (v : Int × Int) : Bool × Int × Int := (false, v.1, v.2)
structure SB0 where
  i : Nat
  v : Nat
  g : Nat
  V : List (Int × Int)
theorem set_encV {l : List (Int × Int)} {i : Nat} {a b : Int} : (l.map encV).set i [.int .i64 a, .int .i64 b] = (l.set i (a, b)).map encV := by rw [List.map_set]; rfl
structure SB2 where
  j : Nat
  L : List (Int × Int)
structure SB1 where
  i : Nat
  Tb : List Int
  V : List (Int × Int)
theorem gOf_vals (V : List (Int × Int)) : (V.map gOf).map (fun q => encV q.2) = V.map encV := by rw [List.map_map]; rfl
set_option maxRecDepth 100000 in
set_option maxHeartbeats 8000000 in
theorem law_spaceAll (T : Int) (gs : List (Int × Int)) (ops : List SOp) (at_ : Int) : SCall Try.prog 3 [.int .i64 T, .ro 2 (gs.map encV) .any, .ro 5 (ops.map encO) .any, .int .i64 at_] [] (fun x _ => x = .bool true) := by
  refine scall_of (n := 355) (ks := [0, 1, 2, 3, 8, 9, 10, 11, 12, 13, 14, 15, 16, 17, 18, 19, 20, 21, 22, 23, 24, 25, 26, 27, 28, 30, 32, 35, 41, 54, 61, 82, 83, 84, 99, 108, 117, 155, 156, 205, 213, 214, 234, 238, 278]) Try.func3 rfl rfl (Nat.le_of_ble_eq_true rfl) ?_
  (repeat (first | refine cs ?_ | refine cb ?_ | refine ck ?_ | refine cx ?_ | refine cr ?_ | refine an ?_ | refine ae ?_ | refine ar ?_ | refine bn ?_ | refine bh ?_ | refine be rfl ?_ | refine br ?_ | refine ct rfl ?_ | refine cf rfl ?_))
  first | refine sw_seq_region ?_ | refine sw_region ?_
  refine lo (lop_assign (E rfl)) rfl ?_
  apply le; (repeat (first | (apply KeepIs.take; rfl) | (apply KeepIs.skip; rfl) | exact KeepIs.nil))
  (repeat (first | refine cs ?_ | refine cb ?_ | refine ck ?_ | refine cx ?_ | refine cr ?_ | refine an ?_ | refine ae ?_ | refine ar ?_ | refine bn ?_ | refine bh ?_ | refine be rfl ?_ | refine br ?_ | refine ct rfl ?_ | refine cf rfl ?_))
  first | refine sw_seq_region ?_ | refine sw_region ?_
  (first | refine pu [] Try.call12 law_begun11 rfl (by repeat (first | exact ArgsIf.nil | refine ArgsIf.cons (by first | exact Ev.when rfl (by first | exact id | simp) | exact Ev.here rfl) (by first | exact Bor.refl _ | exact Bor.le VLe.any | exact Bor.le VLe.empty | exact Bor.own (by simp) (by repeat (first | exact sget_here | refine sget_next (by (first | assumption | (apply Nq.en; assumption) | omega | (simp only [Nq] at *; omega))) ?_)) (by simp) | exact Bor.le (VLe.of_eq (by simp))) ?_)) (by repeat (first | exact NoF.int | exact NoF.bool | exact NoF.nilp | exact NoF.nil | exact NoF.own | exact NoF.ptr | exact NoF.str | exact nofl_nil | apply NoF.tup | apply NoF.agg | apply nofl_cons)) ?_ | refine pug [] rfl rfl Try.call12 (fun _ => law_begun11) rfl (by repeat (first | exact ArgsIf.nil | refine ArgsIf.cons (by first | exact Ev.when rfl (by first | exact id | simp) | exact Ev.here rfl) (by first | exact Bor.refl _ | exact Bor.le VLe.any | exact Bor.le VLe.empty | exact Bor.own (by simp) (by repeat (first | exact sget_here | refine sget_next (by (first | assumption | (apply Nq.en; assumption) | omega | (simp only [Nq] at *; omega))) ?_)) (by simp) | exact Bor.le (VLe.of_eq (by simp))) ?_)) (by repeat (first | exact NoF.int | exact NoF.bool | exact NoF.nilp | exact NoF.nil | exact NoF.own | exact NoF.ptr | exact NoF.str | exact nofl_nil | apply NoF.tup | apply NoF.agg | apply nofl_cons)) ?_)
  refine lo (lop_assign (E rfl)) rfl ?_
  apply le; (repeat (first | (apply KeepIs.take; rfl) | (apply KeepIs.skip; rfl) | exact KeepIs.nil))
  (repeat (first | refine cs ?_ | refine cb ?_ | refine ck ?_ | refine cx ?_ | refine cr ?_ | refine an ?_ | refine ae ?_ | refine ar ?_ | refine bn ?_ | refine bh ?_ | refine be rfl ?_ | refine br ?_ | refine ct rfl ?_ | refine cf rfl ?_))
  first | refine sw_seq_region ?_ | refine sw_region ?_
  refine lo (lop_move (E rfl)) rfl ?_
  refine lo (lop_not (E rfl)) rfl ?_
  apply le; (repeat (first | (apply KeepIs.take; rfl) | (apply KeepIs.skip; rfl) | exact KeepIs.nil))
  (repeat (first | refine cs ?_ | refine cb ?_ | refine ck ?_ | refine cx ?_ | refine cr ?_ | refine an ?_ | refine ae ?_ | refine ar ?_ | refine bn ?_ | refine bh ?_ | refine be rfl ?_ | refine br ?_ | refine ct rfl ?_ | refine cf rfl ?_))
  first | refine sw_seq_region ?_ | refine sw_region ?_
  refine lo (lop_move (E rfl)) rfl ?_
  refine lo (lop_lss (E rfl) (E rfl)) rfl ?_
  refine lo (lop_move (E rfl)) rfl ?_
  first | refine ln rfl rfl rfl rfl ?_ | refine lg rfl rfl (lop_move (E rfl)) rfl ?_
  first | refine ln rfl rfl rfl rfl ?_ | refine lg rfl rfl (lop_gtr (W rfl id) (E rfl)) rfl ?_
  first | refine lo (lop_pick_t (E rfl) (E rfl)) rfl ?_ | refine lo (lop_pick_f (E rfl) (W rfl (by simp))) rfl ?_ | refine lo (lop_pick (E rfl) (E rfl) (W rfl (by simp))) rfl ?_
  apply le; (repeat (first | (apply KeepIs.take; rfl) | (apply KeepIs.skip; rfl) | exact KeepIs.nil))
  (repeat (first | refine cs ?_ | refine cb ?_ | refine ck ?_ | refine cx ?_ | refine cr ?_ | refine an ?_ | refine ae ?_ | refine ar ?_ | refine bn ?_ | refine bh ?_ | refine be rfl ?_ | refine br ?_ | refine ct rfl ?_ | refine cf rfl ?_))
  refine sw_cond rfl (fun h => ?_) (fun h => ?_)
  · (repeat (first | refine cs ?_ | refine cb ?_ | refine ck ?_ | refine cx ?_ | refine cr ?_ | refine an ?_ | refine ae ?_ | refine ar ?_ | refine bn ?_ | refine bh ?_ | refine be rfl ?_ | refine br ?_ | refine ct rfl ?_ | refine cf rfl ?_))
    first | refine sw_seq_region ?_ | refine sw_region ?_
    refine lo (lop_assign (E rfl)) rfl ?_
    apply le; (repeat (first | (apply KeepIs.take; rfl) | (apply KeepIs.skip; rfl) | exact KeepIs.nil))
    (repeat (first | refine cs ?_ | refine cb ?_ | refine ck ?_ | refine cx ?_ | refine cr ?_ | refine an ?_ | refine ae ?_ | refine ar ?_ | refine bn ?_ | refine bh ?_ | refine be rfl ?_ | refine br ?_ | refine ct rfl ?_ | refine cf rfl ?_))
    (apply aend; (repeat (first | exact ResL.nil | (apply ResL.tmp; rfl) | (apply ResL.cell; rfl; infer_instance; rfl; (repeat (first | exact sget_here | (apply sget_next; (first | assumption | (apply Nq.en; assumption) | omega | (simp only [Nq] at *; omega))))); rfl) | (apply ResL.cells; rfl; infer_instance; infer_instance; rfl; (repeat (first | exact sget_here | (apply sget_next; (first | assumption | (apply Nq.en; assumption) | omega | (simp only [Nq] at *; omega))))); exact Nat.le_of_ble_eq_true rfl))))
    · exact rfl
    · (first | exact no_mem | (apply StLe.mem; (repeat (first | exact StLe.nil | (apply StLe.cons; (repeat (first | exact List.mem_cons_self | apply List.mem_cons_of_mem)); first | rfl | focus (congr 1; done) | focus (simp; done) | (simp; rfl))))))
  simp at h
  obtain ⟨N, rfl⟩ := Int.eq_ofNat_of_zero_le (show 0 ≤ T by omega)
  (repeat (first | refine cs ?_ | refine cb ?_ | refine ck ?_ | refine cx ?_ | refine cr ?_ | refine an ?_ | refine ae ?_ | refine ar ?_ | refine bn ?_ | refine bh ?_ | refine be rfl ?_ | refine br ?_ | refine ct rfl ?_ | refine cf rfl ?_))
  first | refine sw_seq_region ?_ | refine sw_region ?_
  refine lo (lop_move (E rfl)) rfl ?_
  refine lo (lop_gtr (E rfl) (E rfl)) rfl ?_
  refine lo (lop_move (E rfl)) rfl ?_
  refine lo (lop_str (by repeat (first | exact PEvs.nil | (apply PEvs.cons; first | exact W rfl id | exact E rfl))) (by (first | (simp only [Value.cells, AV.cells, List.map_cons, List.map_nil, ofConst, ofCell]; rfl) | rfl)) (by repeat (first | exact Fill.nil | (apply Fill.cons; rfl; rfl; rfl; (repeat (first | exact Put.done | apply Put.put | apply Put.skip)))))) rfl ?_
  refine lo (lop_str (by repeat (first | exact PEvs.nil | (apply PEvs.cons; first | exact W rfl id | exact E rfl))) (by (first | (simp only [Value.cells, AV.cells, List.map_cons, List.map_nil, ofConst, ofCell]; rfl) | rfl)) (by repeat (first | exact Fill.nil | (apply Fill.cons; rfl; rfl; rfl; (repeat (first | exact Put.done | apply Put.put | apply Put.skip)))))) rfl ?_
  apply al; rfl; (first | (simp only [Value.cells, AV.cells, List.map_cons, List.map_nil, ofConst, ofCell]; rfl) | rfl); intro r10 h10; simp only [fresh_cons, fresh_nil, and_true] at h10; (repeat (rcases h10 with ⟨_, h10⟩))
  apply stp; rfl; rfl; rfl; rfl; (repeat (first | (apply SPut.here; (repeat (first | exact Put.done | apply Put.put | apply Put.skip)); (repeat (first | exact Fresh.nil | (apply Fresh.cons; (first | assumption | (apply Nq.en; assumption) | omega | (simp only [Nq] at *; omega)))))) | (apply SPut.next; (first | assumption | (apply Nq.en; assumption) | omega | (simp only [Nq] at *; omega)))))
  apply le; (repeat (first | (apply KeepIs.take; rfl) | (apply KeepIs.skip; rfl) | exact KeepIs.nil))
  (repeat (first | refine cs ?_ | refine cb ?_ | refine ck ?_ | refine cx ?_ | refine cr ?_ | refine an ?_ | refine ae ?_ | refine ar ?_ | refine bn ?_ | refine bh ?_ | refine be rfl ?_ | refine br ?_ | refine ct rfl ?_ | refine cf rfl ?_))
  first | refine sw_seq_region ?_ | refine sw_region ?_
  refine lo (lop_assign (E rfl)) rfl ?_
  apply le; (repeat (first | (apply KeepIs.take; rfl) | (apply KeepIs.skip; rfl) | exact KeepIs.nil))
  (repeat (first | refine cs ?_ | refine cb ?_ | refine ck ?_ | refine cx ?_ | refine cr ?_ | refine an ?_ | refine ae ?_ | refine ar ?_ | refine bn ?_ | refine bh ?_ | refine be rfl ?_ | refine br ?_ | refine ct rfl ?_ | refine cf rfl ?_))
  first | refine sw_seq_region ?_ | refine sw_region ?_
  refine lo (lop_assign (E rfl)) rfl ?_
  apply le; (repeat (first | (apply KeepIs.take; rfl) | (apply KeepIs.skip; rfl) | exact KeepIs.nil))
  (repeat (first | refine cs ?_ | refine cb ?_ | refine ck ?_ | refine cx ?_ | refine cr ?_ | refine an ?_ | refine ae ?_ | refine ar ?_ | refine bn ?_ | refine bh ?_ | refine be rfl ?_ | refine br ?_ | refine ct rfl ?_ | refine cf rfl ?_))
  refine sw_virt (ks := [0, 1, 2, 3, 8, 9, 10, 11, 12, 13, 14, 15, 16, 17, 18, 19, 20, 21, 22, 23, 24, 25, 26, 27, 28, 30, 32, 35, 41, 54, 61, 82, 83, 84, 99, 108, 117, 155, 156, 205, 213, 214, 234, 238, 278]) 11 39 2 (by decide) rfl (by decide) fun v0 hv0 => ?_
  simp only [fresh_cons, fresh_nil, and_true] at hv0; (repeat (rcases hv0 with ⟨_, hv0⟩))
  refine sw_virt_box (ks := [0, 1, 2, 3, 8, 9, 10, 11, 12, 13, 14, 15, 16, 17, 18, 19, 20, 21, 22, 23, 24, 25, 26, 27, 28, 30, 32, 35, 41, 54, 61, 82, 83, 84, 99, 108, 117, 155, 156, 205, 213, 214, 234, 238, 278]) r10 9 41 3 (by decide) (by repeat (first | exact sget_here | refine sget_next (by (first | assumption | (apply Nq.en; assumption) | omega | (simp only [Nq] at *; omega))) ?_)) rfl (by decide) fun g0 hg0 => ?_
  simp only [fresh_cons, fresh_nil, and_true] at hg0; (repeat (rcases hg0 with ⟨_, hg0⟩))
  apply Exists.intro; apply And.intro; (repeat (first | (apply SSet.here; (repeat (first | exact Fresh.nil | (apply Fresh.cons; (first | assumption | (apply Nq.en; assumption) | omega | (simp only [Nq] at *; omega)))))) | (apply SSet.next; (first | assumption | (apply Nq.en; assumption) | omega | (simp only [Nq] at *; omega)))))
  refine lp (β := SB0) (fun b => ⟨[(0, .int .i64 N), (1, .ro 2 (gs.map encV) .any), (2, .ro 5 (ops.map encO) .any), (3, .int .i64 at_), (10, .ptr r10 0), (11, .own b.v 0 b.V.length), (12, .int .i64 b.i)], [(b.v, .arr 39 2 (b.V.map encV)), (b.g, .arr 41 3 ((b.V.map gOf).map encG)), (r10, .box 36 [.ro 0 [] .nil, .ro 0 [] .nil, .ro 0 [] .nil, .bool (decide ((0 : Int) < (N : Int))), .int .i64 N, .int .i64 0, .bool false, .int .i64 0, .int .i64 0, .own b.g 0 b.V.length, .ro 0 [] .nil, .ro 0 [] .nil, .ro 0 [] .nil, .ro 0 [] .nil])]⟩)
    (fun b => b.i ≤ 10 ∧ b.i ≤ gs.length ∧ b.V.length ≤ b.i ∧ Nq b.v b.g ∧ Nq b.v r10 ∧ Nq b.g r10) (fun b => 10 - b.i) ⟨0, v0, g0, []⟩ ?_ ⟨by show 0 ≤ 10; decide, Nat.zero_le _, Nat.le_refl _, by show Nq v0 g0; (first | assumption | (apply Nq.en; assumption) | omega | (simp only [Nq] at *; omega)), by show Nq v0 r10; (first | assumption | (apply Nq.en; assumption) | omega | (simp only [Nq] at *; omega)), by show Nq g0 r10; (first | assumption | (apply Nq.en; assumption) | omega | (simp only [Nq] at *; omega))⟩ ?_
  · (refine sgo_st ?_ ?_ <;> (repeat (first | exact FrLe.nil | (apply FrLe.cons; rfl; first | exact VLe.refl _ | exact VLe.any | exact VLe.empty | exact VLe.of_eq (by simp) | exact VLe.of_eq (by congr 1; omega)) | exact StLe.nil | (apply StLe.cons; (repeat (first | exact List.mem_cons_self | apply List.mem_cons_of_mem)); first | rfl | focus (congr 1; done) | focus (simp; done) | (simp; rfl)))))
  rintro ⟨i, vq, gq, V⟩ ⟨hi, hil, hV, hn1, hn2, hn3⟩
  simp only at hi hil hV hn1 hn2 hn3 ⊢
  (repeat (first | refine cs ?_ | refine cb ?_ | refine ck ?_ | refine cx ?_ | refine cr ?_ | refine an ?_ | refine ae ?_ | refine ar ?_ | refine bn ?_ | refine bh ?_ | refine be rfl ?_ | refine br ?_ | refine ct rfl ?_ | refine cf rfl ?_))
  first | refine sw_seq_region ?_ | refine sw_region ?_
  refine lo (lop_move (E rfl)) rfl ?_
  refine lo (lop_move (E rfl)) rfl ?_
  first | refine lo (lop_len_map (E rfl)) rfl ?_ | refine lo (lop_len_ro (E rfl)) rfl ?_ | refine lo (lop_len_own (E rfl)) rfl ?_
  refine lo (lop_lss (E rfl) (E rfl)) rfl ?_
  refine lo (lop_move (E rfl)) rfl ?_
  first | refine ln rfl rfl rfl rfl ?_ | refine lg rfl rfl (lop_move (E rfl)) rfl ?_
  first | refine ln rfl rfl rfl rfl ?_ | refine lg rfl rfl (lop_lss (W rfl id) (E rfl)) rfl ?_
  first | refine lo (lop_pick_t (E rfl) (W rfl (by simp))) rfl ?_ | refine lo (lop_pick_f (E rfl) (E rfl)) rfl ?_ | refine lo (lop_pick (E rfl) (W rfl (by simp)) (E rfl)) rfl ?_
  apply le; (repeat (first | (apply KeepIs.take; rfl) | (apply KeepIs.skip; rfl) | exact KeepIs.nil))
  (repeat (first | refine cs ?_ | refine cb ?_ | refine ck ?_ | refine cx ?_ | refine cr ?_ | refine an ?_ | refine ae ?_ | refine ar ?_ | refine bn ?_ | refine bh ?_ | refine be rfl ?_ | refine br ?_ | refine ct rfl ?_ | refine cf rfl ?_))
  refine sw_cond rfl (fun h2 => ?_) (fun h2 => ?_)
  · have hlt : i < gs.length ∧ i < 10 := by simp at h2; omega
    obtain ⟨x, hx⟩ : ∃ x, gs[i]? = some x := ⟨_, List.getElem?_eq_getElem hlt.1⟩
    (repeat (first | refine cs ?_ | refine cb ?_ | refine ck ?_ | refine cx ?_ | refine cr ?_ | refine an ?_ | refine ae ?_ | refine ar ?_ | refine bn ?_ | refine bh ?_ | refine be rfl ?_ | refine br ?_ | refine ct rfl ?_ | refine cf rfl ?_))
    first | refine sw_seq_region ?_ | refine sw_region ?_
    refine lo (lop_move (E rfl)) rfl ?_
    refine lo (lop_move (E rfl)) rfl ?_
    first | refine lo (lop_index_ro (E rfl) (E rfl) (fun hc => by (simp only [List.length_map]; omega))) rfl ?_ | refine lo (lop_index_own0 (E rfl) (by repeat (first | exact sget_here | refine sget_next (by (first | assumption | (apply Nq.en; assumption) | omega | (simp only [Nq] at *; omega))) ?_)) (E rfl) (fun hc => by omega)) rfl ?_ | refine lo (lop_index_own (E rfl) (by repeat (first | exact sget_here | refine sget_next (by (first | assumption | (apply Nq.en; assumption) | omega | (simp only [Nq] at *; omega))) ?_)) (E rfl) (fun hc => by omega)) rfl ?_
    first | refine lo (lop_load_el_agg (E rfl) rfl (fun hc => by first | rfl | exact get_map (by assumption) | assumption | exact get_map (at_bang (by omega))) (fun _ => Nat.le_of_ble_eq_true rfl)) rfl ?_ | refine lo (lop_load_ow_agg (E rfl) rfl (by repeat (first | exact sget_here | refine sget_next (by (first | assumption | (apply Nq.en; assumption) | omega | (simp only [Nq] at *; omega))) ?_)) (fun hc => by first | rfl | exact get_map (by assumption) | assumption | exact get_map (at_bang (by omega))) (fun _ => Nat.le_of_ble_eq_true rfl)) rfl ?_
    (first | refine pu [] Try.call13 (ref_may x.1 x.2) rfl (by repeat (first | exact ArgsIf.nil | refine ArgsIf.cons (by first | exact Ev.when rfl (by first | exact id | simp) | exact Ev.here rfl) (by first | exact Bor.refl _ | exact Bor.le VLe.any | exact Bor.le VLe.empty | exact Bor.own (by simp) (by repeat (first | exact sget_here | refine sget_next (by (first | assumption | (apply Nq.en; assumption) | omega | (simp only [Nq] at *; omega))) ?_)) (by simp) | exact Bor.le (VLe.of_eq (by simp))) ?_)) (by repeat (first | exact NoF.int | exact NoF.bool | exact NoF.nilp | exact NoF.nil | exact NoF.own | exact NoF.ptr | exact NoF.str | exact nofl_nil | apply NoF.tup | apply NoF.agg | apply nofl_cons)) ?_ | refine pug [] rfl rfl Try.call13 (fun _ => (ref_may x.1 x.2)) rfl (by repeat (first | exact ArgsIf.nil | refine ArgsIf.cons (by first | exact Ev.when rfl (by first | exact id | simp) | exact Ev.here rfl) (by first | exact Bor.refl _ | exact Bor.le VLe.any | exact Bor.le VLe.empty | exact Bor.own (by simp) (by repeat (first | exact sget_here | refine sget_next (by (first | assumption | (apply Nq.en; assumption) | omega | (simp only [Nq] at *; omega))) ?_)) (by simp) | exact Bor.le (VLe.of_eq (by simp))) ?_)) (by repeat (first | exact NoF.int | exact NoF.bool | exact NoF.nilp | exact NoF.nil | exact NoF.own | exact NoF.ptr | exact NoF.str | exact nofl_nil | apply NoF.tup | apply NoF.agg | apply nofl_cons)) ?_)
    apply le; (repeat (first | (apply KeepIs.take; rfl) | (apply KeepIs.skip; rfl) | exact KeepIs.nil))
    (repeat (first | refine cs ?_ | refine cb ?_ | refine ck ?_ | refine cx ?_ | refine cr ?_ | refine an ?_ | refine ae ?_ | refine ar ?_ | refine bn ?_ | refine bh ?_ | refine be rfl ?_ | refine br ?_ | refine ct rfl ?_ | refine cf rfl ?_))
    refine sw_cond rfl (fun h3 => ?_) (fun h3 => ?_)
    · (repeat (first | refine cs ?_ | refine cb ?_ | refine ck ?_ | refine cx ?_ | refine cr ?_ | refine an ?_ | refine ae ?_ | refine ar ?_ | refine bn ?_ | refine bh ?_ | refine be rfl ?_ | refine br ?_ | refine ct rfl ?_ | refine cf rfl ?_))
      first | refine sw_seq_region ?_ | refine sw_region ?_
      refine lo (lop_move (E rfl)) rfl ?_
      refine lo (lop_move (E rfl)) rfl ?_
      refine lo (lop_move (E rfl)) rfl ?_
      first | refine lo (lop_index_ro (E rfl) (E rfl) (fun hc => by (simp only [List.length_map]; omega))) rfl ?_ | refine lo (lop_index_own0 (E rfl) (by repeat (first | exact sget_here | refine sget_next (by (first | assumption | (apply Nq.en; assumption) | omega | (simp only [Nq] at *; omega))) ?_)) (E rfl) (fun hc => by omega)) rfl ?_ | refine lo (lop_index_own (E rfl) (by repeat (first | exact sget_here | refine sget_next (by (first | assumption | (apply Nq.en; assumption) | omega | (simp only [Nq] at *; omega))) ?_)) (E rfl) (fun hc => by omega)) rfl ?_
      first | refine lo (lop_load_el_agg (E rfl) rfl (fun hc => by first | rfl | exact get_map (by assumption) | assumption | exact get_map (at_bang (by omega))) (fun _ => Nat.le_of_ble_eq_true rfl)) rfl ?_ | refine lo (lop_load_ow_agg (E rfl) rfl (by repeat (first | exact sget_here | refine sget_next (by (first | assumption | (apply Nq.en; assumption) | omega | (simp only [Nq] at *; omega))) ?_)) (fun hc => by first | rfl | exact get_map (by assumption) | assumption | exact get_map (at_bang (by omega))) (fun _ => Nat.le_of_ble_eq_true rfl)) rfl ?_
      apply bs; (repeat (first | exact AEvs.nil | (apply AEvs.cons; rfl))); rfl; rfl; rfl; rfl; (first | (simp only [Value.cells, AV.cells, List.map_cons, List.map_nil, ofConst, ofCell]; rfl) | rfl); rfl; intro r67 h67; simp only [fresh_cons, fresh_nil, and_true] at h67; (repeat (rcases h67 with ⟨_, h67⟩))
      apply ap (es' := (V ++ [x]).map encV) (len' := (V ++ [x]).length); rfl; rfl; (repeat (first | exact sget_here | (apply sget_next; (first | assumption | (apply Nq.en; assumption) | omega | (simp only [Nq] at *; omega)))))
      · simp
      · exact .inr (.inr ⟨_, _, _, _, _, rfl, (by repeat (first | exact sget_here | refine sget_next (by (first | assumption | (apply Nq.en; assumption) | omega | (simp only [Nq] at *; omega))) ?_)), by simp, rfl⟩)
      · simp [encV]
      · simp
      · simp [maxLen]; omega
      · simp; omega
      · rfl
      intro r68 h68; simp (disch := (first | (simp only [List.mem_cons, List.not_mem_nil, true_or, or_true, or_false]; done) | (focus (simp only [List.mem_cons, List.not_mem_nil, or_false, not_or]; (repeat' (first | apply And.intro | (first | assumption | (apply Nq.en; assumption) | omega | (simp only [Nq] at *; omega)))); done)) | omega)) only [fresh_cons, fresh_nil, and_true, sdrop_none, sdrop_nil, sdrop_in, sdrop_out] at h68; (repeat (rcases h68 with ⟨_, h68⟩)); apply Exists.intro; apply And.intro; (repeat (first | (apply SSet.here; (repeat (first | exact Fresh.nil | (apply Fresh.cons; (first | assumption | (apply Nq.en; assumption) | omega | (simp only [Nq] at *; omega)))))) | (apply SSet.next; (first | assumption | (apply Nq.en; assumption) | omega | (simp only [Nq] at *; omega)))))
      refine lo (lop_assign (E rfl)) rfl ?_
      apply le; (repeat (first | (apply KeepIs.take; rfl) | (apply KeepIs.skip; rfl) | exact KeepIs.nil))
      (repeat (first | refine cs ?_ | refine cb ?_ | refine ck ?_ | refine cx ?_ | refine cr ?_ | refine an ?_ | refine ae ?_ | refine ar ?_ | refine bn ?_ | refine bh ?_ | refine be rfl ?_ | refine br ?_ | refine ct rfl ?_ | refine cf rfl ?_))
      first | refine sw_seq_drawn [(0, true), (1, true), (2, true), (3, true), (4, true), (5, true), (6, true), (7, false), (8, false), (9, true), (10, false)] mixed (by kernel_rfl) (by kernel_rfl) ?_ | refine sw_region_drawn [(0, true), (1, true), (2, true), (3, true), (4, true), (5, true), (6, true), (7, false), (8, false), (9, true), (10, false)] mixed (by kernel_rfl) (by kernel_rfl) ?_
      refine dlo rfl (lop_field_ptr (E rfl) rfl (by decide)) rfl ?_
      refine dlo rfl (lop_load_ptr (E rfl) rfl (by repeat (first | exact sget_here | refine sget_next (by (first | assumption | (apply Nq.en; assumption) | omega | (simp only [Nq] at *; omega))) ?_)) (fun _ => rfl)) rfl ?_
      refine dlo rfl (lop_move (E rfl)) rfl ?_
      refine dlo rfl (lop_move (E rfl)) rfl ?_
      first | refine dlo rfl (lop_index_ro (E rfl) (E rfl) (fun hc => by (simp only [List.length_map]; omega))) rfl ?_ | refine dlo rfl (lop_index_own0 (E rfl) (by repeat (first | exact sget_here | refine sget_next (by (first | assumption | (apply Nq.en; assumption) | omega | (simp only [Nq] at *; omega))) ?_)) (E rfl) (fun hc => by omega)) rfl ?_ | refine dlo rfl (lop_index_own (E rfl) (by repeat (first | exact sget_here | refine sget_next (by (first | assumption | (apply Nq.en; assumption) | omega | (simp only [Nq] at *; omega))) ?_)) (E rfl) (fun hc => by omega)) rfl ?_
      first | refine dlo rfl (lop_load_el_agg (E rfl) rfl (fun hc => by first | rfl | exact get_map (by assumption) | assumption | exact get_map (at_bang (by omega))) (fun _ => Nat.le_of_ble_eq_true rfl)) rfl ?_ | refine dlo rfl (lop_load_ow_agg (E rfl) rfl (by repeat (first | exact sget_here | refine sget_next (by (first | assumption | (apply Nq.en; assumption) | omega | (simp only [Nq] at *; omega))) ?_)) (fun hc => by first | rfl | exact get_map (by assumption) | assumption | exact get_map (at_bang (by omega))) (fun _ => Nat.le_of_ble_eq_true rfl)) rfl ?_
      refine dlo rfl (lop_str (by repeat (first | exact PEvs.nil | (apply PEvs.cons; first | exact W rfl id | exact E rfl))) (by (first | (simp only [Value.cells, AV.cells, List.map_cons, List.map_nil, ofConst, ofCell]; rfl) | rfl)) (by repeat (first | exact Fill.nil | (apply Fill.cons; rfl; rfl; rfl; (repeat (first | exact Put.done | apply Put.put | apply Put.skip)))))) rfl ?_
      apply dbs; rfl; infer_instance; infer_instance; (repeat (first | exact AEvs.nil | (apply AEvs.cons; rfl))); rfl; rfl; rfl; rfl; (first | (simp only [Value.cells, AV.cells, List.map_cons, List.map_nil, ofConst, ofCell]; rfl) | rfl); rfl; intro r76 h76; simp only [fresh_cons, fresh_nil, and_true] at h76; (repeat (rcases h76 with ⟨_, h76⟩))
      apply dap (es' := ((V ++ [x]).map gOf).map encG) (len' := (V ++ [x]).length); rfl; infer_instance; infer_instance; rfl; rfl; (repeat (first | exact sget_here | (apply sget_next; (first | assumption | (apply Nq.en; assumption) | omega | (simp only [Nq] at *; omega)))))
      · simp
      · exact .inr (.inr ⟨_, _, _, _, _, rfl, (by repeat (first | exact sget_here | refine sget_next (by (first | assumption | (apply Nq.en; assumption) | omega | (simp only [Nq] at *; omega))) ?_)), by simp, rfl⟩)
      · simp [encG, gOf, encV]
      · simp
      · simp [maxLen]; omega
      · simp; omega
      · rfl
      · (repeat (first | exact HB.nil | apply HB.none | (apply HB.ok; focus (simp only [List.mem_cons, List.not_mem_nil, or_false, List.map_cons, List.map_nil, forall_eq_or_imp, forall_eq, true_or, or_true, true_and, not_or]; (repeat' (first | apply And.intro | (first | assumption | (apply Nq.en; assumption) | omega | (simp only [Nq] at *; omega)))); done)) | (apply HB.waits; kernel_rfl)))
      intro r77 h77; simp (disch := (first | (simp only [List.mem_cons, List.not_mem_nil, true_or, or_true, or_false]; done) | (focus (simp only [List.mem_cons, List.not_mem_nil, or_false, not_or]; (repeat' (first | apply And.intro | (first | assumption | (apply Nq.en; assumption) | omega | (simp only [Nq] at *; omega)))); done)) | omega)) only [fresh_cons, fresh_nil, and_true, sdrop_none, sdrop_nil, sdrop_in, sdrop_out] at h77; (repeat (rcases h77 with ⟨_, h77⟩)); apply Exists.intro; apply And.intro; (repeat (first | (apply SSet.here; (repeat (first | exact Fresh.nil | (apply Fresh.cons; (first | assumption | (apply Nq.en; assumption) | omega | (simp only [Nq] at *; omega)))))) | (apply SSet.next; (first | assumption | (apply Nq.en; assumption) | omega | (simp only [Nq] at *; omega)))))
      refine dlo rfl (lop_field_ptr (E rfl) rfl (by decide)) rfl ?_
      apply dstp; rfl; infer_instance; rfl; rfl; rfl; rfl; (repeat (first | (apply SPut.here; (repeat (first | exact Put.done | apply Put.put | apply Put.skip)); (repeat (first | exact Fresh.nil | (apply Fresh.cons; (first | assumption | (apply Nq.en; assumption) | omega | (simp only [Nq] at *; omega)))))) | (apply SPut.next; (first | assumption | (apply Nq.en; assumption) | omega | (simp only [Nq] at *; omega))))); (repeat (first | exact HB.nil | apply HB.none | (apply HB.ok; focus (simp only [List.mem_cons, List.not_mem_nil, or_false, List.map_cons, List.map_nil, forall_eq_or_imp, forall_eq, true_or, or_true, true_and, not_or]; (repeat' (first | apply And.intro | (first | assumption | (apply Nq.en; assumption) | omega | (simp only [Nq] at *; omega)))); done)) | (apply HB.waits; kernel_rfl)))
      apply de; (repeat (first | (apply KeepIs.take; rfl) | (apply KeepIs.skip; rfl) | exact KeepIs.nil))
      (repeat (first | refine cs ?_ | refine cb ?_ | refine ck ?_ | refine cx ?_ | refine cr ?_ | refine an ?_ | refine ae ?_ | refine ar ?_ | refine bn ?_ | refine bh ?_ | refine be rfl ?_ | refine br ?_ | refine ct rfl ?_ | refine cf rfl ?_))
      first | refine sw_seq_region ?_ | refine sw_region ?_
      refine lo (lop_move (E rfl)) rfl ?_
      first | refine lo (lop_add64 (E rfl) (E rfl) (by omega) (by omega)) rfl ?_ | refine lo (lop_add (E rfl) (E rfl)) rfl ?_
      refine lo (lop_assign (E rfl)) rfl ?_
      apply le; (repeat (first | (apply KeepIs.take; rfl) | (apply KeepIs.skip; rfl) | exact KeepIs.nil))
      (repeat (first | refine cs ?_ | refine cb ?_ | refine ck ?_ | refine cx ?_ | refine cr ?_ | refine an ?_ | refine ae ?_ | refine ar ?_ | refine bn ?_ | refine bh ?_ | refine be rfl ?_ | refine br ?_ | refine ct rfl ?_ | refine cf rfl ?_))
      refine ⟨⟨i + 1, r68, r77, V ++ [x]⟩, ⟨by show i + 1 ≤ 10; omega, by show i + 1 ≤ gs.length; omega, by simp; omega, by show Nq r68 r77; (first | assumption | (apply Nq.en; assumption) | omega | (simp only [Nq] at *; omega)), by show Nq r68 r10; (first | assumption | (apply Nq.en; assumption) | omega | (simp only [Nq] at *; omega)), by show Nq r77 r10; (first | assumption | (apply Nq.en; assumption) | omega | (simp only [Nq] at *; omega))⟩, by show 10 - (i + 1) < 10 - i; omega, ?_⟩
      (refine sgo_st ?_ ?_ <;> (repeat (first | exact FrLe.nil | (apply FrLe.cons; rfl; first | exact VLe.refl _ | exact VLe.any | exact VLe.empty | exact VLe.of_eq (by simp) | exact VLe.of_eq (by congr 1; omega)) | exact StLe.nil | (apply StLe.cons; (repeat (first | exact List.mem_cons_self | apply List.mem_cons_of_mem)); first | rfl | focus (congr 1; done) | focus (simp; done) | (simp; rfl)))))
    · (repeat (first | refine cs ?_ | refine cb ?_ | refine ck ?_ | refine cx ?_ | refine cr ?_ | refine an ?_ | refine ae ?_ | refine ar ?_ | refine bn ?_ | refine bh ?_ | refine be rfl ?_ | refine br ?_ | refine ct rfl ?_ | refine cf rfl ?_))
      first | refine sw_seq_region ?_ | refine sw_region ?_
      refine lo (lop_move (E rfl)) rfl ?_
      first | refine lo (lop_add64 (E rfl) (E rfl) (by omega) (by omega)) rfl ?_ | refine lo (lop_add (E rfl) (E rfl)) rfl ?_
      refine lo (lop_assign (E rfl)) rfl ?_
      apply le; (repeat (first | (apply KeepIs.take; rfl) | (apply KeepIs.skip; rfl) | exact KeepIs.nil))
      (repeat (first | refine cs ?_ | refine cb ?_ | refine ck ?_ | refine cx ?_ | refine cr ?_ | refine an ?_ | refine ae ?_ | refine ar ?_ | refine bn ?_ | refine bh ?_ | refine be rfl ?_ | refine br ?_ | refine ct rfl ?_ | refine cf rfl ?_))
      refine ⟨⟨i + 1, vq, gq, V⟩, ⟨by show i + 1 ≤ 10; omega, by show i + 1 ≤ gs.length; omega, by show V.length ≤ i + 1; omega, hn1, hn2, hn3⟩, by show 10 - (i + 1) < 10 - i; omega, ?_⟩
      (refine sgo_st ?_ ?_ <;> (repeat (first | exact FrLe.nil | (apply FrLe.cons; rfl; first | exact VLe.refl _ | exact VLe.any | exact VLe.empty | exact VLe.of_eq (by simp) | exact VLe.of_eq (by congr 1; omega)) | exact StLe.nil | (apply StLe.cons; (repeat (first | exact List.mem_cons_self | apply List.mem_cons_of_mem)); first | rfl | focus (congr 1; done) | focus (simp; done) | (simp; rfl)))))
  (repeat (first | refine cs ?_ | refine cb ?_ | refine ck ?_ | refine cx ?_ | refine cr ?_ | refine an ?_ | refine ae ?_ | refine ar ?_ | refine bn ?_ | refine bh ?_ | refine be rfl ?_ | refine br ?_ | refine ct rfl ?_ | refine cf rfl ?_))
  first | refine sw_seq_region ?_ | refine sw_region ?_
  refine lo (lop_move (E rfl)) rfl ?_
  apply mk; rfl; rfl; rfl; rfl; omega; (simp [maxLen]; omega); (first | (simp only [Value.cells, AV.cells, List.map_cons, List.map_nil, ofConst, ofCell]; rfl) | rfl); rfl; intro r80 h80; simp only [fresh_cons, fresh_nil, and_true] at h80; (repeat (rcases h80 with ⟨_, h80⟩))
  refine lo (lop_assign (E rfl)) rfl ?_
  apply le; (repeat (first | (apply KeepIs.take; rfl) | (apply KeepIs.skip; rfl) | exact KeepIs.nil))
  (repeat (first | refine cs ?_ | refine cb ?_ | refine ck ?_ | refine cx ?_ | refine cr ?_ | refine an ?_ | refine ae ?_ | refine ar ?_ | refine bn ?_ | refine bh ?_ | refine be rfl ?_ | refine br ?_ | refine ct rfl ?_ | refine cf rfl ?_))
  first | refine sw_seq_region ?_ | refine sw_region ?_
  refine lo (lop_move (E rfl)) rfl ?_
  first | refine lo (lop_len_map (E rfl)) rfl ?_ | refine lo (lop_len_ro (E rfl)) rfl ?_ | refine lo (lop_len_own (E rfl)) rfl ?_
  refine lo (lop_move (E rfl)) rfl ?_
  apply le; (repeat (first | (apply KeepIs.take; rfl) | (apply KeepIs.skip; rfl) | exact KeepIs.nil))
  (repeat (first | refine cs ?_ | refine cb ?_ | refine ck ?_ | refine cx ?_ | refine cr ?_ | refine an ?_ | refine ae ?_ | refine ar ?_ | refine bn ?_ | refine bh ?_ | refine be rfl ?_ | refine br ?_ | refine ct rfl ?_ | refine cf rfl ?_))
  refine lp (β := Nat) (fun k => ⟨[(0, .int .i64 N), (2, .ro 5 (ops.map encO) .any), (3, .int .i64 at_), (10, .ptr r10 0), (11, .own vq 0 V.length), (13, .own r80 0 N), (82, .int .i64 N), (83, .int .i64 k)], [(r80, .arr 3 1 ((fillL N k (-1) 0).map encI)), (vq, .arr 39 2 (V.map encV)), (gq, .arr 41 3 ((V.map gOf).map encG)), (r10, .box 36 [.ro 0 [] .nil, .ro 0 [] .nil, .ro 0 [] .nil, .bool (decide ((0 : Int) < (N : Int))), .int .i64 N, .int .i64 0, .bool false, .int .i64 0, .int .i64 0, .own gq 0 V.length, .ro 0 [] .nil, .ro 0 [] .nil, .ro 0 [] .nil, .ro 0 [] .nil])]⟩) (fun k => k ≤ N) (fun k => N - k) 0 ?_ (Nat.zero_le _) ?_
  · rw [show List.replicate N [AV.int .i64 0] = (fillL N 0 (-1) 0).map encI by simp [fillL, encI]]
    (refine sgo_st ?_ ?_ <;> (repeat (first | exact FrLe.nil | (apply FrLe.cons; rfl; first | exact VLe.refl _ | exact VLe.any | exact VLe.empty | exact VLe.of_eq (by simp) | exact VLe.of_eq (by congr 1; omega)) | exact StLe.nil | (apply StLe.cons; (repeat (first | exact List.mem_cons_self | apply List.mem_cons_of_mem)); first | rfl | focus (congr 1; done) | focus (simp; done) | (simp; rfl)))))
  rintro k hk
  (repeat (first | refine cs ?_ | refine cb ?_ | refine ck ?_ | refine cx ?_ | refine cr ?_ | refine an ?_ | refine ae ?_ | refine ar ?_ | refine bn ?_ | refine bh ?_ | refine be rfl ?_ | refine br ?_ | refine ct rfl ?_ | refine cf rfl ?_))
  first | refine sw_seq_region ?_ | refine sw_region ?_
  refine lo (lop_lss (E rfl) (E rfl)) rfl ?_
  apply le; (repeat (first | (apply KeepIs.take; rfl) | (apply KeepIs.skip; rfl) | exact KeepIs.nil))
  (repeat (first | refine cs ?_ | refine cb ?_ | refine ck ?_ | refine cx ?_ | refine cr ?_ | refine an ?_ | refine ae ?_ | refine ar ?_ | refine bn ?_ | refine bh ?_ | refine be rfl ?_ | refine br ?_ | refine ct rfl ?_ | refine cf rfl ?_))
  refine sw_cond rfl (fun h4 => ?_) (fun h4 => ?_)
  · have hlt : k < N := by simp at h4; omega
    have hat := fillL_at (x := -1) (y := 0) hlt
    have hln := fillL_len (x := -1) (y := 0) hk
    (repeat (first | refine cs ?_ | refine cb ?_ | refine ck ?_ | refine cx ?_ | refine cr ?_ | refine an ?_ | refine ae ?_ | refine ar ?_ | refine bn ?_ | refine bh ?_ | refine be rfl ?_ | refine br ?_ | refine ct rfl ?_ | refine cf rfl ?_))
    first | refine sw_seq_region ?_ | refine sw_region ?_
    refine lo (lop_move (E rfl)) rfl ?_
    refine lo (lop_assign (E rfl)) rfl ?_
    apply le; (repeat (first | (apply KeepIs.take; rfl) | (apply KeepIs.skip; rfl) | exact KeepIs.nil))
    (repeat (first | refine cs ?_ | refine cb ?_ | refine ck ?_ | refine cx ?_ | refine cr ?_ | refine an ?_ | refine ae ?_ | refine ar ?_ | refine bn ?_ | refine bh ?_ | refine be rfl ?_ | refine br ?_ | refine ct rfl ?_ | refine cf rfl ?_))
    first | refine sw_seq_region ?_ | refine sw_region ?_
    refine lo (lop_move (E rfl)) rfl ?_
    refine lo (lop_move (E rfl)) rfl ?_
    first | refine lo (lop_index_ro (E rfl) (E rfl) (fun hc => by (simp only [List.length_map]; omega))) rfl ?_ | refine lo (lop_index_own0 (E rfl) (by repeat (first | exact sget_here | refine sget_next (by (first | assumption | (apply Nq.en; assumption) | omega | (simp only [Nq] at *; omega))) ?_)) (E rfl) (fun hc => by omega)) rfl ?_ | refine lo (lop_index_own (E rfl) (by repeat (first | exact sget_here | refine sget_next (by (first | assumption | (apply Nq.en; assumption) | omega | (simp only [Nq] at *; omega))) ?_)) (E rfl) (fun hc => by omega)) rfl ?_
    apply sto; rfl; rfl; rfl; rfl; (repeat (first | (apply SSet.here; (repeat (first | exact Fresh.nil | (apply Fresh.cons; (first | assumption | (apply Nq.en; assumption) | omega | (simp only [Nq] at *; omega)))))) | (apply SSet.next; (first | assumption | (apply Nq.en; assumption) | omega | (simp only [Nq] at *; omega))))); (first | rfl | exact get_map (by assumption) | assumption); (repeat (first | exact Put.done | apply Put.put | apply Put.skip)); rfl
    apply le; (repeat (first | (apply KeepIs.take; rfl) | (apply KeepIs.skip; rfl) | exact KeepIs.nil))
    (repeat (first | refine cs ?_ | refine cb ?_ | refine ck ?_ | refine cx ?_ | refine cr ?_ | refine an ?_ | refine ae ?_ | refine ar ?_ | refine bn ?_ | refine bh ?_ | refine be rfl ?_ | refine br ?_ | refine ct rfl ?_ | refine cf rfl ?_))
    first | refine sw_seq_region ?_ | refine sw_region ?_
    first | refine lo (lop_add64 (E rfl) (E rfl) (by omega) (by omega)) rfl ?_ | refine lo (lop_add (E rfl) (E rfl)) rfl ?_
    refine lo (lop_move (E rfl)) rfl ?_
    apply le; (repeat (first | (apply KeepIs.take; rfl) | (apply KeepIs.skip; rfl) | exact KeepIs.nil))
    (repeat (first | refine cs ?_ | refine cb ?_ | refine ck ?_ | refine cx ?_ | refine cr ?_ | refine an ?_ | refine ae ?_ | refine ar ?_ | refine bn ?_ | refine bh ?_ | refine be rfl ?_ | refine br ?_ | refine ct rfl ?_ | refine cf rfl ?_))
    refine ⟨k + 1, hlt, by show N - (k + 1) < N - k; omega, ?_⟩
    rw [Int.toNat_natCast, set_encI', fillL_step hlt]
    (refine sgo_st ?_ ?_ <;> (repeat (first | exact FrLe.nil | (apply FrLe.cons; rfl; first | exact VLe.refl _ | exact VLe.any | exact VLe.empty | exact VLe.of_eq (by simp) | exact VLe.of_eq (by congr 1; omega)) | exact StLe.nil | (apply StLe.cons; (repeat (first | exact List.mem_cons_self | apply List.mem_cons_of_mem)); first | rfl | focus (congr 1; done) | focus (simp; done) | (simp; rfl)))))
  obtain rfl : k = N := by simp at h4; omega
  rw [fillL_all]
  (repeat (first | refine cs ?_ | refine cb ?_ | refine ck ?_ | refine cx ?_ | refine cr ?_ | refine an ?_ | refine ae ?_ | refine ar ?_ | refine bn ?_ | refine bh ?_ | refine be rfl ?_ | refine br ?_ | refine ct rfl ?_ | refine cf rfl ?_))
  first | refine sw_seq_region ?_ | refine sw_region ?_
  refine lo (lop_load_ptr_agg (E rfl) rfl (by repeat (first | exact sget_here | refine sget_next (by (first | assumption | (apply Nq.en; assumption) | omega | (simp only [Nq] at *; omega))) ?_)) (fun _ => Nat.le_of_ble_eq_true rfl)) rfl ?_
  refine cl [gq] Try.call14 (space_new (decide ((0 : Int) < (k : Int))) k (by omega) 0 (V.map gOf) (by simp; omega)) rfl ?_ ?_ ?_
  · (repeat (first | exact ArgsBor.nil | (apply ArgsBor.cons; rfl; (first | exact Bor.refl _ | exact Bor.le VLe.any | exact Bor.le VLe.empty | (apply bown; (repeat (first | exact List.mem_cons_self | apply List.mem_cons_of_mem)); (repeat (first | exact sget_here | (apply sget_next; (first | assumption | (apply Nq.en; assumption) | omega | (simp only [Nq] at *; omega))))); (first | focus (simp; done) | omega | focus (simp; omega)); (first | rfl | focus (simp; done) | focus (exact List.take_of_length_le (by first | (simp; done) | (simp; omega))))) | focus (apply bagg; (repeat (first | exact BorL.nil | (apply BorL.cons; (first | exact Bor.refl _ | exact Bor.le VLe.any | exact Bor.le VLe.empty | (apply bown; (repeat (first | exact List.mem_cons_self | apply List.mem_cons_of_mem)); (repeat (first | exact sget_here | (apply sget_next; (first | assumption | (apply Nq.en; assumption) | omega | (simp only [Nq] at *; omega))))); (first | focus (simp; done) | omega); (first | rfl | focus (simp; done) | focus (exact List.take_of_length_le (by first | (simp; done) | (simp; omega))))) | focus (apply Bor.le; apply VLe.of_eq; simp; done))))); done) | focus (apply Bor.le; apply VLe.of_eq; simp; done)))))
  · rintro x σ' ⟨s, t, g', _, rfl, rfl⟩
    refine ⟨NoF.ptr, ?_⟩
    simp only [List.mem_cons, List.not_mem_nil, or_false, forall_eq_or_imp, forall_eq]
    refine ⟨nofl_cons NoF.own (nofl_cons NoF.own nofl_nil), rep_noF, ?_⟩
    intro e he x hx
    obtain ⟨q, _, rfl⟩ := List.mem_map.1 he
    simp [encV] at hx
    rcases hx with rfl | rfl <;> exact .int
  rintro x σ' ⟨s, t, g, ⟨h1', h2', h3'⟩, rfl, rfl⟩ hf
  simp only [List.mem_cons, List.mem_singleton, List.not_mem_nil, or_false, forall_eq_or_imp, forall_eq, fresh_cons, fresh_nil, and_true, and_assoc] at hf; (repeat (rcases hf with ⟨_, hf⟩))
  have hkk : (if decide ((0 : Int) < (k : Int)) = true then k else 0) = k := by
    by_cases h0 : 0 < k
    · rw [decide_eq_true (by omega)]; rfl
    · rw [decide_eq_false (by omega)]; simp; omega
  rw [hkk, gOf_vals, List.length_map]
  have hbl : (List.replicate k (-1 : Int)).length = k := List.length_replicate
  rw [show List.replicate k [AV.int .i64 (-1)] = (List.replicate k (-1 : Int)).map encI by simp [encI]]
  obtain ⟨E0, hE0⟩ : ∃ E0, E0 = List.replicate k (-1 : Int) := ⟨_, rfl⟩
  rw [← hE0] at hbl ⊢
  (apply rs_sto; (first | (simp (disch := (first | (simp only [List.mem_cons, List.not_mem_nil, true_or, or_true, or_false]; done) | (focus (simp only [List.mem_cons, List.not_mem_nil, or_false, not_or]; (repeat' (first | apply And.intro | (first | assumption | (apply Nq.en; assumption) | omega | (simp only [Nq] at *; omega)))); done)) | omega)) only [↓put_σ, ↓mk_σ, AV.cells, sset, sdrop_none, sdrop_nil, sdrop_in, sdrop_out, List.nil_append, List.cons_append, List.append_nil, List.map_nil, List.map_cons, List.take_succ_cons, List.take_zero, List.drop_succ_cons, List.drop_zero, take_len', take_map_len, Nat.zero_add, Nat.add_zero, ofCell, ofConst]; rfl) | rfl))
  refine lo (lop_assign (E rfl)) rfl ?_
  apply le; (repeat (first | (apply KeepIs.take; rfl) | (apply KeepIs.skip; rfl) | exact KeepIs.nil))
  (repeat (first | refine cs ?_ | refine cb ?_ | refine ck ?_ | refine cx ?_ | refine cr ?_ | refine an ?_ | refine ae ?_ | refine ar ?_ | refine bn ?_ | refine bh ?_ | refine be rfl ?_ | refine br ?_ | refine ct rfl ?_ | refine cf rfl ?_))
  first | refine sw_seq_region ?_ | refine sw_region ?_
  refine lo (lop_assign (E rfl)) rfl ?_
  apply le; (repeat (first | (apply KeepIs.take; rfl) | (apply KeepIs.skip; rfl) | exact KeepIs.nil))
  (repeat (first | refine cs ?_ | refine cb ?_ | refine ck ?_ | refine cx ?_ | refine cr ?_ | refine an ?_ | refine ae ?_ | refine ar ?_ | refine bn ?_ | refine bh ?_ | refine be rfl ?_ | refine br ?_ | refine ct rfl ?_ | refine cf rfl ?_))
  refine lp (β := SB1) (fun b => ⟨[(0, .int .i64 k), (2, .ro 5 (ops.map encO) .any), (3, .int .i64 at_), (11, .own vq 0 b.V.length), (13, .own r80 0 k), (15, .ptr s 0), (16, .int .i64 b.i)], [(s, .box 78 [.own t 0 b.Tb.length, .own g 0 b.V.length]), (t, .arr 3 1 (b.Tb.map encI)), (g, .arr 39 2 (b.V.map encV)), (vq, .arr 39 2 (b.V.map encV)), (r80, .arr 3 1 (b.Tb.map encI))]⟩) (fun b => b.i ≤ 30 ∧ b.i ≤ ops.length ∧ b.Tb.length = k ∧ b.V.length ≤ 10) (fun b => 30 - b.i) ⟨0, E0, V⟩ ?_ ⟨Nat.zero_le _, Nat.zero_le _, hbl, by show V.length ≤ 10; omega⟩ ?_
  · rw [← hbl]
    (refine sgo_st ?_ ?_ <;> (repeat (first | exact FrLe.nil | (apply FrLe.cons; rfl; first | exact VLe.refl _ | exact VLe.any | exact VLe.empty | exact VLe.of_eq (by simp) | exact VLe.of_eq (by congr 1; omega)) | exact StLe.nil | (apply StLe.cons; (repeat (first | exact List.mem_cons_self | apply List.mem_cons_of_mem)); first | rfl | focus (congr 1; done) | focus (simp; done) | (simp; rfl)))))
  rintro ⟨i, Tb, V⟩ ⟨hi, hil, hE, hV⟩
  simp only at hi hil hE hV ⊢
  (repeat (first | refine cs ?_ | refine cb ?_ | refine ck ?_ | refine cx ?_ | refine cr ?_ | refine an ?_ | refine ae ?_ | refine ar ?_ | refine bn ?_ | refine bh ?_ | refine be rfl ?_ | refine br ?_ | refine ct rfl ?_ | refine cf rfl ?_))
  first | refine sw_seq_region ?_ | refine sw_region ?_
  refine lo (lop_move (E rfl)) rfl ?_
  refine lo (lop_move (E rfl)) rfl ?_
  first | refine lo (lop_len_map (E rfl)) rfl ?_ | refine lo (lop_len_ro (E rfl)) rfl ?_ | refine lo (lop_len_own (E rfl)) rfl ?_
  refine lo (lop_lss (E rfl) (E rfl)) rfl ?_
  refine lo (lop_move (E rfl)) rfl ?_
  first | refine ln rfl rfl rfl rfl ?_ | refine lg rfl rfl (lop_move (E rfl)) rfl ?_
  first | refine ln rfl rfl rfl rfl ?_ | refine lg rfl rfl (lop_lss (W rfl id) (E rfl)) rfl ?_
  first | refine lo (lop_pick_t (E rfl) (W rfl (by simp))) rfl ?_ | refine lo (lop_pick_f (E rfl) (E rfl)) rfl ?_ | refine lo (lop_pick (E rfl) (W rfl (by simp)) (E rfl)) rfl ?_
  apply le; (repeat (first | (apply KeepIs.take; rfl) | (apply KeepIs.skip; rfl) | exact KeepIs.nil))
  (repeat (first | refine cs ?_ | refine cb ?_ | refine ck ?_ | refine cx ?_ | refine cr ?_ | refine an ?_ | refine ae ?_ | refine ar ?_ | refine bn ?_ | refine bh ?_ | refine be rfl ?_ | refine br ?_ | refine ct rfl ?_ | refine cf rfl ?_))
  refine sw_cond rfl (fun h5 => ?_) (fun h5 => ?_)
  · have hlt : i < ops.length ∧ i < 30 := by simp at h5; omega
    obtain ⟨o, ho⟩ : ∃ o, ops[i]? = some o := ⟨_, List.getElem?_eq_getElem hlt.1⟩
    (repeat (first | refine cs ?_ | refine cb ?_ | refine ck ?_ | refine cx ?_ | refine cr ?_ | refine an ?_ | refine ae ?_ | refine ar ?_ | refine bn ?_ | refine bh ?_ | refine be rfl ?_ | refine br ?_ | refine ct rfl ?_ | refine cf rfl ?_))
    first | refine sw_seq_region ?_ | refine sw_region ?_
    refine lo (lop_move (E rfl)) rfl ?_
    refine lo (lop_move (E rfl)) rfl ?_
    first | refine lo (lop_index_ro (E rfl) (E rfl) (fun hc => by (simp only [List.length_map]; omega))) rfl ?_ | refine lo (lop_index_own0 (E rfl) (by repeat (first | exact sget_here | refine sget_next (by (first | assumption | (apply Nq.en; assumption) | omega | (simp only [Nq] at *; omega))) ?_)) (E rfl) (fun hc => by omega)) rfl ?_ | refine lo (lop_index_own (E rfl) (by repeat (first | exact sget_here | refine sget_next (by (first | assumption | (apply Nq.en; assumption) | omega | (simp only [Nq] at *; omega))) ?_)) (E rfl) (fun hc => by omega)) rfl ?_
    first | refine lo (lop_load_el_agg (E rfl) rfl (fun hc => by first | rfl | exact get_map (by assumption) | assumption | exact get_map (at_bang (by omega))) (fun _ => Nat.le_of_ble_eq_true rfl)) rfl ?_ | refine lo (lop_load_ow_agg (E rfl) rfl (by repeat (first | exact sget_here | refine sget_next (by (first | assumption | (apply Nq.en; assumption) | omega | (simp only [Nq] at *; omega))) ?_)) (fun hc => by first | rfl | exact get_map (by assumption) | assumption | exact get_map (at_bang (by omega))) (fun _ => Nat.le_of_ble_eq_true rfl)) rfl ?_
    apply al; rfl; (first | (simp only [Value.cells, AV.cells, List.map_cons, List.map_nil, ofConst, ofCell]; rfl) | rfl); intro r17 h17; simp only [fresh_cons, fresh_nil, and_true] at h17; (repeat (rcases h17 with ⟨_, h17⟩))
    apply stp; rfl; rfl; rfl; rfl; (repeat (first | (apply SPut.here; (repeat (first | exact Put.done | apply Put.put | apply Put.skip)); (repeat (first | exact Fresh.nil | (apply Fresh.cons; (first | assumption | (apply Nq.en; assumption) | omega | (simp only [Nq] at *; omega)))))) | (apply SPut.next; (first | assumption | (apply Nq.en; assumption) | omega | (simp only [Nq] at *; omega)))))
    apply le; (repeat (first | (apply KeepIs.take; rfl) | (apply KeepIs.skip; rfl) | exact KeepIs.nil))
    (repeat (first | refine cs ?_ | refine cb ?_ | refine ck ?_ | refine cx ?_ | refine cr ?_ | refine an ?_ | refine ae ?_ | refine ar ?_ | refine bn ?_ | refine bh ?_ | refine be rfl ?_ | refine br ?_ | refine ct rfl ?_ | refine cf rfl ?_))
    first | refine sw_seq_region ?_ | refine sw_region ?_
    refine lo (lop_field_ptr (E rfl) rfl (by decide)) rfl ?_
    refine lo (lop_load_ptr (E rfl) rfl (by repeat (first | exact sget_here | refine sget_next (by (first | assumption | (apply Nq.en; assumption) | omega | (simp only [Nq] at *; omega))) ?_)) (fun _ => rfl)) rfl ?_
    refine lo (lop_eql (E rfl) (E rfl)) rfl ?_
    apply le; (repeat (first | (apply KeepIs.take; rfl) | (apply KeepIs.skip; rfl) | exact KeepIs.nil))
    (repeat (first | refine cs ?_ | refine cb ?_ | refine ck ?_ | refine cx ?_ | refine cr ?_ | refine an ?_ | refine ae ?_ | refine ar ?_ | refine bn ?_ | refine bh ?_ | refine be rfl ?_ | refine br ?_ | refine ct rfl ?_ | refine cf rfl ?_))
    refine sw_cond rfl (fun h6 => ?_) (fun h6 => ?_)
    · (repeat (first | refine cs ?_ | refine cb ?_ | refine ck ?_ | refine cx ?_ | refine cr ?_ | refine an ?_ | refine ae ?_ | refine ar ?_ | refine bn ?_ | refine bh ?_ | refine be rfl ?_ | refine br ?_ | refine ct rfl ?_ | refine cf rfl ?_))
      first | refine sw_seq_region ?_ | refine sw_region ?_
      refine lo (lop_assign (E rfl)) rfl ?_
      apply le; (repeat (first | (apply KeepIs.take; rfl) | (apply KeepIs.skip; rfl) | exact KeepIs.nil))
      (repeat (first | refine cs ?_ | refine cb ?_ | refine ck ?_ | refine cx ?_ | refine cr ?_ | refine an ?_ | refine ae ?_ | refine ar ?_ | refine bn ?_ | refine bh ?_ | refine be rfl ?_ | refine br ?_ | refine ct rfl ?_ | refine cf rfl ?_))
      first | refine sw_seq_region ?_ | refine sw_region ?_
      refine lo (lop_assign (E rfl)) rfl ?_
      apply le; (repeat (first | (apply KeepIs.take; rfl) | (apply KeepIs.skip; rfl) | exact KeepIs.nil))
      (repeat (first | refine cs ?_ | refine cb ?_ | refine ck ?_ | refine cx ?_ | refine cr ?_ | refine an ?_ | refine ae ?_ | refine ar ?_ | refine bn ?_ | refine bh ?_ | refine be rfl ?_ | refine br ?_ | refine ct rfl ?_ | refine cf rfl ?_))
      refine sw_virt (ks := [0, 1, 2, 3, 8, 9, 10, 11, 12, 13, 14, 15, 16, 17, 18, 19, 20, 21, 22, 23, 24, 25, 26, 27, 28, 30, 32, 35, 41, 54, 61, 82, 83, 84, 99, 108, 117, 155, 156, 205, 213, 214, 234, 238, 278]) 18 3 1 (by decide) rfl (by decide) fun q hq => ?_
      simp only [fresh_cons, fresh_nil, and_true] at hq; (repeat (rcases hq with ⟨_, hq⟩))
      obtain ⟨F, hF⟩ : ∃ F : List Int, F = o.2.2.1.map wrapK := ⟨_, rfl⟩
      refine lp (β := Nat × Nat) (fun b => ⟨[(0, .int .i64 k), (2, .ro 5 (ops.map encO) .any), (3, .int .i64 at_), (11, .own vq 0 V.length), (13, .own r80 0 k), (15, .ptr s 0), (16, .int .i64 i), (17, .ptr r17 0), (18, .own b.1 0 b.2), (19, .int .i64 b.2)], [(b.1, .arr 3 1 ((F.take b.2).map encI)), (r17, .box 45 [.int .i64 o.1, .int .i64 o.2.1, .ro 1 (o.2.2.1.map encI) .any, .int .i64 o.2.2.2.1, .int .i64 o.2.2.2.2]), (s, .box 78 [.own t 0 Tb.length, .own g 0 V.length]), (t, .arr 3 1 (Tb.map encI)), (g, .arr 39 2 (V.map encV)), (vq, .arr 39 2 (V.map encV)), (r80, .arr 3 1 (Tb.map encI))]⟩) (fun b => b.2 ≤ 20 ∧ b.2 ≤ F.length ∧ Nq b.1 r17 ∧ Nq b.1 s ∧ Nq b.1 t ∧ Nq b.1 g ∧ Nq b.1 vq ∧ Nq b.1 r80) (fun b => 20 - b.2) (q, 0) ?_ ⟨Nat.zero_le _, Nat.zero_le _, by show Nq q r17; (first | assumption | (apply Nq.en; assumption) | omega | (simp only [Nq] at *; omega)), by show Nq q s; (first | assumption | (apply Nq.en; assumption) | omega | (simp only [Nq] at *; omega)), by show Nq q t; (first | assumption | (apply Nq.en; assumption) | omega | (simp only [Nq] at *; omega)), by show Nq q g; (first | assumption | (apply Nq.en; assumption) | omega | (simp only [Nq] at *; omega)), by show Nq q vq; (first | assumption | (apply Nq.en; assumption) | omega | (simp only [Nq] at *; omega)), by show Nq q r80; (first | assumption | (apply Nq.en; assumption) | omega | (simp only [Nq] at *; omega))⟩ ?_
      · (refine sgo_st ?_ ?_ <;> (repeat (first | exact FrLe.nil | (apply FrLe.cons; rfl; first | exact VLe.refl _ | exact VLe.any | exact VLe.empty | exact VLe.of_eq (by simp) | exact VLe.of_eq (by congr 1; omega)) | exact StLe.nil | (apply StLe.cons; (repeat (first | exact List.mem_cons_self | apply List.mem_cons_of_mem)); first | rfl | focus (congr 1; done) | focus (simp; done) | (simp; rfl)))))
      rintro ⟨f, j⟩ ⟨hj, hjl, hn4, hn5, hn6, hn7, hn8, hn9⟩
      simp only at hj hjl hn4 hn5 hn6 hn7 hn8 hn9 ⊢
      (repeat (first | refine cs ?_ | refine cb ?_ | refine ck ?_ | refine cx ?_ | refine cr ?_ | refine an ?_ | refine ae ?_ | refine ar ?_ | refine bn ?_ | refine bh ?_ | refine be rfl ?_ | refine br ?_ | refine ct rfl ?_ | refine cf rfl ?_))
      first | refine sw_seq_region ?_ | refine sw_region ?_
      refine lo (lop_move (E rfl)) rfl ?_
      refine lo (lop_field_ptr (E rfl) rfl (by decide)) rfl ?_
      refine lo (lop_load_ptr (E rfl) rfl (by repeat (first | exact sget_here | refine sget_next (by (first | assumption | (apply Nq.en; assumption) | omega | (simp only [Nq] at *; omega))) ?_)) (fun _ => rfl)) rfl ?_
      first | refine lo (lop_len_map (E rfl)) rfl ?_ | refine lo (lop_len_ro (E rfl)) rfl ?_ | refine lo (lop_len_own (E rfl)) rfl ?_
      refine lo (lop_lss (E rfl) (E rfl)) rfl ?_
      refine lo (lop_move (E rfl)) rfl ?_
      first | refine ln rfl rfl rfl rfl ?_ | refine lg rfl rfl (lop_move (E rfl)) rfl ?_
      first | refine ln rfl rfl rfl rfl ?_ | refine lg rfl rfl (lop_lss (W rfl id) (E rfl)) rfl ?_
      first | refine lo (lop_pick_t (E rfl) (W rfl (by simp))) rfl ?_ | refine lo (lop_pick_f (E rfl) (E rfl)) rfl ?_ | refine lo (lop_pick (E rfl) (W rfl (by simp)) (E rfl)) rfl ?_
      apply le; (repeat (first | (apply KeepIs.take; rfl) | (apply KeepIs.skip; rfl) | exact KeepIs.nil))
      (repeat (first | refine cs ?_ | refine cb ?_ | refine ck ?_ | refine cx ?_ | refine cr ?_ | refine an ?_ | refine ae ?_ | refine ar ?_ | refine bn ?_ | refine bh ?_ | refine be rfl ?_ | refine br ?_ | refine ct rfl ?_ | refine cf rfl ?_))
      refine sw_cond rfl (fun h7 => ?_) (fun h7 => ?_)
      · have hlt2 : j < o.2.2.1.length ∧ j < 20 := by simp at h7; omega
        obtain ⟨x, hx⟩ : ∃ x, o.2.2.1[j]? = some x := ⟨_, List.getElem?_eq_getElem hlt2.1⟩
        have hFx : F[j]? = some (wrapK x) := by rw [hF, List.getElem?_map, hx]; rfl
        have hw := wrapK_bd x
        (repeat (first | refine cs ?_ | refine cb ?_ | refine ck ?_ | refine cx ?_ | refine cr ?_ | refine an ?_ | refine ae ?_ | refine ar ?_ | refine bn ?_ | refine bh ?_ | refine be rfl ?_ | refine br ?_ | refine ct rfl ?_ | refine cf rfl ?_))
        first | refine sw_seq_region ?_ | refine sw_region ?_
        refine lo (lop_move (E rfl)) rfl ?_
        refine lo (lop_field_ptr (E rfl) rfl (by decide)) rfl ?_
        refine lo (lop_load_ptr (E rfl) rfl (by repeat (first | exact sget_here | refine sget_next (by (first | assumption | (apply Nq.en; assumption) | omega | (simp only [Nq] at *; omega))) ?_)) (fun _ => rfl)) rfl ?_
        refine lo (lop_move (E rfl)) rfl ?_
        first | refine lo (lop_index_ro (E rfl) (E rfl) (fun hc => by (simp only [List.length_map]; omega))) rfl ?_ | refine lo (lop_index_own0 (E rfl) (by repeat (first | exact sget_here | refine sget_next (by (first | assumption | (apply Nq.en; assumption) | omega | (simp only [Nq] at *; omega))) ?_)) (E rfl) (fun hc => by omega)) rfl ?_ | refine lo (lop_index_own (E rfl) (by repeat (first | exact sget_here | refine sget_next (by (first | assumption | (apply Nq.en; assumption) | omega | (simp only [Nq] at *; omega))) ?_)) (E rfl) (fun hc => by omega)) rfl ?_
        first | refine lo (lop_load_el (E rfl) rfl (fun hc => by first | rfl | exact get_map (by assumption) | assumption | exact get_map (at_bang (by omega))) (fun _ => rfl)) rfl ?_ | refine lo (lop_load_ow (E rfl) rfl (by repeat (first | exact sget_here | refine sget_next (by (first | assumption | (apply Nq.en; assumption) | omega | (simp only [Nq] at *; omega))) ?_)) (fun hc => by first | rfl | exact get_map (by assumption) | assumption | exact get_map (at_bang (by omega))) (fun _ => rfl)) rfl ?_
        refine lo (lop_rem (E rfl) (E rfl) (fun _ => by first | decide | omega)) rfl ?_
        first | refine lo (lop_add64 (E rfl) (E rfl) (by omega) (by omega)) rfl ?_ | refine lo (lop_add (E rfl) (E rfl)) rfl ?_
        refine lo (lop_rem (E rfl) (E rfl) (fun _ => by first | decide | omega)) rfl ?_
        apply bs; (repeat (first | exact AEvs.nil | (apply AEvs.cons; rfl))); rfl; rfl; rfl; rfl; (first | (simp only [Value.cells, AV.cells, List.map_cons, List.map_nil, ofConst, ofCell]; rfl) | rfl); rfl; intro r129 h129; simp only [fresh_cons, fresh_nil, and_true] at h129; (repeat (rcases h129 with ⟨_, h129⟩))
        apply ap (es' := (F.take (j + 1)).map encI) (len' := j + 1); rfl; rfl; (repeat (first | exact sget_here | (apply sget_next; (first | assumption | (apply Nq.en; assumption) | omega | (simp only [Nq] at *; omega)))))
        · simp; omega
        · exact .inr (.inr ⟨_, _, _, _, _, rfl, (by repeat (first | exact sget_here | refine sget_next (by (first | assumption | (apply Nq.en; assumption) | omega | (simp only [Nq] at *; omega))) ?_)), by simp, rfl⟩)
        · rw [take_snoc hFx]; simp [encI, wrapK]
        · simp
        · simp [maxLen]; omega
        · omega
        · rfl
        intro r130 h130; simp (disch := (first | (simp only [List.mem_cons, List.not_mem_nil, true_or, or_true, or_false]; done) | (focus (simp only [List.mem_cons, List.not_mem_nil, or_false, not_or]; (repeat' (first | apply And.intro | (first | assumption | (apply Nq.en; assumption) | omega | (simp only [Nq] at *; omega)))); done)) | omega)) only [fresh_cons, fresh_nil, and_true, sdrop_none, sdrop_nil, sdrop_in, sdrop_out] at h130; (repeat (rcases h130 with ⟨_, h130⟩)); apply Exists.intro; apply And.intro; (repeat (first | (apply SSet.here; (repeat (first | exact Fresh.nil | (apply Fresh.cons; (first | assumption | (apply Nq.en; assumption) | omega | (simp only [Nq] at *; omega)))))) | (apply SSet.next; (first | assumption | (apply Nq.en; assumption) | omega | (simp only [Nq] at *; omega)))))
        refine lo (lop_assign (E rfl)) rfl ?_
        apply le; (repeat (first | (apply KeepIs.take; rfl) | (apply KeepIs.skip; rfl) | exact KeepIs.nil))
        (repeat (first | refine cs ?_ | refine cb ?_ | refine ck ?_ | refine cx ?_ | refine cr ?_ | refine an ?_ | refine ae ?_ | refine ar ?_ | refine bn ?_ | refine bh ?_ | refine be rfl ?_ | refine br ?_ | refine ct rfl ?_ | refine cf rfl ?_))
        first | refine sw_seq_region ?_ | refine sw_region ?_
        refine lo (lop_move (E rfl)) rfl ?_
        first | refine lo (lop_add64 (E rfl) (E rfl) (by omega) (by omega)) rfl ?_ | refine lo (lop_add (E rfl) (E rfl)) rfl ?_
        refine lo (lop_assign (E rfl)) rfl ?_
        apply le; (repeat (first | (apply KeepIs.take; rfl) | (apply KeepIs.skip; rfl) | exact KeepIs.nil))
        (repeat (first | refine cs ?_ | refine cb ?_ | refine ck ?_ | refine cx ?_ | refine cr ?_ | refine an ?_ | refine ae ?_ | refine ar ?_ | refine bn ?_ | refine bh ?_ | refine be rfl ?_ | refine br ?_ | refine ct rfl ?_ | refine cf rfl ?_))
        refine ⟨(r130, j + 1), ⟨by show j + 1 ≤ 20; omega, by show j + 1 ≤ F.length; have := (List.getElem?_eq_some_iff.1 hFx).1; omega, by show Nq r130 r17; (first | assumption | (apply Nq.en; assumption) | omega | (simp only [Nq] at *; omega)), by show Nq r130 s; (first | assumption | (apply Nq.en; assumption) | omega | (simp only [Nq] at *; omega)), by show Nq r130 t; (first | assumption | (apply Nq.en; assumption) | omega | (simp only [Nq] at *; omega)), by show Nq r130 g; (first | assumption | (apply Nq.en; assumption) | omega | (simp only [Nq] at *; omega)), by show Nq r130 vq; (first | assumption | (apply Nq.en; assumption) | omega | (simp only [Nq] at *; omega)), by show Nq r130 r80; (first | assumption | (apply Nq.en; assumption) | omega | (simp only [Nq] at *; omega))⟩, by show 20 - (j + 1) < 20 - j; omega, ?_⟩
        (refine sgo_st ?_ ?_ <;> (repeat (first | exact FrLe.nil | (apply FrLe.cons; rfl; first | exact VLe.refl _ | exact VLe.any | exact VLe.empty | exact VLe.of_eq (by simp) | exact VLe.of_eq (by congr 1; omega)) | exact StLe.nil | (apply StLe.cons; (repeat (first | exact List.mem_cons_self | apply List.mem_cons_of_mem)); first | rfl | focus (congr 1; done) | focus (simp; done) | (simp; rfl)))))
      have hl1 : (F.take j).length = j := by simp; omega
      obtain ⟨F1, hF1⟩ : ∃ F1, F1 = F.take j := ⟨_, rfl⟩
      rw [← hF1] at hl1 ⊢
      subst hl1
      apply fzs (i := 18) (es' := F1.map encI); rfl; (repeat (first | (apply SDel.here; (repeat (first | exact Fresh.nil | (apply Fresh.cons; (first | assumption | (apply Nq.en; assumption) | omega | (simp only [Nq] at *; omega)))))) | (apply SDel.next; (first | assumption | (apply Nq.en; assumption) | omega | (simp only [Nq] at *; omega))))); (focus simp); exact List.take_of_length_le (by simp)
      (repeat (first | refine cs ?_ | refine cb ?_ | refine ck ?_ | refine cx ?_ | refine cr ?_ | refine an ?_ | refine ae ?_ | refine ar ?_ | refine bn ?_ | refine bh ?_ | refine be rfl ?_ | refine br ?_ | refine ct rfl ?_ | refine cf rfl ?_))
      first | refine sw_seq_region ?_ | refine sw_region ?_
      refine lo (lop_field_ptr (E rfl) rfl (by decide)) rfl ?_
      refine lo (lop_load_ptr (E rfl) rfl (by repeat (first | exact sget_here | refine sget_next (by (first | assumption | (apply Nq.en; assumption) | omega | (simp only [Nq] at *; omega))) ?_)) (fun _ => rfl)) rfl ?_
      refine lo (lop_geq (E rfl) (E rfl)) rfl ?_
      refine lo (lop_move (E rfl)) rfl ?_
      first | refine ln rfl rfl rfl rfl ?_ | refine lg rfl rfl (lop_field_ptr (E rfl) rfl (by decide)) rfl ?_
      first | refine ln rfl rfl rfl rfl ?_ | refine lg rfl rfl (lop_load_ptr (W rfl id) rfl (by repeat (first | exact sget_here | refine sget_next (by (first | assumption | (apply Nq.en; assumption) | omega | (simp only [Nq] at *; omega))) ?_)) (fun _ => rfl)) rfl ?_
      first | refine ln rfl rfl rfl rfl ?_ | refine lg rfl rfl (lop_move (E rfl)) rfl ?_
      first | refine ln rfl rfl rfl rfl ?_ | refine lg rfl rfl (lop_leq (W rfl id) (W rfl id)) rfl ?_
      first | refine lo (lop_pick_t (E rfl) (W rfl (by simp))) rfl ?_ | refine lo (lop_pick_f (E rfl) (E rfl)) rfl ?_ | refine lo (lop_pick (E rfl) (W rfl (by simp)) (E rfl)) rfl ?_
      refine lo (lop_move (E rfl)) rfl ?_
      first | refine ln rfl rfl rfl rfl ?_ | refine lg rfl rfl (lop_move (E rfl)) rfl ?_
      first | refine ln rfl rfl rfl rfl ?_ | refine lg rfl rfl (lop_len_map (W rfl id)) rfl ?_ | refine lg rfl rfl (lop_len_ro (W rfl id)) rfl ?_ | refine lg rfl rfl (lop_len_own (W rfl id)) rfl ?_
      first | refine ln rfl rfl rfl rfl ?_ | refine lg rfl rfl (lop_move (E rfl)) rfl ?_
      first | refine ln rfl rfl rfl rfl ?_ | refine lg rfl rfl (lop_field_ptr (E rfl) rfl (by decide)) rfl ?_
      first | refine ln rfl rfl rfl rfl ?_ | refine lg rfl rfl (lop_load_ptr (W rfl id) rfl (by repeat (first | exact sget_here | refine sget_next (by (first | assumption | (apply Nq.en; assumption) | omega | (simp only [Nq] at *; omega))) ?_)) (fun _ => rfl)) rfl ?_
      first | refine ln rfl rfl rfl rfl ?_ | refine lg rfl rfl (lop_sub64 (W rfl id) (W rfl id) (by omega) (by omega)) rfl ?_ | refine lg rfl rfl (lop_sub64c (W rfl id) (W rfl id) (fun hc => by simp at hc <;> omega)) rfl ?_ | refine lg rfl rfl (lop_sub (W rfl id) (W rfl id)) rfl ?_
      first | refine ln rfl rfl rfl rfl ?_ | refine lg rfl rfl (lop_leq (W rfl id) (W rfl id)) rfl ?_
      first | refine lo (lop_pick_t (E rfl) (W rfl (by simp))) rfl ?_ | refine lo (lop_pick_f (E rfl) (E rfl)) rfl ?_ | refine lo (lop_pick (E rfl) (W rfl (by simp)) (E rfl)) rfl ?_
      refine lo (lop_assign (E rfl)) rfl ?_
      apply le; (repeat (first | (apply KeepIs.take; rfl) | (apply KeepIs.skip; rfl) | exact KeepIs.nil))
      (repeat (first | refine cs ?_ | refine cb ?_ | refine ck ?_ | refine cx ?_ | refine cr ?_ | refine an ?_ | refine ae ?_ | refine ar ?_ | refine bn ?_ | refine bh ?_ | refine be rfl ?_ | refine br ?_ | refine ct rfl ?_ | refine cf rfl ?_))
      first | refine sw_seq_region ?_ | refine sw_region ?_
      refine lo (lop_move (E rfl)) rfl ?_
      refine lo (lop_field_ptr (E rfl) rfl (by decide)) rfl ?_
      refine lo (lop_load_ptr (E rfl) rfl (by repeat (first | exact sget_here | refine sget_next (by (first | assumption | (apply Nq.en; assumption) | omega | (simp only [Nq] at *; omega))) ?_)) (fun _ => rfl)) rfl ?_
      refine lo (lop_move (E rfl)) rfl ?_
      refine cw [(s, .box 78 [.own t 0 Tb.length, .own g 0 V.length]), (t, .arr 3 1 (Tb.map encI)), (g, .arr 39 2 (V.map encV))] Try.call15 (space_setElems h1' h2' h3' Tb V (by omega) o.2.1 F1 (by omega)) rfl ?_ ?_ ?_
      · (repeat (first | exact ArgsLe.nil | (apply ArgsLe.cons; rfl; first | exact VLe.refl _ | exact VLe.when rfl | exact VLe.any | exact VLe.empty | exact VLe.of_eq (by simp))))
      · (first | exact no_mem | (apply StLe.mem; (repeat (first | exact StLe.nil | (apply StLe.cons; (repeat (first | exact List.mem_cons_self | apply List.mem_cons_of_mem)); first | rfl | focus (congr 1; done) | focus (simp; done) | (simp; rfl))))))
      rintro x σ' ⟨rfl, rfl⟩ -
      (apply rs_sto; (first | (simp (disch := (first | (simp only [List.mem_cons, List.not_mem_nil, true_or, or_true, or_false]; done) | (focus (simp only [List.mem_cons, List.not_mem_nil, or_false, not_or]; (repeat' (first | apply And.intro | (first | assumption | (apply Nq.en; assumption) | omega | (simp only [Nq] at *; omega)))); done)) | omega)) only [↓put_σ, ↓mk_σ, AV.cells, sset, sdrop_none, sdrop_nil, sdrop_in, sdrop_out, List.nil_append, List.cons_append, List.append_nil, List.map_nil, List.map_cons, List.take_succ_cons, List.take_zero, List.drop_succ_cons, List.drop_zero, take_len', take_map_len, Nat.zero_add, Nat.add_zero, ofCell, ofConst]; rfl) | rfl))
      have hEx : (if (if decide (0 ≤ o.2.1) = true then decide (o.2.1 ≤ (k : Int)) else false) = true then decide ((F1.length : Int) ≤ (k : Int) - o.2.1) else false) = setB Tb o.2.1 F1.length := by
        rw [Bool.eq_iff_iff]
        simp [setB]
        omega
      rw [hEx]
      refine lo (lop_move (E rfl)) rfl ?_
      refine lo (lop_bneq (E rfl) (E rfl)) rfl ?_
      apply le; (repeat (first | (apply KeepIs.take; rfl) | (apply KeepIs.skip; rfl) | exact KeepIs.nil))
      (repeat (first | refine cs ?_ | refine cb ?_ | refine ck ?_ | refine cx ?_ | refine cr ?_ | refine an ?_ | refine ae ?_ | refine ar ?_ | refine bn ?_ | refine bh ?_ | refine be rfl ?_ | refine br ?_ | refine ct rfl ?_ | refine cf rfl ?_))
      refine sw_cond rfl (fun h8 => ?_) (fun _ => ?_)
      · simp at h8
      (repeat (first | refine cs ?_ | refine cb ?_ | refine ck ?_ | refine cx ?_ | refine cr ?_ | refine an ?_ | refine ae ?_ | refine ar ?_ | refine bn ?_ | refine bh ?_ | refine be rfl ?_ | refine br ?_ | refine ct rfl ?_ | refine cf rfl ?_))
      first | refine sw_seq_region ?_ | refine sw_region ?_
      refine lo (lop_move (E rfl)) rfl ?_
      apply le; (repeat (first | (apply KeepIs.take; rfl) | (apply KeepIs.skip; rfl) | exact KeepIs.nil))
      (repeat (first | refine cs ?_ | refine cb ?_ | refine ck ?_ | refine cx ?_ | refine cr ?_ | refine an ?_ | refine ae ?_ | refine ar ?_ | refine bn ?_ | refine bh ?_ | refine be rfl ?_ | refine br ?_ | refine ct rfl ?_ | refine cf rfl ?_))
      refine sw_cond rfl (fun h9 => ?_) (fun h9 => ?_)
      · have h10 : 0 ≤ o.2.1 ∧ o.2.1 + F1.length ≤ Tb.length := by simpa [setB] using h9
        (repeat (first | refine cs ?_ | refine cb ?_ | refine ck ?_ | refine cx ?_ | refine cr ?_ | refine an ?_ | refine ae ?_ | refine ar ?_ | refine bn ?_ | refine bh ?_ | refine be rfl ?_ | refine br ?_ | refine ct rfl ?_ | refine cf rfl ?_))
        first | refine sw_seq_region ?_ | refine sw_region ?_
        refine lo (lop_move (E rfl)) rfl ?_
        refine lo (lop_field_ptr (E rfl) rfl (by decide)) rfl ?_
        refine lo (lop_load_ptr (E rfl) rfl (by repeat (first | exact sget_here | refine sget_next (by (first | assumption | (apply Nq.en; assumption) | omega | (simp only [Nq] at *; omega))) ?_)) (fun _ => rfl)) rfl ?_
        first | refine lo (lop_slice_ro (E rfl) (OB.some (E rfl) (fun _ => by first | rfl | exact (Int.toNat_of_nonneg (by omega)).symm)) OB.none (fun _ => by first | (simp only [List.length_map]; omega) | omega)) rfl ?_ | refine lo (lop_slice_own (E rfl) (by repeat (first | exact sget_here | refine sget_next (by (first | assumption | (apply Nq.en; assumption) | omega | (simp only [Nq] at *; omega))) ?_)) (OB.some (E rfl) (fun _ => by first | rfl | exact (Int.toNat_of_nonneg (by omega)).symm)) OB.none (fun _ => by first | (simp only [List.length_map]; omega) | omega)) rfl ?_
        refine lo (lop_move (E rfl)) rfl ?_
        apply cp (m := F1.length) (es' := (setT Tb o.2.1 F1).map encI); rfl; (repeat (first | (apply SSet.here; (repeat (first | exact Fresh.nil | (apply Fresh.cons; (first | assumption | (apply Nq.en; assumption) | omega | (simp only [Nq] at *; omega)))))) | (apply SSet.next; (first | assumption | (apply Nq.en; assumption) | omega | (simp only [Nq] at *; omega)))))
        · simp; omega
        · exact .inl ⟨_, rfl⟩
        · simp; omega
        · simp [setT, h9, List.map_take, List.map_drop, take_map_len]
        · rfl
        apply le; (repeat (first | (apply KeepIs.take; rfl) | (apply KeepIs.skip; rfl) | exact KeepIs.nil))
        (repeat (first | refine cs ?_ | refine cb ?_ | refine ck ?_ | refine cx ?_ | refine cr ?_ | refine an ?_ | refine ae ?_ | refine ar ?_ | refine bn ?_ | refine bh ?_ | refine be rfl ?_ | refine br ?_ | refine ct rfl ?_ | refine cf rfl ?_))
        first | refine sw_seq_region ?_ | refine sw_region ?_
        refine lo (lop_move (E rfl)) rfl ?_
        first | refine lo (lop_add64 (E rfl) (E rfl) (by omega) (by omega)) rfl ?_ | refine lo (lop_add (E rfl) (E rfl)) rfl ?_
        refine lo (lop_assign (E rfl)) rfl ?_
        apply le; (repeat (first | (apply KeepIs.take; rfl) | (apply KeepIs.skip; rfl) | exact KeepIs.nil))
        (repeat (first | refine cs ?_ | refine cb ?_ | refine ck ?_ | refine cx ?_ | refine cr ?_ | refine an ?_ | refine ae ?_ | refine ar ?_ | refine bn ?_ | refine bh ?_ | refine be rfl ?_ | refine br ?_ | refine ct rfl ?_ | refine cf rfl ?_))
        refine ⟨⟨i + 1, setT Tb o.2.1 F1, V⟩, ⟨by show i + 1 ≤ 30; omega, by show i + 1 ≤ ops.length; omega, by show (setT Tb o.2.1 F1).length = k; rw [setT_len]; exact hE, hV⟩, by show 30 - (i + 1) < 30 - i; omega, ?_⟩
        (refine sgo_st ?_ ?_ <;> (repeat (first | exact FrLe.nil | (apply FrLe.cons; rfl; first | exact VLe.refl _ | exact VLe.any | exact VLe.empty | exact VLe.of_eq (by simp) | exact VLe.of_eq (by congr 1; omega)) | exact StLe.nil | (apply StLe.cons; (repeat (first | exact List.mem_cons_self | apply List.mem_cons_of_mem)); first | rfl | focus (congr 1; done) | focus (simp; done) | (simp; rfl)))))
      · rw [show setT Tb o.2.1 F1 = Tb by simp [setT, h9]]
        (repeat (first | refine cs ?_ | refine cb ?_ | refine ck ?_ | refine cx ?_ | refine cr ?_ | refine an ?_ | refine ae ?_ | refine ar ?_ | refine bn ?_ | refine bh ?_ | refine be rfl ?_ | refine br ?_ | refine ct rfl ?_ | refine cf rfl ?_))
        first | refine sw_seq_region ?_ | refine sw_region ?_
        refine lo (lop_move (E rfl)) rfl ?_
        first | refine lo (lop_add64 (E rfl) (E rfl) (by omega) (by omega)) rfl ?_ | refine lo (lop_add (E rfl) (E rfl)) rfl ?_
        refine lo (lop_assign (E rfl)) rfl ?_
        apply le; (repeat (first | (apply KeepIs.take; rfl) | (apply KeepIs.skip; rfl) | exact KeepIs.nil))
        (repeat (first | refine cs ?_ | refine cb ?_ | refine ck ?_ | refine cx ?_ | refine cr ?_ | refine an ?_ | refine ae ?_ | refine ar ?_ | refine bn ?_ | refine bh ?_ | refine be rfl ?_ | refine br ?_ | refine ct rfl ?_ | refine cf rfl ?_))
        refine ⟨⟨i + 1, Tb, V⟩, ⟨by show i + 1 ≤ 30; omega, by show i + 1 ≤ ops.length; omega, hE, hV⟩, by show 30 - (i + 1) < 30 - i; omega, ?_⟩
        (refine sgo_st ?_ ?_ <;> (repeat (first | exact FrLe.nil | (apply FrLe.cons; rfl; first | exact VLe.refl _ | exact VLe.any | exact VLe.empty | exact VLe.of_eq (by simp) | exact VLe.of_eq (by congr 1; omega)) | exact StLe.nil | (apply StLe.cons; (repeat (first | exact List.mem_cons_self | apply List.mem_cons_of_mem)); first | rfl | focus (congr 1; done) | focus (simp; done) | (simp; rfl)))))
    · (repeat (first | refine cs ?_ | refine cb ?_ | refine ck ?_ | refine cx ?_ | refine cr ?_ | refine an ?_ | refine ae ?_ | refine ar ?_ | refine bn ?_ | refine bh ?_ | refine be rfl ?_ | refine br ?_ | refine ct rfl ?_ | refine cf rfl ?_))
      first | refine sw_seq_drawn [(0, true), (1, true), (2, true), (3, true), (4, true), (5, true), (6, true), (7, true), (8, true), (9, true), (10, true), (11, true), (12, true), (13, true), (14, true), (15, true), (16, true), (17, true), (18, true), (19, true), (20, true), (21, true), (22, true), (23, true), (24, true), (25, false), (26, true), (27, true)] mixed (by kernel_rfl) (by kernel_rfl) ?_ | refine sw_region_drawn [(0, true), (1, true), (2, true), (3, true), (4, true), (5, true), (6, true), (7, true), (8, true), (9, true), (10, true), (11, true), (12, true), (13, true), (14, true), (15, true), (16, true), (17, true), (18, true), (19, true), (20, true), (21, true), (22, true), (23, true), (24, true), (25, false), (26, true), (27, true)] mixed (by kernel_rfl) (by kernel_rfl) ?_
      refine dlo rfl (lop_field_ptr (E rfl) rfl (by decide)) rfl ?_
      refine dlo rfl (lop_load_ptr (E rfl) rfl (by repeat (first | exact sget_here | refine sget_next (by (first | assumption | (apply Nq.en; assumption) | omega | (simp only [Nq] at *; omega))) ?_)) (fun _ => rfl)) rfl ?_
      refine dlo rfl (lop_geq (E rfl) (E rfl)) rfl ?_
      refine dlo rfl (lop_move (E rfl)) rfl ?_
      first | refine dln rfl rfl rfl rfl rfl ?_ | refine dlg rfl rfl rfl (lop_field_ptr (E rfl) rfl (by decide)) rfl ?_
      first | refine dln rfl rfl rfl rfl rfl ?_ | refine dlg rfl rfl rfl (lop_load_ptr (W rfl id) rfl (by repeat (first | exact sget_here | refine sget_next (by (first | assumption | (apply Nq.en; assumption) | omega | (simp only [Nq] at *; omega))) ?_)) (fun _ => rfl)) rfl ?_
      first | refine dln rfl rfl rfl rfl rfl ?_ | refine dlg rfl rfl rfl (lop_move (E rfl)) rfl ?_
      first | refine dln rfl rfl rfl rfl rfl ?_ | refine dlg rfl rfl rfl (lop_len_map (W rfl id)) rfl ?_ | refine dlg rfl rfl rfl (lop_len_ro (W rfl id)) rfl ?_ | refine dlg rfl rfl rfl (lop_len_own (W rfl id)) rfl ?_
      first | refine dln rfl rfl rfl rfl rfl ?_ | refine dlg rfl rfl rfl (lop_lss (W rfl id) (W rfl id)) rfl ?_
      first | refine dlo rfl (lop_pick_t (E rfl) (W rfl (by simp))) rfl ?_ | refine dlo rfl (lop_pick_f (E rfl) (E rfl)) rfl ?_ | refine dlo rfl (lop_pick (E rfl) (W rfl (by simp)) (E rfl)) rfl ?_
      refine dlo rfl (lop_move (E rfl)) rfl ?_
      first | refine dln rfl rfl rfl rfl rfl ?_ | refine dlg rfl rfl rfl (lop_field_ptr (E rfl) rfl (by decide)) rfl ?_
      first | refine dln rfl rfl rfl rfl rfl ?_ | refine dlg rfl rfl rfl (lop_field_ptr (W rfl id) rfl (by decide)) rfl ?_
      first | refine dln rfl rfl rfl rfl rfl ?_ | refine dlg rfl rfl rfl (lop_load_ptr (W rfl id) rfl (by repeat (first | exact sget_here | refine sget_next (by (first | assumption | (apply Nq.en; assumption) | omega | (simp only [Nq] at *; omega))) ?_)) (fun _ => rfl)) rfl ?_
      first | refine dln rfl rfl rfl rfl rfl ?_ | refine dlg rfl rfl rfl (lop_move (E rfl)) rfl ?_
      first | refine dln rfl rfl rfl rfl rfl ?_ | refine dlg rfl rfl rfl (lop_field_ptr (E rfl) rfl (by decide)) rfl ?_
      first | refine dln rfl rfl rfl rfl rfl ?_ | refine dlg rfl rfl rfl (lop_load_ptr (W rfl id) rfl (by repeat (first | exact sget_here | refine sget_next (by (first | assumption | (apply Nq.en; assumption) | omega | (simp only [Nq] at *; omega))) ?_)) (fun _ => rfl)) rfl ?_
      first | refine dln rfl rfl rfl rfl rfl ?_ | refine dlg rfl rfl rfl (lop_index_ro (W rfl id) (W rfl id) (fun hc => by (try simp at hc) <;> (simp only [List.length_map]; omega))) rfl ?_ | refine dlg rfl rfl rfl (lop_index_own0 (W rfl id) (by repeat (first | exact sget_here | refine sget_next (by (first | assumption | (apply Nq.en; assumption) | omega | (simp only [Nq] at *; omega))) ?_)) (W rfl id) (fun hc => by (try simp at hc) <;> omega)) rfl ?_ | refine dlg rfl rfl rfl (lop_index_own (W rfl id) (by repeat (first | exact sget_here | refine sget_next (by (first | assumption | (apply Nq.en; assumption) | omega | (simp only [Nq] at *; omega))) ?_)) (W rfl id) (fun hc => by (try simp at hc) <;> omega)) rfl ?_
      first | refine dln rfl rfl rfl rfl rfl ?_ | refine dlg rfl rfl rfl (lop_field_el (W rfl id) rfl (by decide)) rfl ?_ | refine dlg rfl rfl rfl (lop_field_ow (W rfl id) rfl (by decide)) rfl ?_
      first | refine dln rfl rfl rfl rfl rfl ?_ | refine dlg rfl rfl rfl (lop_load_el (W rfl id) rfl (fun hc => by first | rfl | exact get_map (by assumption) | assumption | exact get_map (at_bang (by (try simp at hc) <;> omega))) (fun _ => rfl)) rfl ?_ | refine dlg rfl rfl rfl (lop_load_ow (W rfl id) rfl (by repeat (first | exact sget_here | refine sget_next (by (first | assumption | (apply Nq.en; assumption) | omega | (simp only [Nq] at *; omega))) ?_)) (fun hc => by first | rfl | exact get_map (by assumption) | assumption | exact get_map (at_bang (by (try simp at hc) <;> omega))) (fun _ => rfl)) rfl ?_
      first | refine dln rfl rfl rfl rfl rfl ?_ | refine dlg rfl rfl rfl (lop_eql (W rfl id) (W rfl id)) rfl ?_
      first | refine dlo rfl (lop_pick_t (E rfl) (W rfl (by simp))) rfl ?_ | refine dlo rfl (lop_pick_f (E rfl) (E rfl)) rfl ?_ | refine dlo rfl (lop_pick (E rfl) (W rfl (by simp)) (E rfl)) rfl ?_
      refine dlo rfl (lop_move (E rfl)) rfl ?_
      first | refine dln rfl rfl rfl rfl rfl ?_ | refine dlg rfl rfl rfl (lop_field_ptr (E rfl) rfl (by decide)) rfl ?_
      first | refine dln rfl rfl rfl rfl rfl ?_ | refine dlg rfl rfl rfl (lop_load_ptr_agg (W rfl id) rfl (by repeat (first | exact sget_here | refine sget_next (by (first | assumption | (apply Nq.en; assumption) | omega | (simp only [Nq] at *; omega))) ?_)) (fun _ => Nat.le_of_ble_eq_true rfl)) rfl ?_
      refine dpug [] rfl rfl rfl Try.call13 (fun _ => ref_may o.2.2.2.1 o.2.2.2.2) rfl (by repeat (first | exact ArgsIf.nil | refine ArgsIf.cons (by first | exact Ev.when rfl (by first | exact id | simp) | exact Ev.here rfl) (by first | exact Bor.refl _ | exact Bor.le VLe.any | exact Bor.le VLe.empty | exact Bor.own (by simp) (by repeat (first | exact sget_here | refine sget_next (by (first | assumption | (apply Nq.en; assumption) | omega | (simp only [Nq] at *; omega))) ?_)) (by simp) | exact Bor.le (VLe.of_eq (by simp))) ?_)) (by repeat (first | exact NoF.int | exact NoF.bool | exact NoF.nilp | exact NoF.nil | exact NoF.own | exact NoF.ptr | exact NoF.str | exact nofl_nil | apply NoF.tup | apply NoF.agg | apply nofl_cons)) ?_
      first | refine dlo rfl (lop_pick_t (E rfl) (by first | exact W rfl (by simp) | exact E rfl)) rfl ?_ | refine dlo rfl (lop_pick_f (E rfl) (E rfl)) rfl ?_ | refine dlo rfl (lop_pick (E rfl) (by first | exact W rfl (by simp) | exact E rfl) (E rfl)) rfl ?_
      refine dlo rfl (lop_assign (E rfl)) rfl ?_
      apply de; (repeat (first | (apply KeepIs.take; rfl) | (apply KeepIs.skip; rfl) | exact KeepIs.nil))
      (repeat (first | refine cs ?_ | refine cb ?_ | refine ck ?_ | refine cx ?_ | refine cr ?_ | refine an ?_ | refine ae ?_ | refine ar ?_ | refine bn ?_ | refine bh ?_ | refine be rfl ?_ | refine br ?_ | refine ct rfl ?_ | refine cf rfl ?_))
      first | refine sw_seq_region ?_ | refine sw_region ?_
      refine lo (lop_field_ptr (E rfl) rfl (by decide)) rfl ?_
      refine lo (lop_load_ptr (E rfl) rfl (by repeat (first | exact sget_here | refine sget_next (by (first | assumption | (apply Nq.en; assumption) | omega | (simp only [Nq] at *; omega))) ?_)) (fun _ => rfl)) rfl ?_
      refine lo (lop_geq (E rfl) (E rfl)) rfl ?_
      refine lo (lop_move (E rfl)) rfl ?_
      first | refine ln rfl rfl rfl rfl ?_ | refine lg rfl rfl (lop_field_ptr (E rfl) rfl (by decide)) rfl ?_
      first | refine ln rfl rfl rfl rfl ?_ | refine lg rfl rfl (lop_load_ptr (W rfl id) rfl (by repeat (first | exact sget_here | refine sget_next (by (first | assumption | (apply Nq.en; assumption) | omega | (simp only [Nq] at *; omega))) ?_)) (fun _ => rfl)) rfl ?_
      first | refine ln rfl rfl rfl rfl ?_ | refine lg rfl rfl (lop_move (E rfl)) rfl ?_
      first | refine ln rfl rfl rfl rfl ?_ | refine lg rfl rfl (lop_len_map (W rfl id)) rfl ?_ | refine lg rfl rfl (lop_len_ro (W rfl id)) rfl ?_ | refine lg rfl rfl (lop_len_own (W rfl id)) rfl ?_
      first | refine ln rfl rfl rfl rfl ?_ | refine lg rfl rfl (lop_lss (W rfl id) (W rfl id)) rfl ?_
      first | refine lo (lop_pick_t (E rfl) (W rfl (by simp))) rfl ?_ | refine lo (lop_pick_f (E rfl) (E rfl)) rfl ?_ | refine lo (lop_pick (E rfl) (W rfl (by simp)) (E rfl)) rfl ?_
      refine lo (lop_move (E rfl)) rfl ?_
      first | refine ln rfl rfl rfl rfl ?_ | refine lg rfl rfl (lop_field_ptr (E rfl) rfl (by decide)) rfl ?_
      first | refine ln rfl rfl rfl rfl ?_ | refine lg rfl rfl (lop_load_ptr_agg (W rfl id) rfl (by repeat (first | exact sget_here | refine sget_next (by (first | assumption | (apply Nq.en; assumption) | omega | (simp only [Nq] at *; omega))) ?_)) (fun _ => Nat.le_of_ble_eq_true rfl)) rfl ?_
      (first | refine pu [] Try.call13 (ref_may o.2.2.2.1 o.2.2.2.2) rfl (by repeat (first | exact ArgsIf.nil | refine ArgsIf.cons (by first | exact Ev.when rfl (by first | exact id | simp) | exact Ev.here rfl) (by first | exact Bor.refl _ | exact Bor.le VLe.any | exact Bor.le VLe.empty | exact Bor.own (by simp) (by repeat (first | exact sget_here | refine sget_next (by (first | assumption | (apply Nq.en; assumption) | omega | (simp only [Nq] at *; omega))) ?_)) (by simp) | exact Bor.le (VLe.of_eq (by simp))) ?_)) (by repeat (first | exact NoF.int | exact NoF.bool | exact NoF.nilp | exact NoF.nil | exact NoF.own | exact NoF.ptr | exact NoF.str | exact nofl_nil | apply NoF.tup | apply NoF.agg | apply nofl_cons)) ?_ | refine pug [] rfl rfl Try.call13 (fun _ => (ref_may o.2.2.2.1 o.2.2.2.2)) rfl (by repeat (first | exact ArgsIf.nil | refine ArgsIf.cons (by first | exact Ev.when rfl (by first | exact id | simp) | exact Ev.here rfl) (by first | exact Bor.refl _ | exact Bor.le VLe.any | exact Bor.le VLe.empty | exact Bor.own (by simp) (by repeat (first | exact sget_here | refine sget_next (by (first | assumption | (apply Nq.en; assumption) | omega | (simp only [Nq] at *; omega))) ?_)) (by simp) | exact Bor.le (VLe.of_eq (by simp))) ?_)) (by repeat (first | exact NoF.int | exact NoF.bool | exact NoF.nilp | exact NoF.nil | exact NoF.own | exact NoF.ptr | exact NoF.str | exact nofl_nil | apply NoF.tup | apply NoF.agg | apply nofl_cons)) ?_)
      first | refine ln rfl rfl rfl rfl ?_ | refine lg rfl rfl (lop_not (by first | exact W rfl id | exact E rfl)) rfl ?_
      first | refine lo (lop_pick_t (E rfl) (W rfl (by simp))) rfl ?_ | refine lo (lop_pick_f (E rfl) (E rfl)) rfl ?_ | refine lo (lop_pick (E rfl) (W rfl (by simp)) (E rfl)) rfl ?_
      apply le; (repeat (first | (apply KeepIs.take; rfl) | (apply KeepIs.skip; rfl) | exact KeepIs.nil))
      (repeat (first | refine cs ?_ | refine cb ?_ | refine ck ?_ | refine cx ?_ | refine cr ?_ | refine an ?_ | refine ae ?_ | refine ar ?_ | refine bn ?_ | refine bh ?_ | refine be rfl ?_ | refine br ?_ | refine ct rfl ?_ | refine cf rfl ?_))
      refine sw_cond rfl (fun h8 => ?_) (fun h8 => ?_)
      · (repeat (first | refine cs ?_ | refine cb ?_ | refine ck ?_ | refine cx ?_ | refine cr ?_ | refine an ?_ | refine ae ?_ | refine ar ?_ | refine bn ?_ | refine bh ?_ | refine be rfl ?_ | refine br ?_ | refine ct rfl ?_ | refine cf rfl ?_))
        first | refine sw_seq_region ?_ | refine sw_region ?_
        refine lo (lop_move (E rfl)) rfl ?_
        first | refine lo (lop_add64 (E rfl) (E rfl) (by omega) (by omega)) rfl ?_ | refine lo (lop_add (E rfl) (E rfl)) rfl ?_
        refine lo (lop_assign (E rfl)) rfl ?_
        apply le; (repeat (first | (apply KeepIs.take; rfl) | (apply KeepIs.skip; rfl) | exact KeepIs.nil))
        (repeat (first | refine cs ?_ | refine cb ?_ | refine ck ?_ | refine cx ?_ | refine cr ?_ | refine an ?_ | refine ae ?_ | refine ar ?_ | refine bn ?_ | refine bh ?_ | refine be rfl ?_ | refine br ?_ | refine ct rfl ?_ | refine cf rfl ?_))
        refine ⟨⟨i + 1, Tb, V⟩, ⟨by show i + 1 ≤ 30; omega, by show i + 1 ≤ ops.length; omega, hE, hV⟩, by show 30 - (i + 1) < 30 - i; omega, ?_⟩
        (refine sgo_st ?_ ?_ <;> (repeat (first | exact FrLe.nil | (apply FrLe.cons; rfl; first | exact VLe.refl _ | exact VLe.any | exact VLe.empty | exact VLe.of_eq (by simp) | exact VLe.of_eq (by congr 1; omega)) | exact StLe.nil | (apply StLe.cons; (repeat (first | exact List.mem_cons_self | apply List.mem_cons_of_mem)); first | rfl | focus (congr 1; done) | focus (simp; done) | (simp; rfl)))))
      (repeat (first | refine cs ?_ | refine cb ?_ | refine ck ?_ | refine cx ?_ | refine cr ?_ | refine an ?_ | refine ae ?_ | refine ar ?_ | refine bn ?_ | refine bh ?_ | refine be rfl ?_ | refine br ?_ | refine ct rfl ?_ | refine cf rfl ?_))
      first | refine sw_seq_region ?_ | refine sw_region ?_
      refine lo (lop_move (E rfl)) rfl ?_
      refine lo (lop_field_ptr (E rfl) rfl (by decide)) rfl ?_
      refine lo (lop_load_ptr (E rfl) rfl (by repeat (first | exact sget_here | refine sget_next (by (first | assumption | (apply Nq.en; assumption) | omega | (simp only [Nq] at *; omega))) ?_)) (fun _ => rfl)) rfl ?_
      refine lo (lop_field_ptr (E rfl) rfl (by decide)) rfl ?_
      refine lo (lop_load_ptr_agg (E rfl) rfl (by repeat (first | exact sget_here | refine sget_next (by (first | assumption | (apply Nq.en; assumption) | omega | (simp only [Nq] at *; omega))) ?_)) (fun _ => Nat.le_of_ble_eq_true rfl)) rfl ?_
      refine cw [(s, .box 78 [.own t 0 Tb.length, .own g 0 V.length]), (t, .arr 3 1 (Tb.map encI)), (g, .arr 39 2 (V.map encV))] Try.call16 (space_setGlobal h1' h2' h3' Tb V o.2.1 (o.2.2.2.1, o.2.2.2.2)) rfl ?_ ?_ ?_
      · (repeat (first | exact ArgsLe.nil | (apply ArgsLe.cons; rfl; first | exact VLe.refl _ | exact VLe.when rfl | exact VLe.any | exact VLe.empty | exact VLe.of_eq (by simp))))
      · (first | exact no_mem | (apply StLe.mem; (repeat (first | exact StLe.nil | (apply StLe.cons; (repeat (first | exact List.mem_cons_self | apply List.mem_cons_of_mem)); first | rfl | focus (congr 1; done) | focus (simp; done) | (simp; rfl))))))
      rintro x σ' ⟨rfl, rfl⟩ -
      (apply rs_sto; (first | (simp (disch := (first | (simp only [List.mem_cons, List.not_mem_nil, true_or, or_true, or_false]; done) | (focus (simp only [List.mem_cons, List.not_mem_nil, or_false, not_or]; (repeat' (first | apply And.intro | (first | assumption | (apply Nq.en; assumption) | omega | (simp only [Nq] at *; omega)))); done)) | omega)) only [↓put_σ, ↓mk_σ, AV.cells, sset, sdrop_none, sdrop_nil, sdrop_in, sdrop_out, List.nil_append, List.cons_append, List.append_nil, List.map_nil, List.map_cons, List.take_succ_cons, List.take_zero, List.drop_succ_cons, List.drop_zero, take_len', take_map_len, Nat.zero_add, Nat.add_zero, ofCell, ofConst]; rfl) | rfl))
      have hEx : (if (if (if decide (0 ≤ o.2.1) = true then decide (o.2.1 < (V.length : Int)) else false) = true then o.2.2.2.1 == V[o.2.1.toNat]!.1 else false) = true then mayB o.2.2.2.1 o.2.2.2.2 else false) = gsetB V o.2.1 (o.2.2.2.1, o.2.2.2.2) := by
        unfold gsetB globB
        by_cases h10 : 0 ≤ o.2.1
        · by_cases h11 : o.2.1 < V.length
          · have h13 : mayB o.2.2.2.1 o.2.2.2.2 = true := by simpa [h10, h11] using h8
            rw [h13, decide_eq_true h10, decide_eq_true h11]
            simp only [if_true, Bool.true_and]
            have h14 : (o.2.2.2.1 == V[o.2.1.toNat]!.1) = (V[o.2.1.toNat]!.1 == o.2.2.2.1) := Bool.beq_comm
            rw [h14]
            cases (V[o.2.1.toNat]!.1 == o.2.2.2.1) <;> rfl
          · simp [h11]
        · simp [h10]
      rw [hEx]
      refine lo (lop_move (E rfl)) rfl ?_
      refine lo (lop_bneq (E rfl) (E rfl)) rfl ?_
      apply le; (repeat (first | (apply KeepIs.take; rfl) | (apply KeepIs.skip; rfl) | exact KeepIs.nil))
      (repeat (first | refine cs ?_ | refine cb ?_ | refine ck ?_ | refine cx ?_ | refine cr ?_ | refine an ?_ | refine ae ?_ | refine ar ?_ | refine bn ?_ | refine bh ?_ | refine be rfl ?_ | refine br ?_ | refine ct rfl ?_ | refine cf rfl ?_))
      refine sw_cond rfl (fun h9 => ?_) (fun _ => ?_)
      · simp at h9
      (repeat (first | refine cs ?_ | refine cb ?_ | refine ck ?_ | refine cx ?_ | refine cr ?_ | refine an ?_ | refine ae ?_ | refine ar ?_ | refine bn ?_ | refine bh ?_ | refine be rfl ?_ | refine br ?_ | refine ct rfl ?_ | refine cf rfl ?_))
      first | refine sw_seq_region ?_ | refine sw_region ?_
      refine lo (lop_move (E rfl)) rfl ?_
      apply le; (repeat (first | (apply KeepIs.take; rfl) | (apply KeepIs.skip; rfl) | exact KeepIs.nil))
      (repeat (first | refine cs ?_ | refine cb ?_ | refine ck ?_ | refine cx ?_ | refine cr ?_ | refine an ?_ | refine ae ?_ | refine ar ?_ | refine bn ?_ | refine bh ?_ | refine be rfl ?_ | refine br ?_ | refine ct rfl ?_ | refine cf rfl ?_))
      refine sw_cond rfl (fun h9 => ?_) (fun h9 => ?_)
      · have h10 : 0 ≤ o.2.1 ∧ o.2.1 < V.length := by
          have := h9
          simp [gsetB, globB] at this
          omega
        rw [show gsetT V o.2.1 (o.2.2.2.1, o.2.2.2.2) = V.set o.2.1.toNat (o.2.2.2.1, o.2.2.2.2) by simp [gsetT, h9]]
        obtain ⟨z, hz⟩ : ∃ z, V[o.2.1.toNat]? = some z := ⟨_, List.getElem?_eq_getElem (by omega)⟩
        have hVl : (V.set o.2.1.toNat (o.2.2.2.1, o.2.2.2.2)).length = V.length := by simp
        (repeat (first | refine cs ?_ | refine cb ?_ | refine ck ?_ | refine cx ?_ | refine cr ?_ | refine an ?_ | refine ae ?_ | refine ar ?_ | refine bn ?_ | refine bh ?_ | refine be rfl ?_ | refine br ?_ | refine ct rfl ?_ | refine cf rfl ?_))
        first | refine sw_seq_region ?_ | refine sw_region ?_
        refine lo (lop_move (E rfl)) rfl ?_
        refine lo (lop_field_ptr (E rfl) rfl (by decide)) rfl ?_
        refine lo (lop_load_ptr (E rfl) rfl (by repeat (first | exact sget_here | refine sget_next (by (first | assumption | (apply Nq.en; assumption) | omega | (simp only [Nq] at *; omega))) ?_)) (fun _ => rfl)) rfl ?_
        refine lo (lop_field_ptr (E rfl) rfl (by decide)) rfl ?_
        refine lo (lop_load_ptr_agg (E rfl) rfl (by repeat (first | exact sget_here | refine sget_next (by (first | assumption | (apply Nq.en; assumption) | omega | (simp only [Nq] at *; omega))) ?_)) (fun _ => Nat.le_of_ble_eq_true rfl)) rfl ?_
        first | refine lo (lop_index_ro (E rfl) (E rfl) (fun hc => by (simp only [List.length_map]; omega))) rfl ?_ | refine lo (lop_index_own0 (E rfl) (by repeat (first | exact sget_here | refine sget_next (by (first | assumption | (apply Nq.en; assumption) | omega | (simp only [Nq] at *; omega))) ?_)) (E rfl) (fun hc => by omega)) rfl ?_ | refine lo (lop_index_own (E rfl) (by repeat (first | exact sget_here | refine sget_next (by (first | assumption | (apply Nq.en; assumption) | omega | (simp only [Nq] at *; omega))) ?_)) (E rfl) (fun hc => by omega)) rfl ?_
        apply sto; rfl; rfl; rfl; rfl; (repeat (first | (apply SSet.here; (repeat (first | exact Fresh.nil | (apply Fresh.cons; (first | assumption | (apply Nq.en; assumption) | omega | (simp only [Nq] at *; omega)))))) | (apply SSet.next; (first | assumption | (apply Nq.en; assumption) | omega | (simp only [Nq] at *; omega))))); (first | rfl | exact get_map (by assumption) | assumption); (repeat (first | exact Put.done | apply Put.put | apply Put.skip)); rfl
        apply le; (repeat (first | (apply KeepIs.take; rfl) | (apply KeepIs.skip; rfl) | exact KeepIs.nil))
        (repeat (first | refine cs ?_ | refine cb ?_ | refine ck ?_ | refine cx ?_ | refine cr ?_ | refine an ?_ | refine ae ?_ | refine ar ?_ | refine bn ?_ | refine bh ?_ | refine be rfl ?_ | refine br ?_ | refine ct rfl ?_ | refine cf rfl ?_))
        first | refine sw_seq_region ?_ | refine sw_region ?_
        refine lo (lop_move (E rfl)) rfl ?_
        first | refine lo (lop_add64 (E rfl) (E rfl) (by omega) (by omega)) rfl ?_ | refine lo (lop_add (E rfl) (E rfl)) rfl ?_
        refine lo (lop_assign (E rfl)) rfl ?_
        apply le; (repeat (first | (apply KeepIs.take; rfl) | (apply KeepIs.skip; rfl) | exact KeepIs.nil))
        (repeat (first | refine cs ?_ | refine cb ?_ | refine ck ?_ | refine cx ?_ | refine cr ?_ | refine an ?_ | refine ae ?_ | refine ar ?_ | refine bn ?_ | refine bh ?_ | refine be rfl ?_ | refine br ?_ | refine ct rfl ?_ | refine cf rfl ?_))
        refine ⟨⟨i + 1, Tb, V.set o.2.1.toNat (o.2.2.2.1, o.2.2.2.2)⟩, ⟨by show i + 1 ≤ 30; omega, by show i + 1 ≤ ops.length; omega, hE, by show (V.set o.2.1.toNat (o.2.2.2.1, o.2.2.2.2)).length ≤ 10; omega⟩, by show 30 - (i + 1) < 30 - i; omega, ?_⟩
        rw [set_encV]
        (refine sgo_st ?_ ?_ <;> (repeat (first | exact FrLe.nil | (apply FrLe.cons; rfl; first | exact VLe.refl _ | exact VLe.any | exact VLe.empty | exact VLe.of_eq (by simp) | exact VLe.of_eq (by congr 1; omega)) | exact StLe.nil | (apply StLe.cons; (repeat (first | exact List.mem_cons_self | apply List.mem_cons_of_mem)); first | rfl | focus (congr 1; done) | focus (simp; done) | (simp; rfl)))))
      · rw [show gsetT V o.2.1 (o.2.2.2.1, o.2.2.2.2) = V by simp [gsetT, h9]]
        (repeat (first | refine cs ?_ | refine cb ?_ | refine ck ?_ | refine cx ?_ | refine cr ?_ | refine an ?_ | refine ae ?_ | refine ar ?_ | refine bn ?_ | refine bh ?_ | refine be rfl ?_ | refine br ?_ | refine ct rfl ?_ | refine cf rfl ?_))
        first | refine sw_seq_region ?_ | refine sw_region ?_
        refine lo (lop_move (E rfl)) rfl ?_
        first | refine lo (lop_add64 (E rfl) (E rfl) (by omega) (by omega)) rfl ?_ | refine lo (lop_add (E rfl) (E rfl)) rfl ?_
        refine lo (lop_assign (E rfl)) rfl ?_
        apply le; (repeat (first | (apply KeepIs.take; rfl) | (apply KeepIs.skip; rfl) | exact KeepIs.nil))
        (repeat (first | refine cs ?_ | refine cb ?_ | refine ck ?_ | refine cx ?_ | refine cr ?_ | refine an ?_ | refine ae ?_ | refine ar ?_ | refine bn ?_ | refine bh ?_ | refine be rfl ?_ | refine br ?_ | refine ct rfl ?_ | refine cf rfl ?_))
        refine ⟨⟨i + 1, Tb, V⟩, ⟨by show i + 1 ≤ 30; omega, by show i + 1 ≤ ops.length; omega, hE, hV⟩, by show 30 - (i + 1) < 30 - i; omega, ?_⟩
        (refine sgo_st ?_ ?_ <;> (repeat (first | exact FrLe.nil | (apply FrLe.cons; rfl; first | exact VLe.refl _ | exact VLe.any | exact VLe.empty | exact VLe.of_eq (by simp) | exact VLe.of_eq (by congr 1; omega)) | exact StLe.nil | (apply StLe.cons; (repeat (first | exact List.mem_cons_self | apply List.mem_cons_of_mem)); first | rfl | focus (congr 1; done) | focus (simp; done) | (simp; rfl)))))
  (repeat (first | refine cs ?_ | refine cb ?_ | refine ck ?_ | refine cx ?_ | refine cr ?_ | refine an ?_ | refine ae ?_ | refine ar ?_ | refine bn ?_ | refine bh ?_ | refine be rfl ?_ | refine br ?_ | refine ct rfl ?_ | refine cf rfl ?_))
  first | refine sw_seq_region ?_ | refine sw_region ?_
  refine lo (lop_move (E rfl)) rfl ?_
  refine cw [(s, .box 78 [.own t 0 Tb.length, .own g 0 V.length]), (t, .arr 3 1 (Tb.map encI)), (g, .arr 39 2 (V.map encV))] Try.call17 (space_globals h2' h3' Tb V (by omega)) rfl ?_ ?_ ?_
  · (repeat (first | exact ArgsLe.nil | (apply ArgsLe.cons; rfl; first | exact VLe.refl _ | exact VLe.when rfl | exact VLe.any | exact VLe.empty | exact VLe.of_eq (by simp))))
  · (first | exact no_mem | (apply StLe.mem; (repeat (first | exact StLe.nil | (apply StLe.cons; (repeat (first | exact List.mem_cons_self | apply List.mem_cons_of_mem)); first | rfl | focus (congr 1; done) | focus (simp; done) | (simp; rfl))))))
  rintro x σ' ⟨l, ⟨l1, l2, l3⟩, rfl, rfl⟩ hl
  replace hl := (hl _ List.mem_cons_self).resolve_left (by simp only [List.mem_cons, List.not_mem_nil, or_false, exists_eq_or_imp, exists_eq_left, not_or]; (repeat' (first | apply And.intro | (first | assumption | (apply Nq.en; assumption) | omega | (simp only [Nq] at *; omega)))); done); simp only [fresh_cons, fresh_nil, and_true] at hl; (repeat (rcases hl with ⟨_, hl⟩))
  (apply rs_sto; (first | (simp (disch := (first | (simp only [List.mem_cons, List.not_mem_nil, true_or, or_true, or_false]; done) | (focus (simp only [List.mem_cons, List.not_mem_nil, or_false, not_or]; (repeat' (first | apply And.intro | (first | assumption | (apply Nq.en; assumption) | omega | (simp only [Nq] at *; omega)))); done)) | omega)) only [↓put_σ, ↓mk_σ, AV.cells, sset, sdrop_none, sdrop_nil, sdrop_in, sdrop_out, List.nil_append, List.cons_append, List.append_nil, List.map_nil, List.map_cons, List.take_succ_cons, List.take_zero, List.drop_succ_cons, List.drop_zero, take_len', take_map_len, Nat.zero_add, Nat.add_zero, ofCell, ofConst]; rfl) | rfl))
  refine lo (lop_assign (E rfl)) rfl ?_
  apply le; (repeat (first | (apply KeepIs.take; rfl) | (apply KeepIs.skip; rfl) | exact KeepIs.nil))
  (repeat (first | refine cs ?_ | refine cb ?_ | refine ck ?_ | refine cx ?_ | refine cr ?_ | refine an ?_ | refine ae ?_ | refine ar ?_ | refine bn ?_ | refine bh ?_ | refine be rfl ?_ | refine br ?_ | refine ct rfl ?_ | refine cf rfl ?_))
  first | refine sw_seq_region ?_ | refine sw_region ?_
  refine lo (lop_move (E rfl)) rfl ?_
  refine cw [(s, .box 78 [.own t 0 Tb.length, .own g 0 V.length]), (t, .arr 3 1 (Tb.map encI)), (g, .arr 39 2 (V.map encV))] Try.call19 (space_elems h1' Tb V (by omega)) rfl ?_ ?_ ?_
  · (repeat (first | exact ArgsLe.nil | (apply ArgsLe.cons; rfl; first | exact VLe.refl _ | exact VLe.when rfl | exact VLe.any | exact VLe.empty | exact VLe.of_eq (by simp))))
  · (first | exact no_mem | (apply StLe.mem; (repeat (first | exact StLe.nil | (apply StLe.cons; (repeat (first | exact List.mem_cons_self | apply List.mem_cons_of_mem)); first | rfl | focus (congr 1; done) | focus (simp; done) | (simp; rfl))))))
  rintro x σ' ⟨q, ⟨q1, q2, q3⟩, rfl, rfl⟩ hq
  replace hq := (hq _ List.mem_cons_self).resolve_left (by simp only [List.mem_cons, List.not_mem_nil, or_false, exists_eq_or_imp, exists_eq_left, not_or]; (repeat' (first | apply And.intro | (first | assumption | (apply Nq.en; assumption) | omega | (simp only [Nq] at *; omega)))); done); simp only [fresh_cons, fresh_nil, and_true] at hq; (repeat (rcases hq with ⟨_, hq⟩))
  (apply rs_sto; (first | (simp (disch := (first | (simp only [List.mem_cons, List.not_mem_nil, true_or, or_true, or_false]; done) | (focus (simp only [List.mem_cons, List.not_mem_nil, or_false, not_or]; (repeat' (first | apply And.intro | (first | assumption | (apply Nq.en; assumption) | omega | (simp only [Nq] at *; omega)))); done)) | omega)) only [↓put_σ, ↓mk_σ, AV.cells, sset, sdrop_none, sdrop_nil, sdrop_in, sdrop_out, List.nil_append, List.cons_append, List.append_nil, List.map_nil, List.map_cons, List.take_succ_cons, List.take_zero, List.drop_succ_cons, List.drop_zero, take_len', take_map_len, Nat.zero_add, Nat.add_zero, ofCell, ofConst]; rfl) | rfl))
  refine lo (lop_move (E rfl)) rfl ?_
  refine pu [q, r80] Try.call18 (ref_eqInts (k1 := .any) (k2 := .any) Tb Tb) rfl ?_ (by repeat (first | exact NoF.int | exact NoF.bool | exact NoF.nilp | exact NoF.nil | exact NoF.own | exact NoF.ptr | exact NoF.str | exact nofl_nil | apply NoF.tup | apply NoF.agg | apply nofl_cons)) ?_
  · (repeat (first | exact ArgsIf.nil | (apply ArgsIf.cons; (first | exact W rfl id | exact W rfl (fun _ => rfl) | exact E rfl); (first | exact Bor.refl _ | exact Bor.le VLe.any | exact Bor.le VLe.empty | (apply bown; (repeat (first | exact List.mem_cons_self | apply List.mem_cons_of_mem)); (repeat (first | exact sget_here | (apply sget_next; (first | assumption | (apply Nq.en; assumption) | omega | (simp only [Nq] at *; omega))))); (first | focus (simp; done) | omega | focus (simp; omega)); (first | rfl | focus (simp; done) | focus (exact List.take_of_length_le (by first | (simp; done) | (simp; omega))))) | focus (apply bagg; (repeat (first | exact BorL.nil | (apply BorL.cons; (first | exact Bor.refl _ | exact Bor.le VLe.any | exact Bor.le VLe.empty | (apply bown; (repeat (first | exact List.mem_cons_self | apply List.mem_cons_of_mem)); (repeat (first | exact sget_here | (apply sget_next; (first | assumption | (apply Nq.en; assumption) | omega | (simp only [Nq] at *; omega))))); (first | focus (simp; done) | omega); (first | rfl | focus (simp; done) | focus (exact List.take_of_length_le (by first | (simp; done) | (simp; omega))))) | focus (apply Bor.le; apply VLe.of_eq; simp; done))))); done) | focus (apply Bor.le; apply VLe.of_eq; simp; done)))))
  rw [decide_eq_true (rfl : Tb = Tb)]
  refine lo (lop_not (E rfl)) rfl ?_
  refine lo (lop_move (E rfl)) rfl ?_
  first | refine ln rfl rfl rfl rfl ?_ | refine lg rfl rfl (lop_move (E rfl)) rfl ?_
  first | refine ln rfl rfl rfl rfl ?_ | refine lg rfl rfl (lop_len_map (W rfl id)) rfl ?_ | refine lg rfl rfl (lop_len_ro (W rfl id)) rfl ?_ | refine lg rfl rfl (lop_len_own (W rfl id)) rfl ?_
  first | refine ln rfl rfl rfl rfl ?_ | refine lg rfl rfl (lop_move (E rfl)) rfl ?_
  first | refine ln rfl rfl rfl rfl ?_ | refine lg rfl rfl (lop_len_map (W rfl id)) rfl ?_ | refine lg rfl rfl (lop_len_ro (W rfl id)) rfl ?_ | refine lg rfl rfl (lop_len_own (W rfl id)) rfl ?_
  first | refine ln rfl rfl rfl rfl ?_ | refine lg rfl rfl (lop_neq (W rfl id) (W rfl id)) rfl ?_
  first | refine lo (lop_pick_t (E rfl) (E rfl)) rfl ?_ | refine lo (lop_pick_f (E rfl) (W rfl (by simp))) rfl ?_ | refine lo (lop_pick (E rfl) (E rfl) (W rfl (by simp))) rfl ?_
  apply le; (repeat (first | (apply KeepIs.take; rfl) | (apply KeepIs.skip; rfl) | exact KeepIs.nil))
  (repeat (first | refine cs ?_ | refine cb ?_ | refine ck ?_ | refine cx ?_ | refine cr ?_ | refine an ?_ | refine ae ?_ | refine ar ?_ | refine bn ?_ | refine bh ?_ | refine be rfl ?_ | refine br ?_ | refine ct rfl ?_ | refine cf rfl ?_))
  refine sw_cond rfl (fun h6 => ?_) (fun _ => ?_)
  · simp at h6
  (repeat (first | refine cs ?_ | refine cb ?_ | refine ck ?_ | refine cx ?_ | refine cr ?_ | refine an ?_ | refine ae ?_ | refine ar ?_ | refine bn ?_ | refine bh ?_ | refine be rfl ?_ | refine br ?_ | refine ct rfl ?_ | refine cf rfl ?_))
  first | refine sw_seq_region ?_ | refine sw_region ?_
  refine lo (lop_assign (E rfl)) rfl ?_
  apply le; (repeat (first | (apply KeepIs.take; rfl) | (apply KeepIs.skip; rfl) | exact KeepIs.nil))
  (repeat (first | refine cs ?_ | refine cb ?_ | refine ck ?_ | refine cx ?_ | refine cr ?_ | refine an ?_ | refine ae ?_ | refine ar ?_ | refine bn ?_ | refine bh ?_ | refine be rfl ?_ | refine br ?_ | refine ct rfl ?_ | refine cf rfl ?_))
  refine lp (β := SB2) (fun b => ⟨[(0, .int .i64 k), (3, .int .i64 at_), (11, .own vq 0 V.length), (13, .own r80 0 k), (15, .ptr s 0), (22, .own l 0 V.length), (23, .int .i64 b.j)], [(l, .arr 39 2 (b.L.map encV)), (s, .box 78 [.own t 0 Tb.length, .own g 0 V.length]), (t, .arr 3 1 (Tb.map encI)), (g, .arr 39 2 (V.map encV)), (vq, .arr 39 2 (V.map encV)), (r80, .arr 3 1 (Tb.map encI))]⟩) (fun b => b.j ≤ V.length ∧ b.L.length = V.length ∧ b.L.drop b.j = V.drop b.j) (fun b => V.length - b.j) ⟨0, V⟩ ?_ ⟨Nat.zero_le _, rfl, rfl⟩ ?_
  · (refine sgo_st ?_ ?_ <;> (repeat (first | exact FrLe.nil | (apply FrLe.cons; rfl; first | exact VLe.refl _ | exact VLe.any | exact VLe.empty | exact VLe.of_eq (by simp) | exact VLe.of_eq (by congr 1; omega)) | exact StLe.nil | (apply StLe.cons; (repeat (first | exact List.mem_cons_self | apply List.mem_cons_of_mem)); first | rfl | focus (congr 1; done) | focus (simp; done) | (simp; rfl)))))
  rintro ⟨j, L⟩ ⟨hj, hL, hd⟩
  simp only at hj hL hd ⊢
  (repeat (first | refine cs ?_ | refine cb ?_ | refine ck ?_ | refine cx ?_ | refine cr ?_ | refine an ?_ | refine ae ?_ | refine ar ?_ | refine bn ?_ | refine bh ?_ | refine be rfl ?_ | refine br ?_ | refine ct rfl ?_ | refine cf rfl ?_))
  first | refine sw_seq_region ?_ | refine sw_region ?_
  refine lo (lop_move (E rfl)) rfl ?_
  refine lo (lop_move (E rfl)) rfl ?_
  first | refine lo (lop_len_map (E rfl)) rfl ?_ | refine lo (lop_len_ro (E rfl)) rfl ?_ | refine lo (lop_len_own (E rfl)) rfl ?_
  refine lo (lop_lss (E rfl) (E rfl)) rfl ?_
  apply le; (repeat (first | (apply KeepIs.take; rfl) | (apply KeepIs.skip; rfl) | exact KeepIs.nil))
  (repeat (first | refine cs ?_ | refine cb ?_ | refine ck ?_ | refine cx ?_ | refine cr ?_ | refine an ?_ | refine ae ?_ | refine ar ?_ | refine bn ?_ | refine bh ?_ | refine be rfl ?_ | refine br ?_ | refine ct rfl ?_ | refine cf rfl ?_))
  refine sw_cond rfl (fun h6 => ?_) (fun h6 => ?_)
  · have hlt : j < V.length := by simp at h6; omega
    obtain ⟨x, hx⟩ : ∃ x, V[j]? = some x := ⟨_, List.getElem?_eq_getElem hlt⟩
    have hLx : L[j]? = some x := by
      have : (L.drop j)[0]? = (V.drop j)[0]? := by rw [hd]
      simpa [hx] using this
    have hgB : globB V j = true := by simp [globB]; omega
    have hgV : globV V j = x := by
      unfold globV
      rw [if_pos hgB, Int.toNat_natCast, getElem!_pos V j hlt]
      exact (List.getElem?_eq_some_iff.1 hx).2
    (repeat (first | refine cs ?_ | refine cb ?_ | refine ck ?_ | refine cx ?_ | refine cr ?_ | refine an ?_ | refine ae ?_ | refine ar ?_ | refine bn ?_ | refine bh ?_ | refine be rfl ?_ | refine br ?_ | refine ct rfl ?_ | refine cf rfl ?_))
    first | refine sw_seq_region ?_ | refine sw_region ?_
    refine lo (lop_move (E rfl)) rfl ?_
    refine lo (lop_move (E rfl)) rfl ?_
    refine cw [(s, .box 78 [.own t 0 Tb.length, .own g 0 V.length]), (t, .arr 3 1 (Tb.map encI)), (g, .arr 39 2 (V.map encV))] Try.call20 (space_global h2' h3' Tb V j) rfl ?_ ?_ ?_
    · (repeat (first | exact ArgsLe.nil | (apply ArgsLe.cons; rfl; first | exact VLe.refl _ | exact VLe.when rfl | exact VLe.any | exact VLe.empty | exact VLe.of_eq (by simp))))
    · (first | exact no_mem | (apply StLe.mem; (repeat (first | exact StLe.nil | (apply StLe.cons; (repeat (first | exact List.mem_cons_self | apply List.mem_cons_of_mem)); first | rfl | focus (congr 1; done) | focus (simp; done) | (simp; rfl))))))
    rintro x σ' ⟨rfl, rfl⟩ -
    rw [hgB, hgV]
    (apply rs_sto; (first | (simp (disch := (first | (simp only [List.mem_cons, List.not_mem_nil, true_or, or_true, or_false]; done) | (focus (simp only [List.mem_cons, List.not_mem_nil, or_false, not_or]; (repeat' (first | apply And.intro | (first | assumption | (apply Nq.en; assumption) | omega | (simp only [Nq] at *; omega)))); done)) | omega)) only [↓put_σ, ↓mk_σ, AV.cells, sset, sdrop_none, sdrop_nil, sdrop_in, sdrop_out, List.nil_append, List.cons_append, List.append_nil, List.map_nil, List.map_cons, List.take_succ_cons, List.take_zero, List.drop_succ_cons, List.drop_zero, take_len', take_map_len, Nat.zero_add, Nat.add_zero, ofCell, ofConst]; rfl) | rfl))
    refine lo (lop_move (E rfl)) rfl ?_
    refine lo (lop_extract (E rfl) rfl) rfl ?_
    refine lo (lop_extract (E rfl) rfl) rfl ?_
    apply al; rfl; (first | (simp only [Value.cells, AV.cells, List.map_cons, List.map_nil, ofConst, ofCell]; rfl) | rfl); intro r24 h24; simp only [fresh_cons, fresh_nil, and_true] at h24; (repeat (rcases h24 with ⟨_, h24⟩))
    apply stp; rfl; rfl; rfl; rfl; (repeat (first | (apply SPut.here; (repeat (first | exact Put.done | apply Put.put | apply Put.skip)); (repeat (first | exact Fresh.nil | (apply Fresh.cons; (first | assumption | (apply Nq.en; assumption) | omega | (simp only [Nq] at *; omega)))))) | (apply SPut.next; (first | assumption | (apply Nq.en; assumption) | omega | (simp only [Nq] at *; omega)))))
    refine lo (lop_assign (E rfl)) rfl ?_
    apply le; (repeat (first | (apply KeepIs.take; rfl) | (apply KeepIs.skip; rfl) | exact KeepIs.nil))
    (repeat (first | refine cs ?_ | refine cb ?_ | refine ck ?_ | refine cx ?_ | refine cr ?_ | refine an ?_ | refine ae ?_ | refine ar ?_ | refine bn ?_ | refine bh ?_ | refine be rfl ?_ | refine br ?_ | refine ct rfl ?_ | refine cf rfl ?_))
    first | refine sw_seq_drawn [(0, true), (1, true), (2, true), (3, true), (4, true), (5, true), (6, true), (7, true), (8, true), (9, true), (10, true), (11, true), (12, true), (13, true), (14, true), (15, true), (16, true), (17, true), (18, true), (19, true), (20, true), (21, true), (22, true), (23, true), (24, true), (25, true), (26, true), (27, true), (28, true), (29, true), (30, true), (31, true)] mixed (by kernel_rfl) (by kernel_rfl) ?_ | refine sw_region_drawn [(0, true), (1, true), (2, true), (3, true), (4, true), (5, true), (6, true), (7, true), (8, true), (9, true), (10, true), (11, true), (12, true), (13, true), (14, true), (15, true), (16, true), (17, true), (18, true), (19, true), (20, true), (21, true), (22, true), (23, true), (24, true), (25, true), (26, true), (27, true), (28, true), (29, true), (30, true), (31, true)] mixed (by kernel_rfl) (by kernel_rfl) ?_
    refine dlo rfl (lop_move (E rfl)) rfl ?_
    refine dlo rfl (lop_not (E rfl)) rfl ?_
    refine dlo rfl (lop_move (E rfl)) rfl ?_
    first | refine dln rfl rfl rfl rfl rfl ?_ | refine dlg rfl rfl rfl (lop_field_ptr (E rfl) rfl (by decide)) rfl ?_
    first | refine dln rfl rfl rfl rfl rfl ?_ | refine dlg rfl rfl rfl (lop_load_ptr (W rfl id) rfl (by repeat (first | exact sget_here | refine sget_next (by (first | assumption | (apply Nq.en; assumption) | omega | (simp only [Nq] at *; omega))) ?_)) (fun _ => rfl)) rfl ?_
    first | refine dln rfl rfl rfl rfl rfl ?_ | refine dlg rfl rfl rfl (lop_move (E rfl)) rfl ?_
    first | refine dln rfl rfl rfl rfl rfl ?_ | refine dlg rfl rfl rfl (lop_move (E rfl)) rfl ?_
    first | refine dln rfl rfl rfl rfl rfl ?_ | refine dlg rfl rfl rfl (lop_index_ro (W rfl id) (W rfl id) (fun hc => by (try simp at hc) <;> (simp only [List.length_map]; omega))) rfl ?_ | refine dlg rfl rfl rfl (lop_index_own0 (W rfl id) (by repeat (first | exact sget_here | refine sget_next (by (first | assumption | (apply Nq.en; assumption) | omega | (simp only [Nq] at *; omega))) ?_)) (W rfl id) (fun hc => by (try simp at hc) <;> omega)) rfl ?_ | refine dlg rfl rfl rfl (lop_index_own (W rfl id) (by repeat (first | exact sget_here | refine sget_next (by (first | assumption | (apply Nq.en; assumption) | omega | (simp only [Nq] at *; omega))) ?_)) (W rfl id) (fun hc => by (try simp at hc) <;> omega)) rfl ?_
    first | refine dln rfl rfl rfl rfl rfl ?_ | refine dlg rfl rfl rfl (lop_field_el (W rfl id) rfl (by decide)) rfl ?_ | refine dlg rfl rfl rfl (lop_field_ow (W rfl id) rfl (by decide)) rfl ?_
    first | refine dln rfl rfl rfl rfl rfl ?_ | refine dlg rfl rfl rfl (lop_load_el (W rfl id) rfl (fun hc => by first | rfl | exact get_map (by assumption) | assumption | exact get_map (at_bang (by (try simp at hc) <;> omega))) (fun _ => rfl)) rfl ?_ | refine dlg rfl rfl rfl (lop_load_ow (W rfl id) rfl (by repeat (first | exact sget_here | refine sget_next (by (first | assumption | (apply Nq.en; assumption) | omega | (simp only [Nq] at *; omega))) ?_)) (fun hc => by first | rfl | exact get_map (by assumption) | assumption | exact get_map (at_bang (by (try simp at hc) <;> omega))) (fun _ => rfl)) rfl ?_
    first | refine dln rfl rfl rfl rfl rfl ?_ | refine dlg rfl rfl rfl (lop_neq (W rfl id) (W rfl id)) rfl ?_
    first | refine dlo rfl (lop_pick_t (E rfl) (E rfl)) rfl ?_ | refine dlo rfl (lop_pick_f (E rfl) (W rfl (by simp))) rfl ?_ | refine dlo rfl (lop_pick (E rfl) (E rfl) (W rfl (by simp))) rfl ?_
    refine dlo rfl (lop_move (E rfl)) rfl ?_
    first | refine dln rfl rfl rfl rfl rfl ?_ | refine dlg rfl rfl rfl (lop_field_ptr (E rfl) rfl (by decide)) rfl ?_
    first | refine dln rfl rfl rfl rfl rfl ?_ | refine dlg rfl rfl rfl (lop_load_ptr (W rfl id) rfl (by repeat (first | exact sget_here | refine sget_next (by (first | assumption | (apply Nq.en; assumption) | omega | (simp only [Nq] at *; omega))) ?_)) (fun _ => rfl)) rfl ?_
    first | refine dln rfl rfl rfl rfl rfl ?_ | refine dlg rfl rfl rfl (lop_move (E rfl)) rfl ?_
    first | refine dln rfl rfl rfl rfl rfl ?_ | refine dlg rfl rfl rfl (lop_move (E rfl)) rfl ?_
    first | refine dln rfl rfl rfl rfl rfl ?_ | refine dlg rfl rfl rfl (lop_index_ro (W rfl id) (W rfl id) (fun hc => by (try simp at hc) <;> (simp only [List.length_map]; omega))) rfl ?_ | refine dlg rfl rfl rfl (lop_index_own0 (W rfl id) (by repeat (first | exact sget_here | refine sget_next (by (first | assumption | (apply Nq.en; assumption) | omega | (simp only [Nq] at *; omega))) ?_)) (W rfl id) (fun hc => by (try simp at hc) <;> omega)) rfl ?_ | refine dlg rfl rfl rfl (lop_index_own (W rfl id) (by repeat (first | exact sget_here | refine sget_next (by (first | assumption | (apply Nq.en; assumption) | omega | (simp only [Nq] at *; omega))) ?_)) (W rfl id) (fun hc => by (try simp at hc) <;> omega)) rfl ?_
    first | refine dln rfl rfl rfl rfl rfl ?_ | refine dlg rfl rfl rfl (lop_field_el (W rfl id) rfl (by decide)) rfl ?_ | refine dlg rfl rfl rfl (lop_field_ow (W rfl id) rfl (by decide)) rfl ?_
    first | refine dln rfl rfl rfl rfl rfl ?_ | refine dlg rfl rfl rfl (lop_load_el (W rfl id) rfl (fun hc => by first | rfl | exact get_map (by assumption) | assumption | exact get_map (at_bang (by (try simp at hc) <;> omega))) (fun _ => rfl)) rfl ?_ | refine dlg rfl rfl rfl (lop_load_ow (W rfl id) rfl (by repeat (first | exact sget_here | refine sget_next (by (first | assumption | (apply Nq.en; assumption) | omega | (simp only [Nq] at *; omega))) ?_)) (fun hc => by first | rfl | exact get_map (by assumption) | assumption | exact get_map (at_bang (by (try simp at hc) <;> omega))) (fun _ => rfl)) rfl ?_
    first | refine dln rfl rfl rfl rfl rfl ?_ | refine dlg rfl rfl rfl (lop_neq (W rfl id) (W rfl id)) rfl ?_
    first | refine dlo rfl (lop_pick_t (E rfl) (E rfl)) rfl ?_ | refine dlo rfl (lop_pick_f (E rfl) (W rfl (by simp))) rfl ?_ | refine dlo rfl (lop_pick (E rfl) (E rfl) (W rfl (by simp))) rfl ?_
    refine dlo rfl (lop_move (E rfl)) rfl ?_
    first | refine dln rfl rfl rfl rfl rfl ?_ | refine dlg rfl rfl rfl (lop_move (E rfl)) rfl ?_
    first | refine dln rfl rfl rfl rfl rfl ?_ | refine dlg rfl rfl rfl (lop_move (E rfl)) rfl ?_
    first | refine dln rfl rfl rfl rfl rfl ?_ | refine dlg rfl rfl rfl (lop_index_ro (W rfl id) (W rfl id) (fun hc => by (try simp at hc) <;> (simp only [List.length_map]; omega))) rfl ?_ | refine dlg rfl rfl rfl (lop_index_own0 (W rfl id) (by repeat (first | exact sget_here | refine sget_next (by (first | assumption | (apply Nq.en; assumption) | omega | (simp only [Nq] at *; omega))) ?_)) (W rfl id) (fun hc => by (try simp at hc) <;> omega)) rfl ?_ | refine dlg rfl rfl rfl (lop_index_own (W rfl id) (by repeat (first | exact sget_here | refine sget_next (by (first | assumption | (apply Nq.en; assumption) | omega | (simp only [Nq] at *; omega))) ?_)) (W rfl id) (fun hc => by (try simp at hc) <;> omega)) rfl ?_
    first | refine dln rfl rfl rfl rfl rfl ?_ | refine dlg rfl rfl rfl (lop_field_el (W rfl id) rfl (by decide)) rfl ?_ | refine dlg rfl rfl rfl (lop_field_ow (W rfl id) rfl (by decide)) rfl ?_
    first | refine dln rfl rfl rfl rfl rfl ?_ | refine dlg rfl rfl rfl (lop_load_el (W rfl id) rfl (fun hc => by first | rfl | exact get_map (by assumption) | assumption | exact get_map (at_bang (by (try simp at hc) <;> omega))) (fun _ => rfl)) rfl ?_ | refine dlg rfl rfl rfl (lop_load_ow (W rfl id) rfl (by repeat (first | exact sget_here | refine sget_next (by (first | assumption | (apply Nq.en; assumption) | omega | (simp only [Nq] at *; omega))) ?_)) (fun hc => by first | rfl | exact get_map (by assumption) | assumption | exact get_map (at_bang (by (try simp at hc) <;> omega))) (fun _ => rfl)) rfl ?_
    first | refine dln rfl rfl rfl rfl rfl ?_ | refine dlg rfl rfl rfl (lop_field_ptr (E rfl) rfl (by decide)) rfl ?_
    first | refine dln rfl rfl rfl rfl rfl ?_ | refine dlg rfl rfl rfl (lop_load_ptr (W rfl id) rfl (by repeat (first | exact sget_here | refine sget_next (by (first | assumption | (apply Nq.en; assumption) | omega | (simp only [Nq] at *; omega))) ?_)) (fun _ => rfl)) rfl ?_
    first | refine dln rfl rfl rfl rfl rfl ?_ | refine dlg rfl rfl rfl (lop_neq (W rfl id) (W rfl id)) rfl ?_
    first | refine dlo rfl (lop_pick_t (E rfl) (E rfl)) rfl ?_ | refine dlo rfl (lop_pick_f (E rfl) (W rfl (by simp))) rfl ?_ | refine dlo rfl (lop_pick (E rfl) (E rfl) (W rfl (by simp))) rfl ?_
    apply de; (repeat (first | (apply KeepIs.take; rfl) | (apply KeepIs.skip; rfl) | exact KeepIs.nil))
    (repeat (first | refine cs ?_ | refine cb ?_ | refine ck ?_ | refine cx ?_ | refine cr ?_ | refine an ?_ | refine ae ?_ | refine ar ?_ | refine bn ?_ | refine bh ?_ | refine be rfl ?_ | refine br ?_ | refine ct rfl ?_ | refine cf rfl ?_))
    simp only [bne_self_eq_false, Bool.false_eq_true, if_false]
    refine sw_cond rfl (fun h7 => ?_) (fun _ => ?_)
    · simp at h7
    (repeat (first | refine cs ?_ | refine cb ?_ | refine ck ?_ | refine cx ?_ | refine cr ?_ | refine an ?_ | refine ae ?_ | refine ar ?_ | refine bn ?_ | refine bh ?_ | refine be rfl ?_ | refine br ?_ | refine ct rfl ?_ | refine cf rfl ?_))
    first | refine sw_seq_region ?_ | refine sw_region ?_
    refine lo (lop_move (E rfl)) rfl ?_
    refine lo (lop_move (E rfl)) rfl ?_
    first | refine lo (lop_index_ro (E rfl) (E rfl) (fun hc => by (simp only [List.length_map]; omega))) rfl ?_ | refine lo (lop_index_own0 (E rfl) (by repeat (first | exact sget_here | refine sget_next (by (first | assumption | (apply Nq.en; assumption) | omega | (simp only [Nq] at *; omega))) ?_)) (E rfl) (fun hc => by omega)) rfl ?_ | refine lo (lop_index_own (E rfl) (by repeat (first | exact sget_here | refine sget_next (by (first | assumption | (apply Nq.en; assumption) | omega | (simp only [Nq] at *; omega))) ?_)) (E rfl) (fun hc => by omega)) rfl ?_
    first | refine lo (lop_field_el (E rfl) rfl (by decide)) rfl ?_ | refine lo (lop_field_ow (E rfl) rfl (by decide)) rfl ?_
    first | refine lo (lop_load_el (E rfl) rfl (fun hc => by first | rfl | exact get_map (by assumption) | assumption | exact get_map (at_bang (by omega))) (fun _ => rfl)) rfl ?_ | refine lo (lop_load_ow (E rfl) rfl (by repeat (first | exact sget_here | refine sget_next (by (first | assumption | (apply Nq.en; assumption) | omega | (simp only [Nq] at *; omega))) ?_)) (fun hc => by first | rfl | exact get_map (by assumption) | assumption | exact get_map (at_bang (by omega))) (fun _ => rfl)) rfl ?_
    first | refine lo (lop_add64 (E rfl) (E rfl) (by omega) (by omega)) rfl ?_ | refine lo (lop_add (E rfl) (E rfl)) rfl ?_
    first | refine lo (lop_index_ro (E rfl) (E rfl) (fun hc => by (simp only [List.length_map]; omega))) rfl ?_ | refine lo (lop_index_own0 (E rfl) (by repeat (first | exact sget_here | refine sget_next (by (first | assumption | (apply Nq.en; assumption) | omega | (simp only [Nq] at *; omega))) ?_)) (E rfl) (fun hc => by omega)) rfl ?_ | refine lo (lop_index_own (E rfl) (by repeat (first | exact sget_here | refine sget_next (by (first | assumption | (apply Nq.en; assumption) | omega | (simp only [Nq] at *; omega))) ?_)) (E rfl) (fun hc => by omega)) rfl ?_
    first | refine lo (lop_field_el (E rfl) rfl (by decide)) rfl ?_ | refine lo (lop_field_ow (E rfl) rfl (by decide)) rfl ?_
    apply sto; rfl; rfl; rfl; rfl; (repeat (first | (apply SSet.here; (repeat (first | exact Fresh.nil | (apply Fresh.cons; (first | assumption | (apply Nq.en; assumption) | omega | (simp only [Nq] at *; omega)))))) | (apply SSet.next; (first | assumption | (apply Nq.en; assumption) | omega | (simp only [Nq] at *; omega))))); (first | rfl | exact get_map (by assumption) | assumption); (repeat (first | exact Put.done | apply Put.put | apply Put.skip)); rfl
    apply le; (repeat (first | (apply KeepIs.take; rfl) | (apply KeepIs.skip; rfl) | exact KeepIs.nil))
    (repeat (first | refine cs ?_ | refine cb ?_ | refine ck ?_ | refine cx ?_ | refine cr ?_ | refine an ?_ | refine ae ?_ | refine ar ?_ | refine bn ?_ | refine bh ?_ | refine be rfl ?_ | refine br ?_ | refine ct rfl ?_ | refine cf rfl ?_))
    first | refine sw_seq_region ?_ | refine sw_region ?_
    refine lo (lop_move (E rfl)) rfl ?_
    first | refine lo (lop_add64 (E rfl) (E rfl) (by omega) (by omega)) rfl ?_ | refine lo (lop_add (E rfl) (E rfl)) rfl ?_
    refine lo (lop_assign (E rfl)) rfl ?_
    apply le; (repeat (first | (apply KeepIs.take; rfl) | (apply KeepIs.skip; rfl) | exact KeepIs.nil))
    (repeat (first | refine cs ?_ | refine cb ?_ | refine ck ?_ | refine cx ?_ | refine cr ?_ | refine an ?_ | refine ae ?_ | refine ar ?_ | refine bn ?_ | refine bh ?_ | refine be rfl ?_ | refine br ?_ | refine ct rfl ?_ | refine cf rfl ?_))
    refine ⟨⟨j + 1, L.set j (x.1, IntKind.wrap .i64 (x.2 + 1))⟩, ⟨hlt, by simp; exact hL, ?_⟩, by show V.length - (j + 1) < V.length - j; omega, ?_⟩
    · show (L.set j (x.1, IntKind.wrap .i64 (x.2 + 1))).drop (j + 1) = V.drop (j + 1)
      rw [List.drop_set_of_lt (by omega)]
      have := congrArg (List.drop 1) hd
      simpa [List.drop_drop] using this
    · rw [Int.toNat_natCast, set_encV]
      (refine sgo_st ?_ ?_ <;> (repeat (first | exact FrLe.nil | (apply FrLe.cons; rfl; first | exact VLe.refl _ | exact VLe.any | exact VLe.empty | exact VLe.of_eq (by simp) | exact VLe.of_eq (by congr 1; omega)) | exact StLe.nil | (apply StLe.cons; (repeat (first | exact List.mem_cons_self | apply List.mem_cons_of_mem)); first | rfl | focus (congr 1; done) | focus (simp; done) | (simp; rfl)))))
  (repeat (first | refine cs ?_ | refine cb ?_ | refine ck ?_ | refine cx ?_ | refine cr ?_ | refine an ?_ | refine ae ?_ | refine ar ?_ | refine bn ?_ | refine bh ?_ | refine be rfl ?_ | refine br ?_ | refine ct rfl ?_ | refine cf rfl ?_))
  first | refine sw_seq_region ?_ | refine sw_region ?_
  refine lo (lop_move (E rfl)) rfl ?_
  refine lo (lop_move (E rfl)) rfl ?_
  refine cw [(s, .box 78 [.own t 0 Tb.length, .own g 0 V.length]), (t, .arr 3 1 (Tb.map encI)), (g, .arr 39 2 (V.map encV))] Try.call21 (space_elem h1' Tb V at_) rfl ?_ ?_ ?_
  · (repeat (first | exact ArgsLe.nil | (apply ArgsLe.cons; rfl; first | exact VLe.refl _ | exact VLe.when rfl | exact VLe.any | exact VLe.empty | exact VLe.of_eq (by simp))))
  · (first | exact no_mem | (apply StLe.mem; (repeat (first | exact StLe.nil | (apply StLe.cons; (repeat (first | exact List.mem_cons_self | apply List.mem_cons_of_mem)); first | rfl | focus (congr 1; done) | focus (simp; done) | (simp; rfl))))))
  rintro x σ' ⟨rfl, rfl⟩ -
  (apply rs_sto; (first | (simp (disch := (first | (simp only [List.mem_cons, List.not_mem_nil, true_or, or_true, or_false]; done) | (focus (simp only [List.mem_cons, List.not_mem_nil, or_false, not_or]; (repeat' (first | apply And.intro | (first | assumption | (apply Nq.en; assumption) | omega | (simp only [Nq] at *; omega)))); done)) | omega)) only [↓put_σ, ↓mk_σ, AV.cells, sset, sdrop_none, sdrop_nil, sdrop_in, sdrop_out, List.nil_append, List.cons_append, List.append_nil, List.map_nil, List.map_cons, List.take_succ_cons, List.take_zero, List.drop_succ_cons, List.drop_zero, take_len', take_map_len, Nat.zero_add, Nat.add_zero, ofCell, ofConst]; rfl) | rfl))
  refine lo (lop_move (E rfl)) rfl ?_
  refine lo (lop_extract (E rfl) rfl) rfl ?_
  refine lo (lop_extract (E rfl) rfl) rfl ?_
  refine lo (lop_assign (E rfl)) rfl ?_
  refine lo (lop_assign (E rfl)) rfl ?_
  apply le; (repeat (first | (apply KeepIs.take; rfl) | (apply KeepIs.skip; rfl) | exact KeepIs.nil))
  (repeat (first | refine cs ?_ | refine cb ?_ | refine ck ?_ | refine cx ?_ | refine cr ?_ | refine an ?_ | refine ae ?_ | refine ar ?_ | refine bn ?_ | refine bh ?_ | refine be rfl ?_ | refine br ?_ | refine ct rfl ?_ | refine cf rfl ?_))
  first | refine sw_seq_region ?_ | refine sw_region ?_
  refine lo (lop_move (E rfl)) rfl ?_
  refine lo (lop_geq (E rfl) (E rfl)) rfl ?_
  refine lo (lop_move (E rfl)) rfl ?_
  first | refine ln rfl rfl rfl rfl ?_ | refine lg rfl rfl (lop_move (E rfl)) rfl ?_
  first | refine ln rfl rfl rfl rfl ?_ | refine lg rfl rfl (lop_move (E rfl)) rfl ?_
  first | refine ln rfl rfl rfl rfl ?_ | refine lg rfl rfl (lop_lss (W rfl id) (W rfl id)) rfl ?_
  first | refine lo (lop_pick_t (E rfl) (W rfl (by simp))) rfl ?_ | refine lo (lop_pick_f (E rfl) (E rfl)) rfl ?_ | refine lo (lop_pick (E rfl) (W rfl (by simp)) (E rfl)) rfl ?_
  refine lo (lop_move (E rfl)) rfl ?_
  first | refine ln rfl rfl rfl rfl ?_ | refine lg rfl rfl (lop_move (E rfl)) rfl ?_
  first | refine ln rfl rfl rfl rfl ?_ | refine lg rfl rfl (lop_move (E rfl)) rfl ?_
  first | refine ln rfl rfl rfl rfl ?_ | refine lg rfl rfl (lop_index_ro (W rfl id) (W rfl id) (fun hc => by (try simp at hc) <;> (simp only [List.length_map]; omega))) rfl ?_ | refine lg rfl rfl (lop_index_own0 (W rfl id) (by repeat (first | exact sget_here | refine sget_next (by (first | assumption | (apply Nq.en; assumption) | omega | (simp only [Nq] at *; omega))) ?_)) (W rfl id) (fun hc => by (try simp at hc) <;> omega)) rfl ?_ | refine lg rfl rfl (lop_index_own (W rfl id) (by repeat (first | exact sget_here | refine sget_next (by (first | assumption | (apply Nq.en; assumption) | omega | (simp only [Nq] at *; omega))) ?_)) (W rfl id) (fun hc => by (try simp at hc) <;> omega)) rfl ?_
  first | refine ln rfl rfl rfl rfl ?_ | refine lg rfl rfl (lop_load_el (W rfl id) rfl (fun hc => by first | rfl | exact get_map (by assumption) | assumption | exact get_map (at_bang (by (try simp at hc) <;> omega))) (fun _ => rfl)) rfl ?_ | refine lg rfl rfl (lop_load_ow (W rfl id) rfl (by repeat (first | exact sget_here | refine sget_next (by (first | assumption | (apply Nq.en; assumption) | omega | (simp only [Nq] at *; omega))) ?_)) (fun hc => by first | rfl | exact get_map (by assumption) | assumption | exact get_map (at_bang (by (try simp at hc) <;> omega))) (fun _ => rfl)) rfl ?_
  first | refine ln rfl rfl rfl rfl ?_ | refine lg rfl rfl (lop_geq (W rfl id) (E rfl)) rfl ?_
  first | refine lo (lop_pick_t (E rfl) (W rfl (by simp))) rfl ?_ | refine lo (lop_pick_f (E rfl) (E rfl)) rfl ?_ | refine lo (lop_pick (E rfl) (W rfl (by simp)) (E rfl)) rfl ?_
  refine lo (lop_assign (E rfl)) rfl ?_
  apply le; (repeat (first | (apply KeepIs.take; rfl) | (apply KeepIs.skip; rfl) | exact KeepIs.nil))
  (repeat (first | refine cs ?_ | refine cb ?_ | refine ck ?_ | refine cx ?_ | refine cr ?_ | refine an ?_ | refine ae ?_ | refine ar ?_ | refine bn ?_ | refine bh ?_ | refine be rfl ?_ | refine br ?_ | refine ct rfl ?_ | refine cf rfl ?_))
  have hEx : (if (if decide (0 ≤ at_) = true then decide (at_ < (k : Int)) else false) = true then decide (0 ≤ Tb[at_.toNat]!) else false) = elemB Tb at_ := by
    rw [Bool.eq_iff_iff]
    simp [elemB]
    omega
  rw [hEx]
  first | refine sw_seq_region ?_ | refine sw_region ?_
  refine lo (lop_move (E rfl)) rfl ?_
  refine cw [(s, .box 78 [.own t 0 Tb.length, .own g 0 V.length]), (t, .arr 3 1 (Tb.map encI)), (g, .arr 39 2 (V.map encV))] Try.call20 (space_global h2' h3' Tb V (-1)) rfl ?_ ?_ ?_
  · (repeat (first | exact ArgsLe.nil | (apply ArgsLe.cons; rfl; first | exact VLe.refl _ | exact VLe.when rfl | exact VLe.any | exact VLe.empty | exact VLe.of_eq (by simp))))
  · (first | exact no_mem | (apply StLe.mem; (repeat (first | exact StLe.nil | (apply StLe.cons; (repeat (first | exact List.mem_cons_self | apply List.mem_cons_of_mem)); first | rfl | focus (congr 1; done) | focus (simp; done) | (simp; rfl))))))
  rintro x σ' ⟨rfl, rfl⟩ -
  rw [show globB V (-1) = false from rfl]
  (apply rs_sto; (first | (simp (disch := (first | (simp only [List.mem_cons, List.not_mem_nil, true_or, or_true, or_false]; done) | (focus (simp only [List.mem_cons, List.not_mem_nil, or_false, not_or]; (repeat' (first | apply And.intro | (first | assumption | (apply Nq.en; assumption) | omega | (simp only [Nq] at *; omega)))); done)) | omega)) only [↓put_σ, ↓mk_σ, AV.cells, sset, sdrop_none, sdrop_nil, sdrop_in, sdrop_out, List.nil_append, List.cons_append, List.append_nil, List.map_nil, List.map_cons, List.take_succ_cons, List.take_zero, List.drop_succ_cons, List.drop_zero, take_len', take_map_len, Nat.zero_add, Nat.add_zero, ofCell, ofConst]; rfl) | rfl))
  refine lo (lop_move (E rfl)) rfl ?_
  refine lo (lop_extract (E rfl) rfl) rfl ?_
  refine lo (lop_extract (E rfl) rfl) rfl ?_
  apply al; rfl; (first | (simp only [Value.cells, AV.cells, List.map_cons, List.map_nil, ofConst, ofCell]; rfl) | rfl); intro r29 h29; simp only [fresh_cons, fresh_nil, and_true] at h29; (repeat (rcases h29 with ⟨_, h29⟩))
  apply stp; rfl; rfl; rfl; rfl; (repeat (first | (apply SPut.here; (repeat (first | exact Put.done | apply Put.put | apply Put.skip)); (repeat (first | exact Fresh.nil | (apply Fresh.cons; (first | assumption | (apply Nq.en; assumption) | omega | (simp only [Nq] at *; omega)))))) | (apply SPut.next; (first | assumption | (apply Nq.en; assumption) | omega | (simp only [Nq] at *; omega)))))
  refine lo (lop_assign (E rfl)) rfl ?_
  apply le; (repeat (first | (apply KeepIs.take; rfl) | (apply KeepIs.skip; rfl) | exact KeepIs.nil))
  (repeat (first | refine cs ?_ | refine cb ?_ | refine ck ?_ | refine cx ?_ | refine cr ?_ | refine an ?_ | refine ae ?_ | refine ar ?_ | refine bn ?_ | refine bh ?_ | refine be rfl ?_ | refine br ?_ | refine ct rfl ?_ | refine cf rfl ?_))
  first | refine sw_seq_region ?_ | refine sw_region ?_
  refine lo (lop_move (E rfl)) rfl ?_
  refine lo (lop_move (E rfl)) rfl ?_
  first | refine lo (lop_len_map (E rfl)) rfl ?_ | refine lo (lop_len_ro (E rfl)) rfl ?_ | refine lo (lop_len_own (E rfl)) rfl ?_
  refine cw [(s, .box 78 [.own t 0 Tb.length, .own g 0 V.length]), (t, .arr 3 1 (Tb.map encI)), (g, .arr 39 2 (V.map encV))] Try.call20 (space_global h2' h3' Tb V V.length) rfl ?_ ?_ ?_
  · (repeat (first | exact ArgsLe.nil | (apply ArgsLe.cons; rfl; first | exact VLe.refl _ | exact VLe.when rfl | exact VLe.any | exact VLe.empty | exact VLe.of_eq (by simp))))
  · (first | exact no_mem | (apply StLe.mem; (repeat (first | exact StLe.nil | (apply StLe.cons; (repeat (first | exact List.mem_cons_self | apply List.mem_cons_of_mem)); first | rfl | focus (congr 1; done) | focus (simp; done) | (simp; rfl))))))
  rintro x σ' ⟨rfl, rfl⟩ -
  rw [show globB V V.length = false by simp [globB]]
  (apply rs_sto; (first | (simp (disch := (first | (simp only [List.mem_cons, List.not_mem_nil, true_or, or_true, or_false]; done) | (focus (simp only [List.mem_cons, List.not_mem_nil, or_false, not_or]; (repeat' (first | apply And.intro | (first | assumption | (apply Nq.en; assumption) | omega | (simp only [Nq] at *; omega)))); done)) | omega)) only [↓put_σ, ↓mk_σ, AV.cells, sset, sdrop_none, sdrop_nil, sdrop_in, sdrop_out, List.nil_append, List.cons_append, List.append_nil, List.map_nil, List.map_cons, List.take_succ_cons, List.take_zero, List.drop_succ_cons, List.drop_zero, take_len', take_map_len, Nat.zero_add, Nat.add_zero, ofCell, ofConst]; rfl) | rfl))
  refine lo (lop_move (E rfl)) rfl ?_
  refine lo (lop_extract (E rfl) rfl) rfl ?_
  refine lo (lop_extract (E rfl) rfl) rfl ?_
  apply al; rfl; (first | (simp only [Value.cells, AV.cells, List.map_cons, List.map_nil, ofConst, ofCell]; rfl) | rfl); intro r31 h31; simp only [fresh_cons, fresh_nil, and_true] at h31; (repeat (rcases h31 with ⟨_, h31⟩))
  apply stp; rfl; rfl; rfl; rfl; (repeat (first | (apply SPut.here; (repeat (first | exact Put.done | apply Put.put | apply Put.skip)); (repeat (first | exact Fresh.nil | (apply Fresh.cons; (first | assumption | (apply Nq.en; assumption) | omega | (simp only [Nq] at *; omega)))))) | (apply SPut.next; (first | assumption | (apply Nq.en; assumption) | omega | (simp only [Nq] at *; omega)))))
  refine lo (lop_assign (E rfl)) rfl ?_
  apply le; (repeat (first | (apply KeepIs.take; rfl) | (apply KeepIs.skip; rfl) | exact KeepIs.nil))
  (repeat (first | refine cs ?_ | refine cb ?_ | refine ck ?_ | refine cx ?_ | refine cr ?_ | refine an ?_ | refine ae ?_ | refine ar ?_ | refine bn ?_ | refine bh ?_ | refine be rfl ?_ | refine br ?_ | refine ct rfl ?_ | refine cf rfl ?_))
  rw [show elemN Tb at_ = if elemB Tb at_ then Tb[at_.toNat]! else 0 from rfl]
  have hBr : elemB Tb at_ = true → 0 ≤ at_ ∧ at_ < Tb.length := fun h => by simp [elemB] at h; omega
  cases hB : elemB Tb at_ with
  | false =>
    simp only [Bool.false_eq_true, if_false]
    first | refine sw_seq_region ?_ | refine sw_region ?_
    refine lo (lop_move (E rfl)) rfl ?_
    refine lo (lop_move (E rfl)) rfl ?_
    refine lo (lop_beql (E rfl) (E rfl)) rfl ?_
    refine lo (lop_move (E rfl)) rfl ?_
    first | refine ln rfl rfl rfl rfl ?_ | refine lg rfl rfl (lop_move (E rfl)) rfl ?_
    first | refine ln rfl rfl rfl rfl ?_ | refine lg rfl rfl (lop_move (W rfl id)) rfl ?_
    first | refine ln rfl rfl rfl rfl ?_ | refine lg rfl rfl (lop_move (E rfl)) rfl ?_ | refine lw rfl rfl (lop_move (E rfl)) rfl ?_
    first | refine ln rfl rfl rfl rfl ?_ | refine lg rfl rfl (lop_move (E rfl)) rfl ?_ | refine lw rfl rfl (lop_move (E rfl)) rfl ?_
    first | refine ln rfl rfl rfl rfl ?_ | refine lg rfl rfl (lop_move (E rfl)) rfl ?_ | refine lw rfl rfl (lop_move (E rfl)) rfl ?_
    first
      | refine ln rfl rfl rfl rfl ?_
      | refine lg rfl rfl (lop_index_ro (W rfl (by first
                                                     | exact id
                                                     | simp)) (W rfl (by first
                                                                           | exact id
                                                                           | simp)) (fun hc => by (try simp at hc) <;> (simp only [List.length_map]; omega))) rfl ?_
      | refine lg rfl rfl (lop_index_own0 (W rfl (by first
                                                       | exact id
                                                       | simp)) (by repeat (first
                                                                              | exact sget_here
                                                                              | refine sget_next (by (first
                                                                                                        | assumption
                                                                                                        | (apply Nq.en; assumption)
                                                                                                        | omega
                                                                                                        | (simp only [Nq] at *; omega))) ?_)) (W rfl (by first
                                                                                                                                                           | exact id
                                                                                                                                                           | simp)) (fun hc => by (try simp at hc) <;> omega)) rfl ?_
      | refine lg rfl rfl (lop_index_own (W rfl (by first
                                                      | exact id
                                                      | simp)) (by repeat (first
                                                                             | exact sget_here
                                                                             | refine sget_next (by (first
                                                                                                       | assumption
                                                                                                       | (apply Nq.en; assumption)
                                                                                                       | omega
                                                                                                       | (simp only [Nq] at *; omega))) ?_)) (W rfl (by first
                                                                                                                                                          | exact id
                                                                                                                                                          | simp)) (fun hc => by (try simp at hc) <;> omega)) rfl ?_
      | refine lw rfl rfl (lop_index_ro (W rfl (by first
                                                     | exact id
                                                     | simp)) (W rfl (by first
                                                                           | exact id
                                                                           | simp)) (fun hc => by (try simp at hc) <;> (simp only [List.length_map]; omega))) rfl ?_
      | refine lw rfl rfl (lop_index_own0 (W rfl (by first
                                                       | exact id
                                                       | simp)) (by repeat (first
                                                                              | exact sget_here
                                                                              | refine sget_next (by (first
                                                                                                        | assumption
                                                                                                        | (apply Nq.en; assumption)
                                                                                                        | omega
                                                                                                        | (simp only [Nq] at *; omega))) ?_)) (W rfl (by first
                                                                                                                                                           | exact id
                                                                                                                                                           | simp)) (fun hc => by (try simp at hc) <;> omega)) rfl ?_
      | refine lw rfl rfl (lop_index_own (W rfl (by first
                                                      | exact id
                                                      | simp)) (by repeat (first
                                                                             | exact sget_here
                                                                             | refine sget_next (by (first
                                                                                                       | assumption
                                                                                                       | (apply Nq.en; assumption)
                                                                                                       | omega
                                                                                                       | (simp only [Nq] at *; omega))) ?_)) (W rfl (by first
                                                                                                                                                          | exact id
                                                                                                                                                          | simp)) (fun hc => by (try simp at hc) <;> omega)) rfl ?_
    first | refine ln rfl rfl rfl rfl ?_ | refine lg rfl rfl (lop_load_el (W rfl (by first | exact id | simp)) rfl (fun hc => by first | rfl | exact get_map (by assumption) | assumption | exact get_map (at_bang (by (try simp at hc) <;> omega))) (fun _ => rfl)) rfl ?_ | refine lg rfl rfl (lop_load_ow (W rfl (by first | exact id | simp)) rfl (by repeat (first | exact sget_here | refine sget_next (by (first | assumption | (apply Nq.en; assumption) | omega | (simp only [Nq] at *; omega))) ?_)) (fun hc => by first | rfl | exact get_map (by assumption) | assumption | exact get_map (at_bang (by (try simp at hc) <;> omega))) (fun _ => rfl)) rfl ?_ | refine lw rfl rfl (lop_load_el (W rfl (by first | exact id | simp)) rfl (fun hc => by first | rfl | exact get_map (by assumption) | assumption | exact get_map (at_bang (by (try simp at hc) <;> omega))) (fun _ => rfl)) rfl ?_ | refine lw rfl rfl (lop_load_ow (W rfl (by first | exact id | simp)) rfl (by repeat (first | exact sget_here | refine sget_next (by (first | assumption | (apply Nq.en; assumption) | omega | (simp only [Nq] at *; omega))) ?_)) (fun hc => by first | rfl | exact get_map (by assumption) | assumption | exact get_map (at_bang (by (try simp at hc) <;> omega))) (fun _ => rfl)) rfl ?_
    first | refine ln rfl rfl rfl rfl ?_ | refine lg rfl rfl (lop_eql (W rfl (by first | exact id | simp)) (W rfl (by first | exact id | simp))) rfl ?_ | refine lw rfl rfl (lop_eql (W rfl (by first | exact id | simp)) (W rfl (by first | exact id | simp))) rfl ?_
    first | refine ln rfl rfl rfl rfl ?_ | refine lg rfl rfl (lop_pick_t (W rfl id) (W rfl (by simp))) rfl ?_ | refine lg rfl rfl (lop_pick_f (W rfl id) (E rfl)) rfl ?_ | refine lg rfl rfl (lop_pick (W rfl id) (W rfl (by simp)) (E rfl)) rfl ?_
    first | refine ln rfl rfl rfl rfl ?_ | refine lg rfl rfl (lop_move (W rfl id)) rfl ?_
    first | refine ln rfl rfl rfl rfl ?_ | refine lg rfl rfl (lop_move (E rfl)) rfl ?_ | refine lw rfl rfl (lop_move (E rfl)) rfl ?_
    first | refine ln rfl rfl rfl rfl ?_ | refine lg rfl rfl (lop_not (W rfl (by first | exact id | simp))) rfl ?_ | refine lw rfl rfl (lop_not (W rfl (by first | exact id | simp))) rfl ?_
    first | refine ln rfl rfl rfl rfl ?_ | refine lg rfl rfl (lop_move (W rfl (by first | exact id | simp))) rfl ?_ | refine lw rfl rfl (lop_move (W rfl (by first | exact id | simp))) rfl ?_
    first | refine ln rfl rfl rfl rfl ?_ | refine lg rfl rfl (lop_move (E rfl)) rfl ?_ | refine lw rfl rfl (lop_move (E rfl)) rfl ?_
    first | refine ln rfl rfl rfl rfl ?_ | refine lg rfl rfl (lop_eql (W rfl (by first | exact id | simp)) (E rfl)) rfl ?_ | refine lw rfl rfl (lop_eql (W rfl (by first | exact id | simp)) (E rfl)) rfl ?_
    first | refine ln rfl rfl rfl rfl ?_ | refine lg rfl rfl (lop_pick_t (W rfl (by first | exact id | simp)) (W rfl (by simp))) rfl ?_ | refine lg rfl rfl (lop_pick_f (W rfl (by first | exact id | simp)) (E rfl)) rfl ?_ | refine lg rfl rfl (lop_pick (W rfl (by first | exact id | simp)) (W rfl (by simp)) (E rfl)) rfl ?_ | refine lw rfl rfl (lop_pick_t (W rfl (by first | exact id | simp)) (W rfl (by simp))) rfl ?_ | refine lw rfl rfl (lop_pick_f (W rfl (by first | exact id | simp)) (E rfl)) rfl ?_ | refine lw rfl rfl (lop_pick (W rfl (by first | exact id | simp)) (W rfl (by simp)) (E rfl)) rfl ?_
    first | refine ln rfl rfl rfl rfl ?_ | refine lg rfl rfl (lop_pick_t (W rfl id) (E rfl)) rfl ?_ | refine lg rfl rfl (lop_pick_f (W rfl id) (W rfl (by simp))) rfl ?_ | refine lg rfl rfl (lop_pick (W rfl id) (E rfl) (W rfl (by simp))) rfl ?_
    first | refine lo (lop_pick_t (E rfl) (W rfl (by simp))) rfl ?_ | refine lo (lop_pick_f (E rfl) (E rfl)) rfl ?_ | refine lo (lop_pick (E rfl) (W rfl (by simp)) (E rfl)) rfl ?_
    refine lo (lop_move (E rfl)) rfl ?_
    first | refine ln rfl rfl rfl rfl ?_ | refine lg rfl rfl (lop_move (E rfl)) rfl ?_
    first | refine ln rfl rfl rfl rfl ?_ | refine lg rfl rfl (lop_not (W rfl id)) rfl ?_
    first | refine lo (lop_pick_t (E rfl) (W rfl (by simp))) rfl ?_ | refine lo (lop_pick_f (E rfl) (E rfl)) rfl ?_ | refine lo (lop_pick (E rfl) (W rfl (by simp)) (E rfl)) rfl ?_
    refine lo (lop_move (E rfl)) rfl ?_
    first | refine ln rfl rfl rfl rfl ?_ | refine lg rfl rfl (lop_move (E rfl)) rfl ?_
    first | refine ln rfl rfl rfl rfl ?_ | refine lg rfl rfl (lop_not (W rfl id)) rfl ?_
    first | refine lo (lop_pick_t (E rfl) (W rfl (by simp))) rfl ?_ | refine lo (lop_pick_f (E rfl) (E rfl)) rfl ?_ | refine lo (lop_pick (E rfl) (W rfl (by simp)) (E rfl)) rfl ?_
    refine lo (lop_move (E rfl)) rfl ?_
    first | refine ln rfl rfl rfl rfl ?_ | refine lg rfl rfl (lop_move (E rfl)) rfl ?_
    refine gy rfl rfl ?_
    refine cw [(s, .box 78 [.own t 0 Tb.length, .own g 0 V.length]), (t, .arr 3 1 (Tb.map encI)), (g, .arr 39 2 (V.map encV))] Try.call17 (space_globals h2' h3' Tb V (by omega)) rfl ?_ ?_ ?_
    · (repeat (first | exact ArgsLe.nil | (apply ArgsLe.cons; rfl; first | exact VLe.refl _ | exact VLe.when rfl | exact VLe.any | exact VLe.empty | exact VLe.of_eq (by simp))))
    · (first | exact no_mem | (apply StLe.mem; (repeat (first | exact StLe.nil | (apply StLe.cons; (repeat (first | exact List.mem_cons_self | apply List.mem_cons_of_mem)); first | rfl | focus (congr 1; done) | focus (simp; done) | (simp; rfl))))))
    rintro x σ' ⟨m, ⟨m1, m2, m3⟩, rfl, rfl⟩ hm
    replace hm := (hm _ List.mem_cons_self).resolve_left (by simp only [List.mem_cons, List.not_mem_nil, or_false, exists_eq_or_imp, exists_eq_left, not_or]; (repeat' (first | apply And.intro | (first | assumption | (apply Nq.en; assumption) | omega | (simp only [Nq] at *; omega)))); done); simp only [fresh_cons, fresh_nil, and_true] at hm; (repeat (rcases hm with ⟨_, hm⟩))
    (apply rs_sto; (first | (simp (disch := (first | (simp only [List.mem_cons, List.not_mem_nil, true_or, or_true, or_false]; done) | (focus (simp only [List.mem_cons, List.not_mem_nil, or_false, not_or]; (repeat' (first | apply And.intro | (first | assumption | (apply Nq.en; assumption) | omega | (simp only [Nq] at *; omega)))); done)) | omega)) only [↓put_σ, ↓mk_σ, AV.cells, sset, sdrop_none, sdrop_nil, sdrop_in, sdrop_out, List.nil_append, List.cons_append, List.append_nil, List.map_nil, List.map_cons, List.take_succ_cons, List.take_zero, List.drop_succ_cons, List.drop_zero, take_len', take_map_len, Nat.zero_add, Nat.add_zero, ofCell, ofConst]; rfl) | rfl))
    first | refine ln rfl rfl rfl rfl ?_ | refine lg rfl rfl (lop_move (E rfl)) rfl ?_
    refine gy rfl rfl ?_
    refine pu [m, vq] Try.call22 (law_same11 (k1 := .any) (k2 := .any) V V) rfl ?_ (by repeat (first | exact NoF.int | exact NoF.bool | exact NoF.nilp | exact NoF.nil | exact NoF.own | exact NoF.ptr | exact NoF.str | exact nofl_nil | apply NoF.tup | apply NoF.agg | apply nofl_cons)) ?_
    · (repeat (first | exact ArgsIf.nil | (apply ArgsIf.cons; (first | exact W rfl id | exact W rfl (fun _ => rfl) | exact E rfl); (first | exact Bor.refl _ | exact Bor.le VLe.any | exact Bor.le VLe.empty | (apply bown; (repeat (first | exact List.mem_cons_self | apply List.mem_cons_of_mem)); (repeat (first | exact sget_here | (apply sget_next; (first | assumption | (apply Nq.en; assumption) | omega | (simp only [Nq] at *; omega))))); (first | focus (simp; done) | omega | focus (simp; omega)); (first | rfl | focus (simp; done) | focus (exact List.take_of_length_le (by first | (simp; done) | (simp; omega))))) | focus (apply bagg; (repeat (first | exact BorL.nil | (apply BorL.cons; (first | exact Bor.refl _ | exact Bor.le VLe.any | exact Bor.le VLe.empty | (apply bown; (repeat (first | exact List.mem_cons_self | apply List.mem_cons_of_mem)); (repeat (first | exact sget_here | (apply sget_next; (first | assumption | (apply Nq.en; assumption) | omega | (simp only [Nq] at *; omega))))); (first | focus (simp; done) | omega); (first | rfl | focus (simp; done) | focus (exact List.take_of_length_le (by first | (simp; done) | (simp; omega))))) | focus (apply Bor.le; apply VLe.of_eq; simp; done))))); done) | focus (apply Bor.le; apply VLe.of_eq; simp; done)))))
    rw [decide_eq_true (rfl : V = V)]
    first | refine lo (lop_pick_t (E rfl) (by first | exact W rfl (by simp) | exact E rfl)) rfl ?_ | refine lo (lop_pick_f (E rfl) (E rfl)) rfl ?_ | refine lo (lop_pick (E rfl) (by first | exact W rfl (by simp) | exact E rfl) (E rfl)) rfl ?_
    refine lo (lop_assign (E rfl)) rfl ?_
    apply le; (repeat (first | (apply KeepIs.take; rfl) | (apply KeepIs.skip; rfl) | exact KeepIs.nil))
    (repeat (first | refine cs ?_ | refine cb ?_ | refine ck ?_ | refine cx ?_ | refine cr ?_ | refine an ?_ | refine ae ?_ | refine ar ?_ | refine bn ?_ | refine bh ?_ | refine be rfl ?_ | refine br ?_ | refine ct rfl ?_ | refine cf rfl ?_))
    (apply aend; (repeat (first | exact ResL.nil | (apply ResL.tmp; rfl) | (apply ResL.cell; rfl; infer_instance; rfl; (repeat (first | exact sget_here | (apply sget_next; (first | assumption | (apply Nq.en; assumption) | omega | (simp only [Nq] at *; omega))))); rfl) | (apply ResL.cells; rfl; infer_instance; infer_instance; rfl; (repeat (first | exact sget_here | (apply sget_next; (first | assumption | (apply Nq.en; assumption) | omega | (simp only [Nq] at *; omega))))); exact Nat.le_of_ble_eq_true rfl))))
    · simp [resAV]
    · (first | exact no_mem | (apply StLe.mem; (repeat (first | exact StLe.nil | (apply StLe.cons; (repeat (first | exact List.mem_cons_self | apply List.mem_cons_of_mem)); first | rfl | focus (congr 1; done) | focus (simp; done) | (simp; rfl))))))
  | true =>
    have hBr := hBr hB
    simp only [if_true]
    first | refine sw_seq_region ?_ | refine sw_region ?_
    refine lo (lop_move (E rfl)) rfl ?_
    refine lo (lop_move (E rfl)) rfl ?_
    refine lo (lop_beql (E rfl) (E rfl)) rfl ?_
    refine lo (lop_move (E rfl)) rfl ?_
    first | refine ln rfl rfl rfl rfl ?_ | refine lg rfl rfl (lop_move (E rfl)) rfl ?_
    first | refine ln rfl rfl rfl rfl ?_ | refine lg rfl rfl (lop_move (W rfl id)) rfl ?_
    first | refine ln rfl rfl rfl rfl ?_ | refine lg rfl rfl (lop_move (E rfl)) rfl ?_ | refine lw rfl rfl (lop_move (E rfl)) rfl ?_
    first | refine ln rfl rfl rfl rfl ?_ | refine lg rfl rfl (lop_move (E rfl)) rfl ?_ | refine lw rfl rfl (lop_move (E rfl)) rfl ?_
    first | refine ln rfl rfl rfl rfl ?_ | refine lg rfl rfl (lop_move (E rfl)) rfl ?_ | refine lw rfl rfl (lop_move (E rfl)) rfl ?_
    first
      | refine ln rfl rfl rfl rfl ?_
      | refine lg rfl rfl (lop_index_ro (W rfl (by first
                                                     | exact id
                                                     | simp)) (W rfl (by first
                                                                           | exact id
                                                                           | simp)) (fun hc => by (try simp at hc) <;> (simp only [List.length_map]; omega))) rfl ?_
      | refine lg rfl rfl (lop_index_own0 (W rfl (by first
                                                       | exact id
                                                       | simp)) (by repeat (first
                                                                              | exact sget_here
                                                                              | refine sget_next (by (first
                                                                                                        | assumption
                                                                                                        | (apply Nq.en; assumption)
                                                                                                        | omega
                                                                                                        | (simp only [Nq] at *; omega))) ?_)) (W rfl (by first
                                                                                                                                                           | exact id
                                                                                                                                                           | simp)) (fun hc => by (try simp at hc) <;> omega)) rfl ?_
      | refine lg rfl rfl (lop_index_own (W rfl (by first
                                                      | exact id
                                                      | simp)) (by repeat (first
                                                                             | exact sget_here
                                                                             | refine sget_next (by (first
                                                                                                       | assumption
                                                                                                       | (apply Nq.en; assumption)
                                                                                                       | omega
                                                                                                       | (simp only [Nq] at *; omega))) ?_)) (W rfl (by first
                                                                                                                                                          | exact id
                                                                                                                                                          | simp)) (fun hc => by (try simp at hc) <;> omega)) rfl ?_
      | refine lw rfl rfl (lop_index_ro (W rfl (by first
                                                     | exact id
                                                     | simp)) (W rfl (by first
                                                                           | exact id
                                                                           | simp)) (fun hc => by (try simp at hc) <;> (simp only [List.length_map]; omega))) rfl ?_
      | refine lw rfl rfl (lop_index_own0 (W rfl (by first
                                                       | exact id
                                                       | simp)) (by repeat (first
                                                                              | exact sget_here
                                                                              | refine sget_next (by (first
                                                                                                        | assumption
                                                                                                        | (apply Nq.en; assumption)
                                                                                                        | omega
                                                                                                        | (simp only [Nq] at *; omega))) ?_)) (W rfl (by first
                                                                                                                                                           | exact id
                                                                                                                                                           | simp)) (fun hc => by (try simp at hc) <;> omega)) rfl ?_
      | refine lw rfl rfl (lop_index_own (W rfl (by first
                                                      | exact id
                                                      | simp)) (by repeat (first
                                                                             | exact sget_here
                                                                             | refine sget_next (by (first
                                                                                                       | assumption
                                                                                                       | (apply Nq.en; assumption)
                                                                                                       | omega
                                                                                                       | (simp only [Nq] at *; omega))) ?_)) (W rfl (by first
                                                                                                                                                          | exact id
                                                                                                                                                          | simp)) (fun hc => by (try simp at hc) <;> omega)) rfl ?_
    first | refine ln rfl rfl rfl rfl ?_ | refine lg rfl rfl (lop_load_el (W rfl (by first | exact id | simp)) rfl (fun hc => by first | rfl | exact get_map (by assumption) | assumption | exact get_map (at_bang (by (try simp at hc) <;> omega))) (fun _ => rfl)) rfl ?_ | refine lg rfl rfl (lop_load_ow (W rfl (by first | exact id | simp)) rfl (by repeat (first | exact sget_here | refine sget_next (by (first | assumption | (apply Nq.en; assumption) | omega | (simp only [Nq] at *; omega))) ?_)) (fun hc => by first | rfl | exact get_map (by assumption) | assumption | exact get_map (at_bang (by (try simp at hc) <;> omega))) (fun _ => rfl)) rfl ?_ | refine lw rfl rfl (lop_load_el (W rfl (by first | exact id | simp)) rfl (fun hc => by first | rfl | exact get_map (by assumption) | assumption | exact get_map (at_bang (by (try simp at hc) <;> omega))) (fun _ => rfl)) rfl ?_ | refine lw rfl rfl (lop_load_ow (W rfl (by first | exact id | simp)) rfl (by repeat (first | exact sget_here | refine sget_next (by (first | assumption | (apply Nq.en; assumption) | omega | (simp only [Nq] at *; omega))) ?_)) (fun hc => by first | rfl | exact get_map (by assumption) | assumption | exact get_map (at_bang (by (try simp at hc) <;> omega))) (fun _ => rfl)) rfl ?_
    first | refine ln rfl rfl rfl rfl ?_ | refine lg rfl rfl (lop_eql (W rfl (by first | exact id | simp)) (W rfl (by first | exact id | simp))) rfl ?_ | refine lw rfl rfl (lop_eql (W rfl (by first | exact id | simp)) (W rfl (by first | exact id | simp))) rfl ?_
    first | refine ln rfl rfl rfl rfl ?_ | refine lg rfl rfl (lop_pick_t (W rfl id) (W rfl (by simp))) rfl ?_ | refine lg rfl rfl (lop_pick_f (W rfl id) (E rfl)) rfl ?_ | refine lg rfl rfl (lop_pick (W rfl id) (W rfl (by simp)) (E rfl)) rfl ?_
    first | refine ln rfl rfl rfl rfl ?_ | refine lg rfl rfl (lop_move (W rfl id)) rfl ?_
    first | refine ln rfl rfl rfl rfl ?_ | refine lg rfl rfl (lop_move (E rfl)) rfl ?_ | refine lw rfl rfl (lop_move (E rfl)) rfl ?_
    first | refine ln rfl rfl rfl rfl ?_ | refine lg rfl rfl (lop_not (W rfl (by first | exact id | simp))) rfl ?_ | refine lw rfl rfl (lop_not (W rfl (by first | exact id | simp))) rfl ?_
    first | refine ln rfl rfl rfl rfl ?_ | refine lg rfl rfl (lop_move (W rfl (by first | exact id | simp))) rfl ?_ | refine lw rfl rfl (lop_move (W rfl (by first | exact id | simp))) rfl ?_
    first | refine ln rfl rfl rfl rfl ?_ | refine lg rfl rfl (lop_move (E rfl)) rfl ?_ | refine lw rfl rfl (lop_move (E rfl)) rfl ?_
    first | refine ln rfl rfl rfl rfl ?_ | refine lg rfl rfl (lop_eql (W rfl (by first | exact id | simp)) (E rfl)) rfl ?_ | refine lw rfl rfl (lop_eql (W rfl (by first | exact id | simp)) (E rfl)) rfl ?_
    first | refine ln rfl rfl rfl rfl ?_ | refine lg rfl rfl (lop_pick_t (W rfl (by first | exact id | simp)) (W rfl (by simp))) rfl ?_ | refine lg rfl rfl (lop_pick_f (W rfl (by first | exact id | simp)) (E rfl)) rfl ?_ | refine lg rfl rfl (lop_pick (W rfl (by first | exact id | simp)) (W rfl (by simp)) (E rfl)) rfl ?_ | refine lw rfl rfl (lop_pick_t (W rfl (by first | exact id | simp)) (W rfl (by simp))) rfl ?_ | refine lw rfl rfl (lop_pick_f (W rfl (by first | exact id | simp)) (E rfl)) rfl ?_ | refine lw rfl rfl (lop_pick (W rfl (by first | exact id | simp)) (W rfl (by simp)) (E rfl)) rfl ?_
    first | refine ln rfl rfl rfl rfl ?_ | refine lg rfl rfl (lop_pick_t (W rfl id) (E rfl)) rfl ?_ | refine lg rfl rfl (lop_pick_f (W rfl id) (W rfl (by simp))) rfl ?_ | refine lg rfl rfl (lop_pick (W rfl id) (E rfl) (W rfl (by simp))) rfl ?_
    first | refine lo (lop_pick_t (E rfl) (W rfl (by simp))) rfl ?_ | refine lo (lop_pick_f (E rfl) (E rfl)) rfl ?_ | refine lo (lop_pick (E rfl) (W rfl (by simp)) (E rfl)) rfl ?_
    refine lo (lop_move (E rfl)) rfl ?_
    first | refine ln rfl rfl rfl rfl ?_ | refine lg rfl rfl (lop_move (E rfl)) rfl ?_
    first | refine ln rfl rfl rfl rfl ?_ | refine lg rfl rfl (lop_not (W rfl id)) rfl ?_
    first | refine lo (lop_pick_t (E rfl) (W rfl (by simp))) rfl ?_ | refine lo (lop_pick_f (E rfl) (E rfl)) rfl ?_ | refine lo (lop_pick (E rfl) (W rfl (by simp)) (E rfl)) rfl ?_
    refine lo (lop_move (E rfl)) rfl ?_
    first | refine ln rfl rfl rfl rfl ?_ | refine lg rfl rfl (lop_move (E rfl)) rfl ?_
    first | refine ln rfl rfl rfl rfl ?_ | refine lg rfl rfl (lop_not (W rfl id)) rfl ?_
    first | refine lo (lop_pick_t (E rfl) (W rfl (by simp))) rfl ?_ | refine lo (lop_pick_f (E rfl) (E rfl)) rfl ?_ | refine lo (lop_pick (E rfl) (W rfl (by simp)) (E rfl)) rfl ?_
    refine lo (lop_move (E rfl)) rfl ?_
    first | refine ln rfl rfl rfl rfl ?_ | refine lg rfl rfl (lop_move (E rfl)) rfl ?_
    simp only [beq_self_eq_true]
    refine gy rfl rfl ?_
    refine cw [(s, .box 78 [.own t 0 Tb.length, .own g 0 V.length]), (t, .arr 3 1 (Tb.map encI)), (g, .arr 39 2 (V.map encV))] Try.call17 (space_globals h2' h3' Tb V (by omega)) rfl ?_ ?_ ?_
    · (repeat (first | exact ArgsLe.nil | (apply ArgsLe.cons; rfl; first | exact VLe.refl _ | exact VLe.when rfl | exact VLe.any | exact VLe.empty | exact VLe.of_eq (by simp))))
    · (first | exact no_mem | (apply StLe.mem; (repeat (first | exact StLe.nil | (apply StLe.cons; (repeat (first | exact List.mem_cons_self | apply List.mem_cons_of_mem)); first | rfl | focus (congr 1; done) | focus (simp; done) | (simp; rfl))))))
    rintro x σ' ⟨m, ⟨m1, m2, m3⟩, rfl, rfl⟩ hm
    replace hm := (hm _ List.mem_cons_self).resolve_left (by simp only [List.mem_cons, List.not_mem_nil, or_false, exists_eq_or_imp, exists_eq_left, not_or]; (repeat' (first | apply And.intro | (first | assumption | (apply Nq.en; assumption) | omega | (simp only [Nq] at *; omega)))); done); simp only [fresh_cons, fresh_nil, and_true] at hm; (repeat (rcases hm with ⟨_, hm⟩))
    (apply rs_sto; (first | (simp (disch := (first | (simp only [List.mem_cons, List.not_mem_nil, true_or, or_true, or_false]; done) | (focus (simp only [List.mem_cons, List.not_mem_nil, or_false, not_or]; (repeat' (first | apply And.intro | (first | assumption | (apply Nq.en; assumption) | omega | (simp only [Nq] at *; omega)))); done)) | omega)) only [↓put_σ, ↓mk_σ, AV.cells, sset, sdrop_none, sdrop_nil, sdrop_in, sdrop_out, List.nil_append, List.cons_append, List.append_nil, List.map_nil, List.map_cons, List.take_succ_cons, List.take_zero, List.drop_succ_cons, List.drop_zero, take_len', take_map_len, Nat.zero_add, Nat.add_zero, ofCell, ofConst]; rfl) | rfl))
    first | refine ln rfl rfl rfl rfl ?_ | refine lg rfl rfl (lop_move (E rfl)) rfl ?_
    refine gy rfl rfl ?_
    refine pu [m, vq] Try.call22 (law_same11 (k1 := .any) (k2 := .any) V V) rfl ?_ (by repeat (first | exact NoF.int | exact NoF.bool | exact NoF.nilp | exact NoF.nil | exact NoF.own | exact NoF.ptr | exact NoF.str | exact nofl_nil | apply NoF.tup | apply NoF.agg | apply nofl_cons)) ?_
    · (repeat (first | exact ArgsIf.nil | (apply ArgsIf.cons; (first | exact W rfl id | exact W rfl (fun _ => rfl) | exact E rfl); (first | exact Bor.refl _ | exact Bor.le VLe.any | exact Bor.le VLe.empty | (apply bown; (repeat (first | exact List.mem_cons_self | apply List.mem_cons_of_mem)); (repeat (first | exact sget_here | (apply sget_next; (first | assumption | (apply Nq.en; assumption) | omega | (simp only [Nq] at *; omega))))); (first | focus (simp; done) | omega | focus (simp; omega)); (first | rfl | focus (simp; done) | focus (exact List.take_of_length_le (by first | (simp; done) | (simp; omega))))) | focus (apply bagg; (repeat (first | exact BorL.nil | (apply BorL.cons; (first | exact Bor.refl _ | exact Bor.le VLe.any | exact Bor.le VLe.empty | (apply bown; (repeat (first | exact List.mem_cons_self | apply List.mem_cons_of_mem)); (repeat (first | exact sget_here | (apply sget_next; (first | assumption | (apply Nq.en; assumption) | omega | (simp only [Nq] at *; omega))))); (first | focus (simp; done) | omega); (first | rfl | focus (simp; done) | focus (exact List.take_of_length_le (by first | (simp; done) | (simp; omega))))) | focus (apply Bor.le; apply VLe.of_eq; simp; done))))); done) | focus (apply Bor.le; apply VLe.of_eq; simp; done)))))
    rw [decide_eq_true (rfl : V = V)]
    first | refine lo (lop_pick_t (E rfl) (by first | exact W rfl (by simp) | exact E rfl)) rfl ?_ | refine lo (lop_pick_f (E rfl) (E rfl)) rfl ?_ | refine lo (lop_pick (E rfl) (by first | exact W rfl (by simp) | exact E rfl) (E rfl)) rfl ?_
    refine lo (lop_assign (E rfl)) rfl ?_
    apply le; (repeat (first | (apply KeepIs.take; rfl) | (apply KeepIs.skip; rfl) | exact KeepIs.nil))
    (repeat (first | refine cs ?_ | refine cb ?_ | refine ck ?_ | refine cx ?_ | refine cr ?_ | refine an ?_ | refine ae ?_ | refine ar ?_ | refine bn ?_ | refine bh ?_ | refine be rfl ?_ | refine br ?_ | refine ct rfl ?_ | refine cf rfl ?_))
    (apply aend; (repeat (first | exact ResL.nil | (apply ResL.tmp; rfl) | (apply ResL.cell; rfl; infer_instance; rfl; (repeat (first | exact sget_here | (apply sget_next; (first | assumption | (apply Nq.en; assumption) | omega | (simp only [Nq] at *; omega))))); rfl) | (apply ResL.cells; rfl; infer_instance; infer_instance; rfl; (repeat (first | exact sget_here | (apply sget_next; (first | assumption | (apply Nq.en; assumption) | omega | (simp only [Nq] at *; omega))))); exact Nat.le_of_ble_eq_true rfl))))
    · simp [resAV]
    · (first | exact no_mem | (apply StLe.mem; (repeat (first | exact StLe.nil | (apply StLe.cons; (repeat (first | exact List.mem_cons_self | apply List.mem_cons_of_mem)); first | rfl | focus (congr 1; done) | focus (simp; done) | (simp; rfl))))))
end Go.Proofs.Ytpdgnenffiphcaa
