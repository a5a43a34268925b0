/-
  ExtentFirst, walked.
-/
import Derived.Test.YtpdgnenffiphcaaExtentG
namespace Go.Proofs.Ytpdgnenffiphcaa
open Go.RowKit Go.ChangeShapes Go.WideShapes Go.ChangeAt Go.Deep
set_option linter.unusedSimpArgs false
set_option linter.unusedVariables false
attribute [local irreducible] SW RS RD AThen ABlock

def encI (n : Int) : List AV := [.int .i64 n]
structure FB where
  i : Nat
  P : List Bool
  L : List (Int × Int)
  V : Int
theorem first_spans {P : List Bool} {L : List (Int × Int)} {m : Nat} (h : P.foldl (stepS 0) ([], 0, false) = (L, P.length, false)) : spans 0 (P ++ List.replicate (m + 1) true) = L ++ [(0 + (P.length : Int), (m : Int) + 1)] := by
  unfold spans
  rw [List.foldl_append, h, fold_true]
theorem first_step {P : List Bool} {L : List (Int × Int)} {K : Nat} (h : P.foldl (stepS 0) ([], 0, false) = (L, P.length, false)) :
    (P ++ List.replicate (K + 1) true ++ [false]).foldl (stepS 0) ([], 0, false) = (L ++ [(0 + (P.length : Int), (K : Int) + 1)], (P ++ List.replicate (K + 1) true ++ [false]).length, false) := by
  rw [List.foldl_append, List.foldl_append, h, fold_true]
  simp [stepS]
  omega
theorem first_use {P : List Bool} {K : Nat} (h : P.length + K + 2 ≤ 400) : allB 0 (P ++ List.replicate (400 - P.length) true) ((P.length : Int) + (1 + (K : Int))) 1 true = true ∧ setF 0 (P ++ List.replicate (400 - P.length) true) ((P.length : Int) + (1 + (K : Int))) 1 false = P ++ List.replicate (K + 1) true ++ [false] ++ List.replicate (400 - (P ++ List.replicate (K + 1) true ++ [false]).length) true := by
  have e : P ++ List.replicate (400 - P.length) true = (P ++ List.replicate (K + 1) true) ++ List.replicate 1 (!false) ++ List.replicate (400 - (P ++ List.replicate (K + 1) true ++ [false]).length) true := by
    rw [show 400 - P.length = (K + 1) + 1 + (400 - (P ++ List.replicate (K + 1) true ++ [false]).length) by simp; omega]
    simp only [List.append_assoc, Bool.not_false, List.replicate_append_replicate]
  have e2 : (P.length : Int) + (1 + (K : Int)) = 0 + ((P ++ List.replicate (K + 1) true).length : Nat) := by rw [List.length_append, List.length_replicate]; omega
  rw [e, e2]
  constructor
  · exact allB_mid (n := 1) (by decide)
  · have := setF_mid (at_ := 0) (A := P ++ List.replicate (K + 1) true) (B := List.replicate (400 - (P ++ List.replicate (K + 1) true ++ [false]).length) true) (n := 1) (v := false) (by decide)
    exact this
set_option maxRecDepth 100000 in
set_option maxHeartbeats 4000000 in
theorem law_extentFirst (lens : List Int) (n : Int) : SCall Try.prog 8 [.ro 1 (lens.map encI) .any, .int .i64 n] [] (fun x _ => x = .bool true) := by
  refine scall_of (n := 82) (ks := [0, 1, 4, 5, 6, 7, 8, 9, 10, 11, 12, 15, 21, 30, 47, 55, 61]) Try.func8 rfl rfl (Nat.le_of_ble_eq_true rfl) ?_
  (repeat (first | refine cs ?_ | refine cb ?_ | refine ck ?_ | refine cx ?_ | refine cr ?_ | refine an ?_ | refine ae ?_ | refine ar ?_ | refine bn ?_ | refine bh ?_ | refine be rfl ?_ | refine br ?_ | refine ct rfl ?_ | refine cf rfl ?_))
  first | refine sw_seq_region ?_ | refine sw_region ?_
  refine lo (lop_assign (E rfl)) rfl ?_
  apply le; (repeat (first | (apply KeepIs.take; rfl) | (apply KeepIs.skip; rfl) | exact KeepIs.nil))
  (repeat (first | refine cs ?_ | refine cb ?_ | refine ck ?_ | refine cx ?_ | refine cr ?_ | refine an ?_ | refine ae ?_ | refine ar ?_ | refine bn ?_ | refine bh ?_ | refine be rfl ?_ | refine br ?_ | refine ct rfl ?_ | refine cf rfl ?_))
  first | refine sw_seq_region ?_ | refine sw_region ?_
  (first
     | refine pu [] Try.call23 law_begun19 rfl (by repeat (first
                                                             | exact ArgsIf.nil
                                                             | refine ArgsIf.cons (by first
                                                                                        | exact Ev.when rfl (by first
                                                                                                                  | exact id
                                                                                                                  | simp)
                                                                                        | exact Ev.here rfl) (by first
                                                                                                                   | exact Bor.refl _
                                                                                                                   | exact Bor.le VLe.any
                                                                                                                   | exact Bor.le VLe.empty
                                                                                                                   | exact Bor.own (by simp) (by repeat (first
                                                                                                                                                           | exact sget_here
                                                                                                                                                           | refine sget_next (by (first
                                                                                                                                                                                     | assumption
                                                                                                                                                                                     | (apply Nq.en; assumption)
                                                                                                                                                                                     | omega
                                                                                                                                                                                     | (simp only [Nq] at *; omega))) ?_)) (by simp)
                                                                                                                   | exact Bor.le (VLe.of_eq (by simp))) ?_)) (by repeat (first
                                                                                                                                                                            | exact NoF.int
                                                                                                                                                                            | exact NoF.bool
                                                                                                                                                                            | exact NoF.nilp
                                                                                                                                                                            | exact NoF.nil
                                                                                                                                                                            | exact NoF.own
                                                                                                                                                                            | exact NoF.ptr
                                                                                                                                                                            | exact NoF.str
                                                                                                                                                                            | exact nofl_nil
                                                                                                                                                                            | apply NoF.tup
                                                                                                                                                                            | apply NoF.agg
                                                                                                                                                                            | apply nofl_cons)) ?_
     | refine pug [] rfl rfl Try.call23 (fun _ => law_begun19) rfl (by repeat (first
                                                                                 | exact ArgsIf.nil
                                                                                 | refine ArgsIf.cons (by first
                                                                                                            | exact Ev.when rfl (by first
                                                                                                                                      | exact id
                                                                                                                                      | simp)
                                                                                                            | exact Ev.here rfl) (by first
                                                                                                                                       | exact Bor.refl _
                                                                                                                                       | exact Bor.le VLe.any
                                                                                                                                       | exact Bor.le VLe.empty
                                                                                                                                       | exact Bor.own (by simp) (by repeat (first
                                                                                                                                                                               | exact sget_here
                                                                                                                                                                               | refine sget_next (by (first
                                                                                                                                                                                                         | assumption
                                                                                                                                                                                                         | (apply Nq.en; assumption)
                                                                                                                                                                                                         | omega
                                                                                                                                                                                                         | (simp only [Nq] at *; omega))) ?_)) (by simp)
                                                                                                                                       | exact Bor.le (VLe.of_eq (by simp))) ?_)) (by repeat (first
                                                                                                                                                                                                | exact NoF.int
                                                                                                                                                                                                | exact NoF.bool
                                                                                                                                                                                                | exact NoF.nilp
                                                                                                                                                                                                | exact NoF.nil
                                                                                                                                                                                                | exact NoF.own
                                                                                                                                                                                                | exact NoF.ptr
                                                                                                                                                                                                | exact NoF.str
                                                                                                                                                                                                | exact nofl_nil
                                                                                                                                                                                                | apply NoF.tup
                                                                                                                                                                                                | apply NoF.agg
                                                                                                                                                                                                | apply nofl_cons)) ?_)
  refine lo (lop_assign (E rfl)) rfl ?_
  apply le; (repeat (first | (apply KeepIs.take; rfl) | (apply KeepIs.skip; rfl) | exact KeepIs.nil))
  (repeat (first | refine cs ?_ | refine cb ?_ | refine ck ?_ | refine cx ?_ | refine cr ?_ | refine an ?_ | refine ae ?_ | refine ar ?_ | refine bn ?_ | refine bh ?_ | refine be rfl ?_ | refine br ?_ | refine ct rfl ?_ | refine cf rfl ?_))
  first | refine sw_seq_region ?_ | refine sw_region ?_
  refine lo (lop_move (E rfl)) rfl ?_
  refine lo (lop_not (E rfl)) rfl ?_
  apply le; (repeat (first | (apply KeepIs.take; rfl) | (apply KeepIs.skip; rfl) | exact KeepIs.nil))
  (repeat (first | refine cs ?_ | refine cb ?_ | refine ck ?_ | refine cx ?_ | refine cr ?_ | refine an ?_ | refine ae ?_ | refine ar ?_ | refine bn ?_ | refine bh ?_ | refine be rfl ?_ | refine br ?_ | refine ct rfl ?_ | refine cf rfl ?_))
  first | refine sw_seq_region ?_ | refine sw_region ?_
  refine lo (lop_move (E rfl)) rfl ?_
  refine lo (lop_lss (E rfl) (E rfl)) rfl ?_
  refine lo (lop_move (E rfl)) rfl ?_
  first | refine ln rfl rfl rfl rfl ?_ | refine lg rfl rfl (lop_move (E rfl)) rfl ?_
  first | refine ln rfl rfl rfl rfl ?_ | refine lg rfl rfl (lop_gtr (W rfl id) (E rfl)) rfl ?_
  first | refine lo (lop_pick_t (E rfl) (E rfl)) rfl ?_ | refine lo (lop_pick_f (E rfl) (W rfl (by simp))) rfl ?_ | refine lo (lop_pick (E rfl) (E rfl) (W rfl (by simp))) rfl ?_
  apply le; (repeat (first | (apply KeepIs.take; rfl) | (apply KeepIs.skip; rfl) | exact KeepIs.nil))
  (repeat (first | refine cs ?_ | refine cb ?_ | refine ck ?_ | refine cx ?_ | refine cr ?_ | refine an ?_ | refine ae ?_ | refine ar ?_ | refine bn ?_ | refine bh ?_ | refine be rfl ?_ | refine br ?_ | refine ct rfl ?_ | refine cf rfl ?_))
  refine sw_cond rfl (fun h => ?_) (fun h => ?_)
  · (repeat (first | refine cs ?_ | refine cb ?_ | refine ck ?_ | refine cx ?_ | refine cr ?_ | refine an ?_ | refine ae ?_ | refine ar ?_ | refine bn ?_ | refine bh ?_ | refine be rfl ?_ | refine br ?_ | refine ct rfl ?_ | refine cf rfl ?_))
    first | refine sw_seq_region ?_ | refine sw_region ?_
    refine lo (lop_assign (E rfl)) rfl ?_
    apply le; (repeat (first | (apply KeepIs.take; rfl) | (apply KeepIs.skip; rfl) | exact KeepIs.nil))
    (repeat (first | refine cs ?_ | refine cb ?_ | refine ck ?_ | refine cx ?_ | refine cr ?_ | refine an ?_ | refine ae ?_ | refine ar ?_ | refine bn ?_ | refine bh ?_ | refine be rfl ?_ | refine br ?_ | refine ct rfl ?_ | refine cf rfl ?_))
    (apply aend; (repeat (first
                            | exact ResL.nil
                            | (apply ResL.tmp; rfl)
                            | (apply ResL.cell; rfl; infer_instance; rfl; (repeat (first
                                                                                     | exact sget_here
                                                                                     | (apply sget_next; (first
                                                                                                            | assumption
                                                                                                            | (apply Nq.en; assumption)
                                                                                                            | omega
                                                                                                            | (simp only [Nq] at *; omega))))); rfl)
                            | (apply ResL.cells; rfl; infer_instance; infer_instance; rfl; (repeat (first
                                                                                                      | exact sget_here
                                                                                                      | (apply sget_next; (first
                                                                                                                             | assumption
                                                                                                                             | (apply Nq.en; assumption)
                                                                                                                             | omega
                                                                                                                             | (simp only [Nq] at *; omega))))); exact Nat.le_of_ble_eq_true rfl))))
    · exact rfl
    · (first | exact no_mem | (apply StLe.mem; (repeat (first | exact StLe.nil | (apply StLe.cons; (repeat (first | exact List.mem_cons_self | apply List.mem_cons_of_mem)); first | rfl | focus (congr 1; done) | focus (simp; done) | (simp; rfl))))))
  simp at h
  (repeat (first | refine cs ?_ | refine cb ?_ | refine ck ?_ | refine cx ?_ | refine cr ?_ | refine an ?_ | refine ae ?_ | refine ar ?_ | refine bn ?_ | refine bh ?_ | refine be rfl ?_ | refine br ?_ | refine ct rfl ?_ | refine cf rfl ?_))
  first | refine sw_seq_region ?_ | refine sw_region ?_
  refine cw [] Try.call24 (extent_new 0 400) rfl ?_ ?_ ?_
  · (repeat (first | exact ArgsLe.nil | (apply ArgsLe.cons; rfl; first | exact VLe.refl _ | exact VLe.when rfl | exact VLe.any | exact VLe.empty | exact VLe.of_eq (by simp))))
  · (first | exact no_mem | (apply StLe.mem; (repeat (first | exact StLe.nil | (apply StLe.cons; (repeat (first | exact List.mem_cons_self | apply List.mem_cons_of_mem)); first | rfl | focus (congr 1; done) | focus (simp; done) | (simp; rfl))))))
  rintro x σ' ⟨s, q, hq, rfl, rfl⟩ -
  rw [show newF 0 400 = ([] : List Bool) ++ List.replicate (400 - ([] : List Bool).length) true from rfl, show newA 0 400 = 0 from rfl]
  (apply rs_sto; (first
                    | (simp (disch := (first
                                         | (simp only [List.mem_cons, List.not_mem_nil, true_or, or_true, or_false]; done)
                                         | (focus (simp only [List.mem_cons, List.not_mem_nil, or_false, not_or]; (repeat' (first
                                                                                                                              | apply And.intro
                                                                                                                              | (first
                                                                                                                                   | assumption
                                                                                                                                   | (apply Nq.en; assumption)
                                                                                                                                   | omega
                                                                                                                                   | (simp only [Nq] at *; omega)))); done))
                                         | omega)) only [↓put_σ, ↓mk_σ, AV.cells, sset, sdrop_none, sdrop_nil, sdrop_in, sdrop_out, List.nil_append, List.cons_append, List.append_nil, List.map_nil, List.map_cons, List.take_succ_cons, List.take_zero, List.drop_succ_cons, List.drop_zero, take_len', take_map_len, Nat.zero_add, Nat.add_zero, ofCell, ofConst]; rfl)
                    | rfl))
  refine lo (lop_assign (E rfl)) rfl ?_
  apply le; (repeat (first | (apply KeepIs.take; rfl) | (apply KeepIs.skip; rfl) | exact KeepIs.nil))
  (repeat (first | refine cs ?_ | refine cb ?_ | refine ck ?_ | refine cx ?_ | refine cr ?_ | refine an ?_ | refine ae ?_ | refine ar ?_ | refine bn ?_ | refine bh ?_ | refine be rfl ?_ | refine br ?_ | refine ct rfl ?_ | refine cf rfl ?_))
  first | refine sw_seq_region ?_ | refine sw_region ?_
  refine lo (lop_assign (E rfl)) rfl ?_
  refine lo (lop_assign (E rfl)) rfl ?_
  apply le; (repeat (first | (apply KeepIs.take; rfl) | (apply KeepIs.skip; rfl) | exact KeepIs.nil))
  (repeat (first | refine cs ?_ | refine cb ?_ | refine ck ?_ | refine cx ?_ | refine cr ?_ | refine an ?_ | refine ae ?_ | refine ar ?_ | refine bn ?_ | refine bh ?_ | refine be rfl ?_ | refine br ?_ | refine ct rfl ?_ | refine cf rfl ?_))
  first | refine sw_seq_region ?_ | refine sw_region ?_
  refine lo (lop_assign (E rfl)) rfl ?_
  apply le; (repeat (first | (apply KeepIs.take; rfl) | (apply KeepIs.skip; rfl) | exact KeepIs.nil))
  (repeat (first | refine cs ?_ | refine cb ?_ | refine ck ?_ | refine cx ?_ | refine cr ?_ | refine an ?_ | refine ae ?_ | refine ar ?_ | refine bn ?_ | refine bh ?_ | refine be rfl ?_ | refine br ?_ | refine ct rfl ?_ | refine cf rfl ?_))
  refine lp (β := FB) (fun b => ⟨[(0, .ro 1 (lens.map encI) .any), (1, .int .i64 n), (6, .ptr s 0), (7, .int .i64 b.P.length), (8, .int .i64 b.V), (9, .int .i64 b.i)], [(s, .box 83 [.int .i64 0, .own q 0 (b.P ++ List.replicate (400 - b.P.length) true).length]), (q, .arr 4 1 ((b.P ++ List.replicate (400 - b.P.length) true).map encB))]⟩)
    (fun b => b.i ≤ 12 ∧ b.i ≤ lens.length ∧ b.P.length ≤ 21 * b.i ∧ b.P.foldl (stepS 0) ([], 0, false) = (b.L, b.P.length, false) ∧ (b.L.find? fun p => decide (1 ≤ n) && decide (n ≤ p.2)).map (·.1) = (if b.V < 0 then none else some b.V) ∧ -1 ≤ b.V) (fun b => 12 - b.i) ⟨0, [], [], -1⟩ ?_ ⟨by decide, Nat.zero_le _, by decide, rfl, rfl, by decide⟩ ?_
  · (refine sgo_st ?_ ?_ <;> (repeat (first
                                        | exact FrLe.nil
                                        | (apply FrLe.cons; rfl; first
                                                                   | exact VLe.refl _
                                                                   | exact VLe.any
                                                                   | exact VLe.empty
                                                                   | exact VLe.of_eq (by simp)
                                                                   | exact VLe.of_eq (by congr 1; omega))
                                        | exact StLe.nil
                                        | (apply StLe.cons; (repeat (first
                                                                       | exact List.mem_cons_self
                                                                       | apply List.mem_cons_of_mem)); first
                                                                                                         | rfl
                                                                                                         | focus (congr 1; done)
                                                                                                         | focus (simp; done)
                                                                                                         | (simp; rfl)))))
  rintro ⟨i, P, L, V⟩ ⟨hi, hil, hP, hfold, hw, hW⟩
  simp only at hi hil hP hfold hw hW ⊢
  have hfl : (P ++ List.replicate (400 - P.length) true).length ≤ 100000 := by simp; omega
  (repeat (first | refine cs ?_ | refine cb ?_ | refine ck ?_ | refine cx ?_ | refine cr ?_ | refine an ?_ | refine ae ?_ | refine ar ?_ | refine bn ?_ | refine bh ?_ | refine be rfl ?_ | refine br ?_ | refine ct rfl ?_ | refine cf rfl ?_))
  first | refine sw_seq_region ?_ | refine sw_region ?_
  refine lo (lop_move (E rfl)) rfl ?_
  refine lo (lop_move (E rfl)) rfl ?_
  first | refine lo (lop_len_map (E rfl)) rfl ?_ | refine lo (lop_len_ro (E rfl)) rfl ?_ | refine lo (lop_len_own (E rfl)) rfl ?_
  refine lo (lop_lss (E rfl) (E rfl)) rfl ?_
  refine lo (lop_move (E rfl)) rfl ?_
  first | refine ln rfl rfl rfl rfl ?_ | refine lg rfl rfl (lop_move (E rfl)) rfl ?_
  first | refine ln rfl rfl rfl rfl ?_ | refine lg rfl rfl (lop_lss (W rfl id) (E rfl)) rfl ?_
  first | refine lo (lop_pick_t (E rfl) (W rfl (by simp))) rfl ?_ | refine lo (lop_pick_f (E rfl) (E rfl)) rfl ?_ | refine lo (lop_pick (E rfl) (W rfl (by simp)) (E rfl)) rfl ?_
  apply le; (repeat (first | (apply KeepIs.take; rfl) | (apply KeepIs.skip; rfl) | exact KeepIs.nil))
  (repeat (first | refine cs ?_ | refine cb ?_ | refine ck ?_ | refine cx ?_ | refine cr ?_ | refine an ?_ | refine ae ?_ | refine ar ?_ | refine bn ?_ | refine bh ?_ | refine be rfl ?_ | refine br ?_ | refine ct rfl ?_ | refine cf rfl ?_))
  refine sw_cond rfl (fun h2 => ?_) (fun h2 => ?_)
  · have hlt : i < lens.length ∧ i < 12 := by simp at h2; omega
    obtain ⟨x, hx⟩ : ∃ x, lens[i]? = some x := ⟨_, List.getElem?_eq_getElem hlt.1⟩
    have hb1 : -20 < x.tmod 20 ∧ x.tmod 20 < 20 := ⟨Int.lt_tmod_of_pos x (by decide), Int.tmod_lt_of_pos x (by decide)⟩
    have hb2 : 0 ≤ (x.tmod 20 + 20).tmod 20 ∧ (x.tmod 20 + 20).tmod 20 < 20 := ⟨Int.tmod_nonneg _ (by omega), Int.tmod_lt_of_pos _ (by decide)⟩
    obtain ⟨K, hK⟩ := Int.eq_ofNat_of_zero_le hb2.1
    (repeat (first | refine cs ?_ | refine cb ?_ | refine ck ?_ | refine cx ?_ | refine cr ?_ | refine an ?_ | refine ae ?_ | refine ar ?_ | refine bn ?_ | refine bh ?_ | refine be rfl ?_ | refine br ?_ | refine ct rfl ?_ | refine cf rfl ?_))
    first | refine sw_seq_region ?_ | refine sw_region ?_
    refine lo (lop_move (E rfl)) rfl ?_
    refine lo (lop_move (E rfl)) rfl ?_
    first
      | refine lo (lop_index_ro (E rfl) (E rfl) (fun hc => by simp only [List.length_map]; omega)) rfl ?_
      | refine lo (lop_index_own0 (E rfl) (by repeat (first
                                                        | exact sget_here
                                                        | refine sget_next (by (first
                                                                                  | assumption
                                                                                  | (apply Nq.en; assumption)
                                                                                  | omega
                                                                                  | (simp only [Nq] at *; omega))) ?_)) (E rfl) (fun hc => by omega)) rfl ?_
      | refine lo (lop_index_own (E rfl) (by repeat (first
                                                       | exact sget_here
                                                       | refine sget_next (by (first
                                                                                 | assumption
                                                                                 | (apply Nq.en; assumption)
                                                                                 | omega
                                                                                 | (simp only [Nq] at *; omega))) ?_)) (E rfl) (fun hc => by omega)) rfl ?_
    first
      | refine lo (lop_load_el (E rfl) rfl (fun hc => by first
                                                           | rfl
                                                           | exact get_map (by assumption)
                                                           | assumption
                                                           | exact get_map (at_bang (by omega))) (fun _ => rfl)) rfl ?_
      | refine lo (lop_load_ow (E rfl) rfl (by repeat (first
                                                         | exact sget_here
                                                         | refine sget_next (by (first
                                                                                   | assumption
                                                                                   | (apply Nq.en; assumption)
                                                                                   | omega
                                                                                   | (simp only [Nq] at *; omega))) ?_)) (fun hc => by first
                                                                                                                                         | rfl
                                                                                                                                         | exact get_map (by assumption)
                                                                                                                                         | assumption
                                                                                                                                         | exact get_map (at_bang (by omega))) (fun _ => rfl)) rfl ?_
    refine lo (lop_rem (E rfl) (E rfl) (fun _ => by first | decide | omega)) rfl ?_
    first | refine lo (lop_add64 (E rfl) (E rfl) (by omega) (by omega)) rfl ?_ | refine lo (lop_add (E rfl) (E rfl)) rfl ?_
    refine lo (lop_rem (E rfl) (E rfl) (fun _ => by first | decide | omega)) rfl ?_
    first | refine lo (lop_add64 (E rfl) (E rfl) (by omega) (by omega)) rfl ?_ | refine lo (lop_add (E rfl) (E rfl)) rfl ?_
    refine lo (lop_assign (E rfl)) rfl ?_
    apply le; (repeat (first | (apply KeepIs.take; rfl) | (apply KeepIs.skip; rfl) | exact KeepIs.nil))
    (repeat (first | refine cs ?_ | refine cb ?_ | refine ck ?_ | refine cx ?_ | refine cr ?_ | refine an ?_ | refine ae ?_ | refine ar ?_ | refine bn ?_ | refine bh ?_ | refine be rfl ?_ | refine br ?_ | refine ct rfl ?_ | refine cf rfl ?_))
    rw [hK] at hb2 ⊢
    obtain ⟨ha, hs⟩ := first_use (P := P) (K := K) (by omega)
    have hfold' := first_step (K := K) hfold
    first | refine sw_seq_region ?_ | refine sw_region ?_
    refine lo (lop_move (E rfl)) rfl ?_
    refine lo (lop_lss (E rfl) (E rfl)) rfl ?_
    refine lo (lop_move (E rfl)) rfl ?_
    first | refine ln rfl rfl rfl rfl ?_ | refine lg rfl rfl (lop_move (E rfl)) rfl ?_
    first | refine ln rfl rfl rfl rfl ?_ | refine lg rfl rfl (lop_move (E rfl)) rfl ?_
    first | refine ln rfl rfl rfl rfl ?_ | refine lg rfl rfl (lop_geq (W rfl id) (W rfl id)) rfl ?_
    first | refine lo (lop_pick_t (E rfl) (W rfl (by simp))) rfl ?_ | refine lo (lop_pick_f (E rfl) (E rfl)) rfl ?_ | refine lo (lop_pick (E rfl) (W rfl (by simp)) (E rfl)) rfl ?_
    apply le; (repeat (first | (apply KeepIs.take; rfl) | (apply KeepIs.skip; rfl) | exact KeepIs.nil))
    (repeat (first | refine cs ?_ | refine cb ?_ | refine ck ?_ | refine cx ?_ | refine cr ?_ | refine an ?_ | refine ae ?_ | refine ar ?_ | refine bn ?_ | refine bh ?_ | refine be rfl ?_ | refine br ?_ | refine ct rfl ?_ | refine cf rfl ?_))
    refine sw_cond rfl (fun h3 => ?_) (fun h3 => ?_)
    · have h4 : V < 0 ∧ n ≤ 1 + K := by simpa using h3
      (repeat (first | refine cs ?_ | refine cb ?_ | refine ck ?_ | refine cx ?_ | refine cr ?_ | refine an ?_ | refine ae ?_ | refine ar ?_ | refine bn ?_ | refine bh ?_ | refine be rfl ?_ | refine br ?_ | refine ct rfl ?_ | refine cf rfl ?_))
      first | refine sw_seq_region ?_ | refine sw_region ?_
      refine lo (lop_move (E rfl)) rfl ?_
      refine lo (lop_assign (E rfl)) rfl ?_
      apply le; (repeat (first | (apply KeepIs.take; rfl) | (apply KeepIs.skip; rfl) | exact KeepIs.nil))
      (repeat (first | refine cs ?_ | refine cb ?_ | refine ck ?_ | refine cx ?_ | refine cr ?_ | refine an ?_ | refine ae ?_ | refine ar ?_ | refine bn ?_ | refine bh ?_ | refine be rfl ?_ | refine br ?_ | refine ct rfl ?_ | refine cf rfl ?_))
      first | refine sw_seq_region ?_ | refine sw_region ?_
      refine lo (lop_move (E rfl)) rfl ?_
      refine lo (lop_move (E rfl)) rfl ?_
      refine lo (lop_move (E rfl)) rfl ?_
      first | refine lo (lop_add64 (E rfl) (E rfl) (by omega) (by omega)) rfl ?_ | refine lo (lop_add (E rfl) (E rfl)) rfl ?_
      refine lo (lop_str (by repeat (first
                                       | exact PEvs.nil
                                       | (apply PEvs.cons; first
                                                             | exact W rfl id
                                                             | exact E rfl))) (by (first
                                                                                     | (simp only [Value.cells, AV.cells, List.map_cons, List.map_nil, ofConst, ofCell]; rfl)
                                                                                     | rfl)) (by repeat (first
                                                                                                           | exact Fill.nil
                                                                                                           | (apply Fill.cons; rfl; rfl; rfl; (repeat (first
                                                                                                                                                         | exact Put.done
                                                                                                                                                         | apply Put.put
                                                                                                                                                         | apply Put.skip)))))) rfl ?_
      refine cw [(s, .box 83 [.int .i64 0, .own q 0 (P ++ List.replicate (400 - P.length) true).length]), (q, .arr 4 1 ((P ++ List.replicate (400 - P.length) true).map encB))] Try.call26 (extent_Use hq 0 (P ++ List.replicate (400 - P.length) true) (by decide) hfl ((P.length : Int) + (1 + (K : Int))) 1 (by omega) (by omega)) rfl ?_ ?_ ?_
      · (repeat (first | exact ArgsLe.nil | (apply ArgsLe.cons; rfl; first | exact VLe.refl _ | exact VLe.when rfl | exact VLe.any | exact VLe.empty | exact VLe.of_eq (by simp))))
      · (first | exact no_mem | (apply StLe.mem; (repeat (first | exact StLe.nil | (apply StLe.cons; (repeat (first | exact List.mem_cons_self | apply List.mem_cons_of_mem)); first | rfl | focus (congr 1; done) | focus (simp; done) | (simp; rfl))))))
      rintro x σ' ⟨rfl, rfl⟩ -
      rw [ha, hs]
      (apply rs_sto; (first
                        | (simp (disch := (first
                                             | (simp only [List.mem_cons, List.not_mem_nil, true_or, or_true, or_false]; done)
                                             | (focus (simp only [List.mem_cons, List.not_mem_nil, or_false, not_or]; (repeat' (first
                                                                                                                                  | apply And.intro
                                                                                                                                  | (first
                                                                                                                                       | assumption
                                                                                                                                       | (apply Nq.en; assumption)
                                                                                                                                       | omega
                                                                                                                                       | (simp only [Nq] at *; omega)))); done))
                                             | omega)) only [↓put_σ, ↓mk_σ, AV.cells, sset, sdrop_none, sdrop_nil, sdrop_in, sdrop_out, List.nil_append, List.cons_append, List.append_nil, List.map_nil, List.map_cons, List.take_succ_cons, List.take_zero, List.drop_succ_cons, List.drop_zero, take_len', take_map_len, Nat.zero_add, Nat.add_zero, ofCell, ofConst]; rfl)
                        | rfl))
      refine lo (lop_not (E rfl)) rfl ?_
      apply le; (repeat (first | (apply KeepIs.take; rfl) | (apply KeepIs.skip; rfl) | exact KeepIs.nil))
      (repeat (first | refine cs ?_ | refine cb ?_ | refine ck ?_ | refine cx ?_ | refine cr ?_ | refine an ?_ | refine ae ?_ | refine ar ?_ | refine bn ?_ | refine bh ?_ | refine be rfl ?_ | refine br ?_ | refine ct rfl ?_ | refine cf rfl ?_))
      first | refine sw_seq_region ?_ | refine sw_region ?_
      refine lo (lop_move (E rfl)) rfl ?_
      refine lo (lop_move (E rfl)) rfl ?_
      first | refine lo (lop_add64 (E rfl) (E rfl) (by omega) (by omega)) rfl ?_ | refine lo (lop_add (E rfl) (E rfl)) rfl ?_
      first | refine lo (lop_add64 (E rfl) (E rfl) (by omega) (by omega)) rfl ?_ | refine lo (lop_add (E rfl) (E rfl)) rfl ?_
      refine lo (lop_assign (E rfl)) rfl ?_
      apply le; (repeat (first | (apply KeepIs.take; rfl) | (apply KeepIs.skip; rfl) | exact KeepIs.nil))
      (repeat (first | refine cs ?_ | refine cb ?_ | refine ck ?_ | refine cx ?_ | refine cr ?_ | refine an ?_ | refine ae ?_ | refine ar ?_ | refine bn ?_ | refine bh ?_ | refine be rfl ?_ | refine br ?_ | refine ct rfl ?_ | refine cf rfl ?_))
      first | refine sw_seq_region ?_ | refine sw_region ?_
      refine lo (lop_move (E rfl)) rfl ?_
      first | refine lo (lop_add64 (E rfl) (E rfl) (by omega) (by omega)) rfl ?_ | refine lo (lop_add (E rfl) (E rfl)) rfl ?_
      refine lo (lop_assign (E rfl)) rfl ?_
      apply le; (repeat (first | (apply KeepIs.take; rfl) | (apply KeepIs.skip; rfl) | exact KeepIs.nil))
      (repeat (first | refine cs ?_ | refine cb ?_ | refine ck ?_ | refine cx ?_ | refine cr ?_ | refine an ?_ | refine ae ?_ | refine ar ?_ | refine bn ?_ | refine bh ?_ | refine be rfl ?_ | refine br ?_ | refine ct rfl ?_ | refine cf rfl ?_))
      refine ⟨⟨i + 1, P ++ List.replicate (K + 1) true ++ [false], L ++ [(0 + (P.length : Int), (K : Int) + 1)], (P.length : Int)⟩, ⟨by show i + 1 ≤ 12; omega, by show i + 1 ≤ lens.length; omega, by simp; omega, hfold', ?_, by show (-1 : Int) ≤ (P.length : Int); omega⟩, by show 12 - (i + 1) < 12 - i; omega, ?_⟩
      · rw [List.find?_append]
        have hw2 := hw
        rw [if_pos h4.1, Option.map_eq_none_iff] at hw2
        rw [hw2, List.find?_cons_of_pos (by simp; omega)]
        simp
      · rw [show (((P ++ List.replicate (K + 1) true ++ [false]).length : Nat) : Int) = P.length + (1 + K + 1) by simp; omega]
        (refine sgo_st ?_ ?_ <;> (repeat (first
                                            | exact FrLe.nil
                                            | (apply FrLe.cons; rfl; first
                                                                       | exact VLe.refl _
                                                                       | exact VLe.any
                                                                       | exact VLe.empty
                                                                       | exact VLe.of_eq (by simp)
                                                                       | exact VLe.of_eq (by congr 1; omega))
                                            | exact StLe.nil
                                            | (apply StLe.cons; (repeat (first
                                                                           | exact List.mem_cons_self
                                                                           | apply List.mem_cons_of_mem)); first
                                                                                                             | rfl
                                                                                                             | focus (congr 1; done)
                                                                                                             | focus (simp; done)
                                                                                                             | (simp; rfl)))))
    · have h4 : V < 0 → ¬ (n ≤ 1 + K) := by
        intro h5 h6
        simp [h5, h6] at h3
      (repeat (first | refine cs ?_ | refine cb ?_ | refine ck ?_ | refine cx ?_ | refine cr ?_ | refine an ?_ | refine ae ?_ | refine ar ?_ | refine bn ?_ | refine bh ?_ | refine be rfl ?_ | refine br ?_ | refine ct rfl ?_ | refine cf rfl ?_))
      first | refine sw_seq_region ?_ | refine sw_region ?_
      refine lo (lop_move (E rfl)) rfl ?_
      refine lo (lop_move (E rfl)) rfl ?_
      refine lo (lop_move (E rfl)) rfl ?_
      first | refine lo (lop_add64 (E rfl) (E rfl) (by omega) (by omega)) rfl ?_ | refine lo (lop_add (E rfl) (E rfl)) rfl ?_
      refine lo (lop_str (by repeat (first
                                       | exact PEvs.nil
                                       | (apply PEvs.cons; first
                                                             | exact W rfl id
                                                             | exact E rfl))) (by (first
                                                                                     | (simp only [Value.cells, AV.cells, List.map_cons, List.map_nil, ofConst, ofCell]; rfl)
                                                                                     | rfl)) (by repeat (first
                                                                                                           | exact Fill.nil
                                                                                                           | (apply Fill.cons; rfl; rfl; rfl; (repeat (first
                                                                                                                                                         | exact Put.done
                                                                                                                                                         | apply Put.put
                                                                                                                                                         | apply Put.skip)))))) rfl ?_
      refine cw [(s, .box 83 [.int .i64 0, .own q 0 (P ++ List.replicate (400 - P.length) true).length]), (q, .arr 4 1 ((P ++ List.replicate (400 - P.length) true).map encB))] Try.call26 (extent_Use hq 0 (P ++ List.replicate (400 - P.length) true) (by decide) hfl ((P.length : Int) + (1 + (K : Int))) 1 (by omega) (by omega)) rfl ?_ ?_ ?_
      · (repeat (first | exact ArgsLe.nil | (apply ArgsLe.cons; rfl; first | exact VLe.refl _ | exact VLe.when rfl | exact VLe.any | exact VLe.empty | exact VLe.of_eq (by simp))))
      · (first | exact no_mem | (apply StLe.mem; (repeat (first | exact StLe.nil | (apply StLe.cons; (repeat (first | exact List.mem_cons_self | apply List.mem_cons_of_mem)); first | rfl | focus (congr 1; done) | focus (simp; done) | (simp; rfl))))))
      rintro x σ' ⟨rfl, rfl⟩ -
      rw [ha, hs]
      (apply rs_sto; (first
                        | (simp (disch := (first
                                             | (simp only [List.mem_cons, List.not_mem_nil, true_or, or_true, or_false]; done)
                                             | (focus (simp only [List.mem_cons, List.not_mem_nil, or_false, not_or]; (repeat' (first
                                                                                                                                  | apply And.intro
                                                                                                                                  | (first
                                                                                                                                       | assumption
                                                                                                                                       | (apply Nq.en; assumption)
                                                                                                                                       | omega
                                                                                                                                       | (simp only [Nq] at *; omega)))); done))
                                             | omega)) only [↓put_σ, ↓mk_σ, AV.cells, sset, sdrop_none, sdrop_nil, sdrop_in, sdrop_out, List.nil_append, List.cons_append, List.append_nil, List.map_nil, List.map_cons, List.take_succ_cons, List.take_zero, List.drop_succ_cons, List.drop_zero, take_len', take_map_len, Nat.zero_add, Nat.add_zero, ofCell, ofConst]; rfl)
                        | rfl))
      refine lo (lop_not (E rfl)) rfl ?_
      apply le; (repeat (first | (apply KeepIs.take; rfl) | (apply KeepIs.skip; rfl) | exact KeepIs.nil))
      (repeat (first | refine cs ?_ | refine cb ?_ | refine ck ?_ | refine cx ?_ | refine cr ?_ | refine an ?_ | refine ae ?_ | refine ar ?_ | refine bn ?_ | refine bh ?_ | refine be rfl ?_ | refine br ?_ | refine ct rfl ?_ | refine cf rfl ?_))
      first | refine sw_seq_region ?_ | refine sw_region ?_
      refine lo (lop_move (E rfl)) rfl ?_
      refine lo (lop_move (E rfl)) rfl ?_
      first | refine lo (lop_add64 (E rfl) (E rfl) (by omega) (by omega)) rfl ?_ | refine lo (lop_add (E rfl) (E rfl)) rfl ?_
      first | refine lo (lop_add64 (E rfl) (E rfl) (by omega) (by omega)) rfl ?_ | refine lo (lop_add (E rfl) (E rfl)) rfl ?_
      refine lo (lop_assign (E rfl)) rfl ?_
      apply le; (repeat (first | (apply KeepIs.take; rfl) | (apply KeepIs.skip; rfl) | exact KeepIs.nil))
      (repeat (first | refine cs ?_ | refine cb ?_ | refine ck ?_ | refine cx ?_ | refine cr ?_ | refine an ?_ | refine ae ?_ | refine ar ?_ | refine bn ?_ | refine bh ?_ | refine be rfl ?_ | refine br ?_ | refine ct rfl ?_ | refine cf rfl ?_))
      first | refine sw_seq_region ?_ | refine sw_region ?_
      refine lo (lop_move (E rfl)) rfl ?_
      first | refine lo (lop_add64 (E rfl) (E rfl) (by omega) (by omega)) rfl ?_ | refine lo (lop_add (E rfl) (E rfl)) rfl ?_
      refine lo (lop_assign (E rfl)) rfl ?_
      apply le; (repeat (first | (apply KeepIs.take; rfl) | (apply KeepIs.skip; rfl) | exact KeepIs.nil))
      (repeat (first | refine cs ?_ | refine cb ?_ | refine ck ?_ | refine cx ?_ | refine cr ?_ | refine an ?_ | refine ae ?_ | refine ar ?_ | refine bn ?_ | refine bh ?_ | refine be rfl ?_ | refine br ?_ | refine ct rfl ?_ | refine cf rfl ?_))
      refine ⟨⟨i + 1, P ++ List.replicate (K + 1) true ++ [false], L ++ [(0 + (P.length : Int), (K : Int) + 1)], V⟩, ⟨by show i + 1 ≤ 12; omega, by show i + 1 ≤ lens.length; omega, by simp; omega, hfold', ?_, by show (-1 : Int) ≤ V; omega⟩, by show 12 - (i + 1) < 12 - i; omega, ?_⟩
      · rw [List.find?_append]
        have hw2 := hw
        show Option.map _ _ = (if V < 0 then none else some V)
        rcases Int.lt_or_le V 0 with h5 | h5
        · rw [if_pos h5, Option.map_eq_none_iff] at hw2
          rw [hw2, List.find?_cons_of_neg (by have := h4 h5; simp; omega), if_pos h5]
          rfl
        · rw [if_neg (by omega)] at hw2 ⊢
          obtain ⟨p, hp, rfl⟩ := Option.map_eq_some_iff.1 hw2
          rw [hp]
          rfl
      · rw [show (((P ++ List.replicate (K + 1) true ++ [false]).length : Nat) : Int) = P.length + (1 + K + 1) by simp; omega]
        (refine sgo_st ?_ ?_ <;> (repeat (first
                                            | exact FrLe.nil
                                            | (apply FrLe.cons; rfl; first
                                                                       | exact VLe.refl _
                                                                       | exact VLe.any
                                                                       | exact VLe.empty
                                                                       | exact VLe.of_eq (by simp)
                                                                       | exact VLe.of_eq (by congr 1; omega))
                                            | exact StLe.nil
                                            | (apply StLe.cons; (repeat (first
                                                                           | exact List.mem_cons_self
                                                                           | apply List.mem_cons_of_mem)); first
                                                                                                             | rfl
                                                                                                             | focus (congr 1; done)
                                                                                                             | focus (simp; done)
                                                                                                             | (simp; rfl)))))
  have hsp := first_spans (m := 400 - P.length - 1) hfold
  rw [show 400 - P.length - 1 + 1 = 400 - P.length by omega] at hsp
  (repeat (first | refine cs ?_ | refine cb ?_ | refine ck ?_ | refine cx ?_ | refine cr ?_ | refine an ?_ | refine ae ?_ | refine ar ?_ | refine bn ?_ | refine bh ?_ | refine be rfl ?_ | refine br ?_ | refine ct rfl ?_ | refine cf rfl ?_))
  first | refine sw_seq_region ?_ | refine sw_region ?_
  refine lo (lop_move (E rfl)) rfl ?_
  refine lo (lop_lss (E rfl) (E rfl)) rfl ?_
  apply le; (repeat (first | (apply KeepIs.take; rfl) | (apply KeepIs.skip; rfl) | exact KeepIs.nil))
  (repeat (first | refine cs ?_ | refine cb ?_ | refine ck ?_ | refine cx ?_ | refine cr ?_ | refine an ?_ | refine ae ?_ | refine ar ?_ | refine bn ?_ | refine bh ?_ | refine be rfl ?_ | refine br ?_ | refine ct rfl ?_ | refine cf rfl ?_))
  refine sw_cond rfl (fun h3 => ?_) (fun h3 => ?_)
  · have h4 : V < 0 := by simpa using h3
    have htp : takP 0 (P ++ List.replicate (400 - P.length) true) n = some (0 + (P.length : Int), ((400 - P.length - 1 : Nat) : Int) + 1) := by
      rw [if_pos h4, Option.map_eq_none_iff] at hw
      unfold takP
      rw [hsp, List.find?_append, hw, List.find?_cons_of_pos (by simp; omega)]
      rfl
    have htv := takV_some htp
    rw [Int.zero_add] at htv
    (repeat (first | refine cs ?_ | refine cb ?_ | refine ck ?_ | refine cx ?_ | refine cr ?_ | refine an ?_ | refine ae ?_ | refine ar ?_ | refine bn ?_ | refine bh ?_ | refine be rfl ?_ | refine br ?_ | refine ct rfl ?_ | refine cf rfl ?_))
    first | refine sw_seq_region ?_ | refine sw_region ?_
    refine lo (lop_move (E rfl)) rfl ?_
    refine lo (lop_assign (E rfl)) rfl ?_
    apply le; (repeat (first | (apply KeepIs.take; rfl) | (apply KeepIs.skip; rfl) | exact KeepIs.nil))
    (repeat (first | refine cs ?_ | refine cb ?_ | refine ck ?_ | refine cx ?_ | refine cr ?_ | refine an ?_ | refine ae ?_ | refine ar ?_ | refine bn ?_ | refine bh ?_ | refine be rfl ?_ | refine br ?_ | refine ct rfl ?_ | refine cf rfl ?_))
    first | refine sw_seq_region ?_ | refine sw_region ?_
    refine lo (lop_move (E rfl)) rfl ?_
    refine lo (lop_move (E rfl)) rfl ?_
    refine cw [(s, .box 83 [.int .i64 0, .own q 0 (P ++ List.replicate (400 - P.length) true).length]), (q, .arr 4 1 ((P ++ List.replicate (400 - P.length) true).map encB))] Try.call25 (extent_take hq 0 (P ++ List.replicate (400 - P.length) true) (by decide) (by decide) hfl n) rfl ?_ ?_ ?_
    · (repeat (first | exact ArgsLe.nil | (apply ArgsLe.cons; rfl; first | exact VLe.refl _ | exact VLe.when rfl | exact VLe.any | exact VLe.empty | exact VLe.of_eq (by simp))))
    · (first | exact no_mem | (apply StLe.mem; (repeat (first | exact StLe.nil | (apply StLe.cons; (repeat (first | exact List.mem_cons_self | apply List.mem_cons_of_mem)); first | rfl | focus (congr 1; done) | focus (simp; done) | (simp; rfl))))))
    rintro x σ' ⟨rfl, rfl⟩ -
    rw [htv]
    (apply rs_sto; (first
                      | (simp (disch := (first
                                           | (simp only [List.mem_cons, List.not_mem_nil, true_or, or_true, or_false]; done)
                                           | (focus (simp only [List.mem_cons, List.not_mem_nil, or_false, not_or]; (repeat' (first
                                                                                                                                | apply And.intro
                                                                                                                                | (first
                                                                                                                                     | assumption
                                                                                                                                     | (apply Nq.en; assumption)
                                                                                                                                     | omega
                                                                                                                                     | (simp only [Nq] at *; omega)))); done))
                                           | omega)) only [↓put_σ, ↓mk_σ, AV.cells, sset, sdrop_none, sdrop_nil, sdrop_in, sdrop_out, List.nil_append, List.cons_append, List.append_nil, List.map_nil, List.map_cons, List.take_succ_cons, List.take_zero, List.drop_succ_cons, List.drop_zero, take_len', take_map_len, Nat.zero_add, Nat.add_zero, ofCell, ofConst]; rfl)
                      | rfl))
    refine lo (lop_move (E rfl)) rfl ?_
    refine lo (lop_extract (E rfl) rfl) rfl ?_
    refine lo (lop_extract (E rfl) rfl) rfl ?_
    apply al; rfl; (first | (simp only [Value.cells, AV.cells, List.map_cons, List.map_nil, ofConst, ofCell]; rfl) | rfl); intro r11 h11; simp only [fresh_cons, fresh_nil, and_true] at h11; (repeat (rcases h11 with ⟨_, h11⟩))
    apply stp; rfl; rfl; rfl; rfl; (repeat (first
                                              | (apply SPut.here; (repeat (first
                                                                             | exact Put.done
                                                                             | apply Put.put
                                                                             | apply Put.skip)); (repeat (first
                                                                                                            | exact Fresh.nil
                                                                                                            | (apply Fresh.cons; (first
                                                                                                                                    | assumption
                                                                                                                                    | (apply Nq.en; assumption)
                                                                                                                                    | omega
                                                                                                                                    | (simp only [Nq] at *; omega))))))
                                              | (apply SPut.next; (first
                                                                     | assumption
                                                                     | (apply Nq.en; assumption)
                                                                     | omega
                                                                     | (simp only [Nq] at *; omega)))))
    refine lo (lop_assign (E rfl)) rfl ?_
    apply le; (repeat (first | (apply KeepIs.take; rfl) | (apply KeepIs.skip; rfl) | exact KeepIs.nil))
    (repeat (first | refine cs ?_ | refine cb ?_ | refine ck ?_ | refine cx ?_ | refine cr ?_ | refine an ?_ | refine ae ?_ | refine ar ?_ | refine bn ?_ | refine bh ?_ | refine be rfl ?_ | refine br ?_ | refine ct rfl ?_ | refine cf rfl ?_))
    first | refine sw_seq_region ?_ | refine sw_region ?_
    refine lo (lop_move (E rfl)) rfl ?_
    refine lo (lop_move (E rfl)) rfl ?_
    first | refine ln rfl rfl rfl rfl ?_ | refine lg rfl rfl (lop_field_ptr (E rfl) rfl (by decide)) rfl ?_
    first | refine ln rfl rfl rfl rfl ?_ | refine lg rfl rfl (lop_load_ptr (W rfl id) rfl (by repeat (first | exact sget_here | refine sget_next (by (first | assumption | (apply Nq.en; assumption) | omega | (simp only [Nq] at *; omega))) ?_)) (fun _ => rfl)) rfl ?_
    first | refine ln rfl rfl rfl rfl ?_ | refine lg rfl rfl (lop_move (E rfl)) rfl ?_
    first | refine ln rfl rfl rfl rfl ?_ | refine lg rfl rfl (lop_eql (W rfl id) (W rfl id)) rfl ?_
    first | refine lo (lop_pick_t (E rfl) (W rfl (by simp))) rfl ?_ | refine lo (lop_pick_f (E rfl) (E rfl)) rfl ?_ | refine lo (lop_pick (E rfl) (W rfl (by simp)) (E rfl)) rfl ?_
    refine lo (lop_move (E rfl)) rfl ?_
    first | refine ln rfl rfl rfl rfl ?_ | refine lg rfl rfl (lop_field_ptr (E rfl) rfl (by decide)) rfl ?_
    first | refine ln rfl rfl rfl rfl ?_ | refine lg rfl rfl (lop_load_ptr (W rfl id) rfl (by repeat (first | exact sget_here | refine sget_next (by (first | assumption | (apply Nq.en; assumption) | omega | (simp only [Nq] at *; omega))) ?_)) (fun _ => rfl)) rfl ?_
    first | refine ln rfl rfl rfl rfl ?_ | refine lg rfl rfl (lop_move (E rfl)) rfl ?_
    first | refine ln rfl rfl rfl rfl ?_ | refine lg rfl rfl (lop_eql (W rfl id) (W rfl id)) rfl ?_
    first | refine lo (lop_pick_t (E rfl) (W rfl (by simp))) rfl ?_ | refine lo (lop_pick_f (E rfl) (E rfl)) rfl ?_ | refine lo (lop_pick (E rfl) (W rfl (by simp)) (E rfl)) rfl ?_
    refine lo (lop_assign (E rfl)) rfl ?_
    apply le; (repeat (first | (apply KeepIs.take; rfl) | (apply KeepIs.skip; rfl) | exact KeepIs.nil))
    (repeat (first | refine cs ?_ | refine cb ?_ | refine ck ?_ | refine cx ?_ | refine cr ?_ | refine an ?_ | refine ae ?_ | refine ar ?_ | refine bn ?_ | refine bh ?_ | refine be rfl ?_ | refine br ?_ | refine ct rfl ?_ | refine cf rfl ?_))
    (apply aend; (repeat (first
                            | exact ResL.nil
                            | (apply ResL.tmp; rfl)
                            | (apply ResL.cell; rfl; infer_instance; rfl; (repeat (first
                                                                                     | exact sget_here
                                                                                     | (apply sget_next; (first
                                                                                                            | assumption
                                                                                                            | (apply Nq.en; assumption)
                                                                                                            | omega
                                                                                                            | (simp only [Nq] at *; omega))))); rfl)
                            | (apply ResL.cells; rfl; infer_instance; infer_instance; rfl; (repeat (first
                                                                                                      | exact sget_here
                                                                                                      | (apply sget_next; (first
                                                                                                                             | assumption
                                                                                                                             | (apply Nq.en; assumption)
                                                                                                                             | omega
                                                                                                                             | (simp only [Nq] at *; omega))))); exact Nat.le_of_ble_eq_true rfl))))
    · simp [resAV]
    · (first | exact no_mem | (apply StLe.mem; (repeat (first | exact StLe.nil | (apply StLe.cons; (repeat (first | exact List.mem_cons_self | apply List.mem_cons_of_mem)); first | rfl | focus (congr 1; done) | focus (simp; done) | (simp; rfl))))))
  · have h4 : ¬ V < 0 := by simpa using h3
    obtain ⟨p, hp, hpW⟩ : ∃ p, (L.find? fun p => decide (1 ≤ n) && decide (n ≤ p.2)) = some p ∧ p.1 = V := by
      rw [if_neg h4] at hw
      obtain ⟨p, hp, h5⟩ := Option.map_eq_some_iff.1 hw
      exact ⟨p, hp, h5⟩
    have htp : takP 0 (P ++ List.replicate (400 - P.length) true) n = some p := by
      unfold takP
      rw [hsp, List.find?_append, hp]
      rfl
    have htv := takV_some htp
    rw [hpW] at htv
    (repeat (first | refine cs ?_ | refine cb ?_ | refine ck ?_ | refine cx ?_ | refine cr ?_ | refine an ?_ | refine ae ?_ | refine ar ?_ | refine bn ?_ | refine bh ?_ | refine be rfl ?_ | refine br ?_ | refine ct rfl ?_ | refine cf rfl ?_))
    first | refine sw_seq_region ?_ | refine sw_region ?_
    refine lo (lop_move (E rfl)) rfl ?_
    refine lo (lop_move (E rfl)) rfl ?_
    refine cw [(s, .box 83 [.int .i64 0, .own q 0 (P ++ List.replicate (400 - P.length) true).length]), (q, .arr 4 1 ((P ++ List.replicate (400 - P.length) true).map encB))] Try.call25 (extent_take hq 0 (P ++ List.replicate (400 - P.length) true) (by decide) (by decide) hfl n) rfl ?_ ?_ ?_
    · (repeat (first | exact ArgsLe.nil | (apply ArgsLe.cons; rfl; first | exact VLe.refl _ | exact VLe.when rfl | exact VLe.any | exact VLe.empty | exact VLe.of_eq (by simp))))
    · (first | exact no_mem | (apply StLe.mem; (repeat (first | exact StLe.nil | (apply StLe.cons; (repeat (first | exact List.mem_cons_self | apply List.mem_cons_of_mem)); first | rfl | focus (congr 1; done) | focus (simp; done) | (simp; rfl))))))
    rintro x σ' ⟨rfl, rfl⟩ -
    rw [htv]
    (apply rs_sto; (first
                      | (simp (disch := (first
                                           | (simp only [List.mem_cons, List.not_mem_nil, true_or, or_true, or_false]; done)
                                           | (focus (simp only [List.mem_cons, List.not_mem_nil, or_false, not_or]; (repeat' (first
                                                                                                                                | apply And.intro
                                                                                                                                | (first
                                                                                                                                     | assumption
                                                                                                                                     | (apply Nq.en; assumption)
                                                                                                                                     | omega
                                                                                                                                     | (simp only [Nq] at *; omega)))); done))
                                           | omega)) only [↓put_σ, ↓mk_σ, AV.cells, sset, sdrop_none, sdrop_nil, sdrop_in, sdrop_out, List.nil_append, List.cons_append, List.append_nil, List.map_nil, List.map_cons, List.take_succ_cons, List.take_zero, List.drop_succ_cons, List.drop_zero, take_len', take_map_len, Nat.zero_add, Nat.add_zero, ofCell, ofConst]; rfl)
                      | rfl))
    refine lo (lop_move (E rfl)) rfl ?_
    refine lo (lop_extract (E rfl) rfl) rfl ?_
    refine lo (lop_extract (E rfl) rfl) rfl ?_
    apply al; rfl; (first | (simp only [Value.cells, AV.cells, List.map_cons, List.map_nil, ofConst, ofCell]; rfl) | rfl); intro r11 h11; simp only [fresh_cons, fresh_nil, and_true] at h11; (repeat (rcases h11 with ⟨_, h11⟩))
    apply stp; rfl; rfl; rfl; rfl; (repeat (first
                                              | (apply SPut.here; (repeat (first
                                                                             | exact Put.done
                                                                             | apply Put.put
                                                                             | apply Put.skip)); (repeat (first
                                                                                                            | exact Fresh.nil
                                                                                                            | (apply Fresh.cons; (first
                                                                                                                                    | assumption
                                                                                                                                    | (apply Nq.en; assumption)
                                                                                                                                    | omega
                                                                                                                                    | (simp only [Nq] at *; omega))))))
                                              | (apply SPut.next; (first
                                                                     | assumption
                                                                     | (apply Nq.en; assumption)
                                                                     | omega
                                                                     | (simp only [Nq] at *; omega)))))
    refine lo (lop_assign (E rfl)) rfl ?_
    apply le; (repeat (first | (apply KeepIs.take; rfl) | (apply KeepIs.skip; rfl) | exact KeepIs.nil))
    (repeat (first | refine cs ?_ | refine cb ?_ | refine ck ?_ | refine cx ?_ | refine cr ?_ | refine an ?_ | refine ae ?_ | refine ar ?_ | refine bn ?_ | refine bh ?_ | refine be rfl ?_ | refine br ?_ | refine ct rfl ?_ | refine cf rfl ?_))
    first | refine sw_seq_region ?_ | refine sw_region ?_
    refine lo (lop_move (E rfl)) rfl ?_
    refine lo (lop_move (E rfl)) rfl ?_
    first | refine ln rfl rfl rfl rfl ?_ | refine lg rfl rfl (lop_field_ptr (E rfl) rfl (by decide)) rfl ?_
    first | refine ln rfl rfl rfl rfl ?_ | refine lg rfl rfl (lop_load_ptr (W rfl id) rfl (by repeat (first | exact sget_here | refine sget_next (by (first | assumption | (apply Nq.en; assumption) | omega | (simp only [Nq] at *; omega))) ?_)) (fun _ => rfl)) rfl ?_
    first | refine ln rfl rfl rfl rfl ?_ | refine lg rfl rfl (lop_move (E rfl)) rfl ?_
    first | refine ln rfl rfl rfl rfl ?_ | refine lg rfl rfl (lop_eql (W rfl id) (W rfl id)) rfl ?_
    first | refine lo (lop_pick_t (E rfl) (W rfl (by simp))) rfl ?_ | refine lo (lop_pick_f (E rfl) (E rfl)) rfl ?_ | refine lo (lop_pick (E rfl) (W rfl (by simp)) (E rfl)) rfl ?_
    refine lo (lop_move (E rfl)) rfl ?_
    first | refine ln rfl rfl rfl rfl ?_ | refine lg rfl rfl (lop_field_ptr (E rfl) rfl (by decide)) rfl ?_
    first | refine ln rfl rfl rfl rfl ?_ | refine lg rfl rfl (lop_load_ptr (W rfl id) rfl (by repeat (first | exact sget_here | refine sget_next (by (first | assumption | (apply Nq.en; assumption) | omega | (simp only [Nq] at *; omega))) ?_)) (fun _ => rfl)) rfl ?_
    first | refine ln rfl rfl rfl rfl ?_ | refine lg rfl rfl (lop_move (E rfl)) rfl ?_
    first | refine ln rfl rfl rfl rfl ?_ | refine lg rfl rfl (lop_eql (W rfl id) (W rfl id)) rfl ?_
    first | refine lo (lop_pick_t (E rfl) (W rfl (by simp))) rfl ?_ | refine lo (lop_pick_f (E rfl) (E rfl)) rfl ?_ | refine lo (lop_pick (E rfl) (W rfl (by simp)) (E rfl)) rfl ?_
    refine lo (lop_assign (E rfl)) rfl ?_
    apply le; (repeat (first | (apply KeepIs.take; rfl) | (apply KeepIs.skip; rfl) | exact KeepIs.nil))
    (repeat (first | refine cs ?_ | refine cb ?_ | refine ck ?_ | refine cx ?_ | refine cr ?_ | refine an ?_ | refine ae ?_ | refine ar ?_ | refine bn ?_ | refine bh ?_ | refine be rfl ?_ | refine br ?_ | refine ct rfl ?_ | refine cf rfl ?_))
    (apply aend; (repeat (first
                            | exact ResL.nil
                            | (apply ResL.tmp; rfl)
                            | (apply ResL.cell; rfl; infer_instance; rfl; (repeat (first
                                                                                     | exact sget_here
                                                                                     | (apply sget_next; (first
                                                                                                            | assumption
                                                                                                            | (apply Nq.en; assumption)
                                                                                                            | omega
                                                                                                            | (simp only [Nq] at *; omega))))); rfl)
                            | (apply ResL.cells; rfl; infer_instance; infer_instance; rfl; (repeat (first
                                                                                                      | exact sget_here
                                                                                                      | (apply sget_next; (first
                                                                                                                             | assumption
                                                                                                                             | (apply Nq.en; assumption)
                                                                                                                             | omega
                                                                                                                             | (simp only [Nq] at *; omega))))); exact Nat.le_of_ble_eq_true rfl))))
    · simp [resAV]
    · (first | exact no_mem | (apply StLe.mem; (repeat (first | exact StLe.nil | (apply StLe.cons; (repeat (first | exact List.mem_cons_self | apply List.mem_cons_of_mem)); first | rfl | focus (congr 1; done) | focus (simp; done) | (simp; rfl))))))
end Go.Proofs.Ytpdgnenffiphcaa
