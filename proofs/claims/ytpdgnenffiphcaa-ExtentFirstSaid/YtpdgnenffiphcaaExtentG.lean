/-
  ExtentCopy, walked.
-/
import Derived.Test.YtpdgnenffiphcaaExtentD
import Derived.Test.YtpdgnenffiphcaaExtentE
namespace Go.Proofs.Ytpdgnenffiphcaa
open Go.RowKit Go.ChangeShapes Go.WideShapes Go.ChangeAt Go.Deep
set_option linter.unusedSimpArgs false
set_option linter.unusedVariables false
attribute [local irreducible] SW RS RD AThen ABlock

theorem allB_mid {at_ : Int} {A B : List Bool} {n : Nat} {v : Bool} (hn : 0 < n) : allB at_ (A ++ List.replicate n v ++ B) (at_ + A.length) n v = true := by
  refine allB_win (by omega) (by omega) (by simp; omega) fun j h1 h2 => ?_
  rw [List.append_assoc, List.getElem?_append_right (by omega), List.getElem?_append_left (by simp; omega), List.getElem?_replicate_of_lt (by omega)]
theorem give_run {at_ : Int} {A B m : Nat} (h : 0 < B) : setF at_ (runF (A + B) m) (at_ + A) B true = runF A (B + m) := by
  have := setF_mid (at_ := at_) (A := List.replicate A false) (B := List.replicate m true) (n := B) (v := true) h
  rw [List.length_replicate, show (!true) = false from rfl] at this
  unfold runF
  rw [← List.replicate_append_replicate, this, ← List.replicate_append_replicate, List.append_assoc]
set_option maxRecDepth 100000 in
set_option maxHeartbeats 4000000 in
theorem law_extentCopy (a b : Int) : SCall Try.prog 10 [.int .i64 a, .int .i64 b] [] (fun x _ => x = .bool true) := by
  refine scall_of (n := 77) (ks := [0, 1, 4, 5, 6, 7, 8, 9, 10, 11, 14, 28]) Try.func10 rfl rfl (Nat.le_of_ble_eq_true rfl) ?_
  (repeat (first | refine cs ?_ | refine cb ?_ | refine ck ?_ | refine cx ?_ | refine cr ?_ | refine an ?_ | refine ae ?_ | refine ar ?_ | refine bn ?_ | refine bh ?_ | refine be rfl ?_ | refine br ?_ | refine ct rfl ?_ | refine cf rfl ?_))
  first | refine sw_seq_region ?_ | refine sw_region ?_
  refine lo (lop_assign (E rfl)) rfl ?_
  apply le; (repeat (first | (apply KeepIs.take; rfl) | (apply KeepIs.skip; rfl) | exact KeepIs.nil))
  (repeat (first | refine cs ?_ | refine cb ?_ | refine ck ?_ | refine cx ?_ | refine cr ?_ | refine an ?_ | refine ae ?_ | refine ar ?_ | refine bn ?_ | refine bh ?_ | refine be rfl ?_ | refine br ?_ | refine ct rfl ?_ | refine cf rfl ?_))
  first | refine sw_seq_region ?_ | refine sw_region ?_
  (first
     | refine pu [] Try.call23 law_begun19 rfl (by repeat (first
                                                             | exact ArgsIf.nil
                                                             | refine ArgsIf.cons (by first
                                                                                        | exact Ev.when rfl (by first
                                                                                                                  | exact id
                                                                                                                  | simp)
                                                                                        | exact Ev.here rfl) (by first
                                                                                                                   | exact Bor.refl _
                                                                                                                   | exact Bor.le VLe.any
                                                                                                                   | exact Bor.le VLe.empty
                                                                                                                   | exact Bor.own (by simp) (by repeat (first
                                                                                                                                                           | exact sget_here
                                                                                                                                                           | refine sget_next (by (first
                                                                                                                                                                                     | assumption
                                                                                                                                                                                     | (apply Nq.en; assumption)
                                                                                                                                                                                     | omega
                                                                                                                                                                                     | (simp only [Nq] at *; omega))) ?_)) (by simp)
                                                                                                                   | exact Bor.le (VLe.of_eq (by simp))) ?_)) (by repeat (first
                                                                                                                                                                            | exact NoF.int
                                                                                                                                                                            | exact NoF.bool
                                                                                                                                                                            | exact NoF.nilp
                                                                                                                                                                            | exact NoF.nil
                                                                                                                                                                            | exact NoF.own
                                                                                                                                                                            | exact NoF.ptr
                                                                                                                                                                            | exact NoF.str
                                                                                                                                                                            | exact nofl_nil
                                                                                                                                                                            | apply NoF.tup
                                                                                                                                                                            | apply NoF.agg
                                                                                                                                                                            | apply nofl_cons)) ?_
     | refine pug [] rfl rfl Try.call23 (fun _ => law_begun19) rfl (by repeat (first
                                                                                 | exact ArgsIf.nil
                                                                                 | refine ArgsIf.cons (by first
                                                                                                            | exact Ev.when rfl (by first
                                                                                                                                      | exact id
                                                                                                                                      | simp)
                                                                                                            | exact Ev.here rfl) (by first
                                                                                                                                       | exact Bor.refl _
                                                                                                                                       | exact Bor.le VLe.any
                                                                                                                                       | exact Bor.le VLe.empty
                                                                                                                                       | exact Bor.own (by simp) (by repeat (first
                                                                                                                                                                               | exact sget_here
                                                                                                                                                                               | refine sget_next (by (first
                                                                                                                                                                                                         | assumption
                                                                                                                                                                                                         | (apply Nq.en; assumption)
                                                                                                                                                                                                         | omega
                                                                                                                                                                                                         | (simp only [Nq] at *; omega))) ?_)) (by simp)
                                                                                                                                       | exact Bor.le (VLe.of_eq (by simp))) ?_)) (by repeat (first
                                                                                                                                                                                                | exact NoF.int
                                                                                                                                                                                                | exact NoF.bool
                                                                                                                                                                                                | exact NoF.nilp
                                                                                                                                                                                                | exact NoF.nil
                                                                                                                                                                                                | exact NoF.own
                                                                                                                                                                                                | exact NoF.ptr
                                                                                                                                                                                                | exact NoF.str
                                                                                                                                                                                                | exact nofl_nil
                                                                                                                                                                                                | apply NoF.tup
                                                                                                                                                                                                | apply NoF.agg
                                                                                                                                                                                                | apply nofl_cons)) ?_)
  refine lo (lop_assign (E rfl)) rfl ?_
  apply le; (repeat (first | (apply KeepIs.take; rfl) | (apply KeepIs.skip; rfl) | exact KeepIs.nil))
  (repeat (first | refine cs ?_ | refine cb ?_ | refine ck ?_ | refine cx ?_ | refine cr ?_ | refine an ?_ | refine ae ?_ | refine ar ?_ | refine bn ?_ | refine bh ?_ | refine be rfl ?_ | refine br ?_ | refine ct rfl ?_ | refine cf rfl ?_))
  first | refine sw_seq_region ?_ | refine sw_region ?_
  refine lo (lop_move (E rfl)) rfl ?_
  refine lo (lop_not (E rfl)) rfl ?_
  apply le; (repeat (first | (apply KeepIs.take; rfl) | (apply KeepIs.skip; rfl) | exact KeepIs.nil))
  (repeat (first | refine cs ?_ | refine cb ?_ | refine ck ?_ | refine cx ?_ | refine cr ?_ | refine an ?_ | refine ae ?_ | refine ar ?_ | refine bn ?_ | refine bh ?_ | refine be rfl ?_ | refine br ?_ | refine ct rfl ?_ | refine cf rfl ?_))
  first | refine sw_seq_region ?_ | refine sw_region ?_
  refine lo (lop_move (E rfl)) rfl ?_
  refine lo (lop_lss (E rfl) (E rfl)) rfl ?_
  refine lo (lop_move (E rfl)) rfl ?_
  first | refine ln rfl rfl rfl rfl ?_ | refine lg rfl rfl (lop_move (E rfl)) rfl ?_
  first | refine ln rfl rfl rfl rfl ?_ | refine lg rfl rfl (lop_gtr (W rfl id) (E rfl)) rfl ?_
  first | refine lo (lop_pick_t (E rfl) (E rfl)) rfl ?_ | refine lo (lop_pick_f (E rfl) (W rfl (by simp))) rfl ?_ | refine lo (lop_pick (E rfl) (E rfl) (W rfl (by simp))) rfl ?_
  refine lo (lop_move (E rfl)) rfl ?_
  first | refine ln rfl rfl rfl rfl ?_ | refine lg rfl rfl (lop_move (E rfl)) rfl ?_
  first | refine ln rfl rfl rfl rfl ?_ | refine lg rfl rfl (lop_lss (W rfl id) (E rfl)) rfl ?_
  first | refine lo (lop_pick_t (E rfl) (E rfl)) rfl ?_ | refine lo (lop_pick_f (E rfl) (W rfl (by simp))) rfl ?_ | refine lo (lop_pick (E rfl) (E rfl) (W rfl (by simp))) rfl ?_
  refine lo (lop_move (E rfl)) rfl ?_
  first | refine ln rfl rfl rfl rfl ?_ | refine lg rfl rfl (lop_move (E rfl)) rfl ?_
  first | refine ln rfl rfl rfl rfl ?_ | refine lg rfl rfl (lop_gtr (W rfl id) (E rfl)) rfl ?_
  first | refine lo (lop_pick_t (E rfl) (E rfl)) rfl ?_ | refine lo (lop_pick_f (E rfl) (W rfl (by simp))) rfl ?_ | refine lo (lop_pick (E rfl) (E rfl) (W rfl (by simp))) rfl ?_
  apply le; (repeat (first | (apply KeepIs.take; rfl) | (apply KeepIs.skip; rfl) | exact KeepIs.nil))
  (repeat (first | refine cs ?_ | refine cb ?_ | refine ck ?_ | refine cx ?_ | refine cr ?_ | refine an ?_ | refine ae ?_ | refine ar ?_ | refine bn ?_ | refine bh ?_ | refine be rfl ?_ | refine br ?_ | refine ct rfl ?_ | refine cf rfl ?_))
  refine sw_cond rfl (fun h => ?_) (fun h => ?_)
  · (repeat (first | refine cs ?_ | refine cb ?_ | refine ck ?_ | refine cx ?_ | refine cr ?_ | refine an ?_ | refine ae ?_ | refine ar ?_ | refine bn ?_ | refine bh ?_ | refine be rfl ?_ | refine br ?_ | refine ct rfl ?_ | refine cf rfl ?_))
    first | refine sw_seq_region ?_ | refine sw_region ?_
    refine lo (lop_assign (E rfl)) rfl ?_
    apply le; (repeat (first | (apply KeepIs.take; rfl) | (apply KeepIs.skip; rfl) | exact KeepIs.nil))
    (repeat (first | refine cs ?_ | refine cb ?_ | refine ck ?_ | refine cx ?_ | refine cr ?_ | refine an ?_ | refine ae ?_ | refine ar ?_ | refine bn ?_ | refine bh ?_ | refine be rfl ?_ | refine br ?_ | refine ct rfl ?_ | refine cf rfl ?_))
    (apply aend; (repeat (first
                            | exact ResL.nil
                            | (apply ResL.tmp; rfl)
                            | (apply ResL.cell; rfl; infer_instance; rfl; (repeat (first
                                                                                     | exact sget_here
                                                                                     | (apply sget_next; (first
                                                                                                            | assumption
                                                                                                            | (apply Nq.en; assumption)
                                                                                                            | omega
                                                                                                            | (simp only [Nq] at *; omega))))); rfl)
                            | (apply ResL.cells; rfl; infer_instance; infer_instance; rfl; (repeat (first
                                                                                                      | exact sget_here
                                                                                                      | (apply sget_next; (first
                                                                                                                             | assumption
                                                                                                                             | (apply Nq.en; assumption)
                                                                                                                             | omega
                                                                                                                             | (simp only [Nq] at *; omega))))); exact Nat.le_of_ble_eq_true rfl))))
    · exact rfl
    · (first | exact no_mem | (apply StLe.mem; (repeat (first | exact StLe.nil | (apply StLe.cons; (repeat (first | exact List.mem_cons_self | apply List.mem_cons_of_mem)); first | rfl | focus (congr 1; done) | focus (simp; done) | (simp; rfl))))))
  simp at h
  obtain ⟨A, rfl⟩ := Int.eq_ofNat_of_zero_le (show 0 ≤ a by omega)
  obtain ⟨B, rfl⟩ := Int.eq_ofNat_of_zero_le (show 0 ≤ b by omega)
  have hln : ∀ i m : Nat, i + m ≤ 100000 → (runF i m).length ≤ 100000 := fun i m h => by rw [runF_len]; exact h
  have e1 : runF 0 40 = runF 0 (A + (40 - A)) := by rw [show A + (40 - A) = 40 by omega]
  have e2 : runF A (40 - A) = runF A (B + (40 - A - B)) := by rw [show B + (40 - A - B) = 40 - A by omega]
  have k1 : takF 0 (runF 0 40) A = runF A (40 - A) := by rw [e1, (take_run (by omega)).2, Nat.zero_add]
  have k2 : takF 0 (runF A (40 - A)) B = runF (A + B) (40 - A - B) := by rw [e2, (take_run (by omega)).2]
  have v2 : takV 0 (runF A (40 - A)) B = .tup [.agg [.int .i64 (0 + A), .int .i64 B], .bool true] := by rw [e2, (take_run (by omega)).1]
  have g1 : setF 0 (runF (A + B) (40 - A - B)) (0 + A) B true = runF A (40 - A) := by rw [give_run (by omega), show B + (40 - A - B) = 40 - A by omega]
  have i1 : ((40 - A - B : Nat) : Int) = 40 - A - B := by omega
  have i2 : ((40 - A : Nat) : Int) = 40 - A := by omega
  (repeat (first | refine cs ?_ | refine cb ?_ | refine ck ?_ | refine cx ?_ | refine cr ?_ | refine an ?_ | refine ae ?_ | refine ar ?_ | refine bn ?_ | refine bh ?_ | refine be rfl ?_ | refine br ?_ | refine ct rfl ?_ | refine cf rfl ?_))
  first | refine sw_seq_region ?_ | refine sw_region ?_
  refine cw [] Try.call24 (extent_new 0 40) rfl ?_ ?_ ?_
  · (repeat (first | exact ArgsLe.nil | (apply ArgsLe.cons; rfl; first | exact VLe.refl _ | exact VLe.when rfl | exact VLe.any | exact VLe.empty | exact VLe.of_eq (by simp))))
  · (first | exact no_mem | (apply StLe.mem; (repeat (first | exact StLe.nil | (apply StLe.cons; (repeat (first | exact List.mem_cons_self | apply List.mem_cons_of_mem)); first | rfl | focus (congr 1; done) | focus (simp; done) | (simp; rfl))))))
  rintro x σ' ⟨s, q, hq, rfl, rfl⟩ -
  rw [show newF 0 40 = runF 0 40 from rfl, show newA 0 40 = 0 from rfl]
  (apply rs_sto; (first
                    | (simp (disch := (first
                                         | (simp only [List.mem_cons, List.not_mem_nil, true_or, or_true, or_false]; done)
                                         | (focus (simp only [List.mem_cons, List.not_mem_nil, or_false, not_or]; (repeat' (first
                                                                                                                              | apply And.intro
                                                                                                                              | (first
                                                                                                                                   | assumption
                                                                                                                                   | (apply Nq.en; assumption)
                                                                                                                                   | omega
                                                                                                                                   | (simp only [Nq] at *; omega)))); done))
                                         | omega)) only [↓put_σ, ↓mk_σ, AV.cells, sset, sdrop_none, sdrop_nil, sdrop_in, sdrop_out, List.nil_append, List.cons_append, List.append_nil, List.map_nil, List.map_cons, List.take_succ_cons, List.take_zero, List.drop_succ_cons, List.drop_zero, take_len', take_map_len, Nat.zero_add, Nat.add_zero, ofCell, ofConst]; rfl)
                    | rfl))
  refine lo (lop_assign (E rfl)) rfl ?_
  apply le; (repeat (first | (apply KeepIs.take; rfl) | (apply KeepIs.skip; rfl) | exact KeepIs.nil))
  (repeat (first | refine cs ?_ | refine cb ?_ | refine ck ?_ | refine cx ?_ | refine cr ?_ | refine an ?_ | refine ae ?_ | refine ar ?_ | refine bn ?_ | refine bh ?_ | refine be rfl ?_ | refine br ?_ | refine ct rfl ?_ | refine cf rfl ?_))
  first | refine sw_seq_region ?_ | refine sw_region ?_
  refine lo (lop_move (E rfl)) rfl ?_
  refine lo (lop_move (E rfl)) rfl ?_
  refine cw [(s, .box 83 [.int .i64 0, .own q 0 (runF 0 40).length]), (q, .arr 4 1 ((runF 0 40).map encB))] Try.call25 (extent_take hq 0 (runF 0 40) (by decide) (by decide) (hln _ _ (by decide)) A) rfl ?_ ?_ ?_
  · (repeat (first | exact ArgsLe.nil | (apply ArgsLe.cons; rfl; first | exact VLe.refl _ | exact VLe.when rfl | exact VLe.any | exact VLe.empty | exact VLe.of_eq (by simp))))
  · (first | exact no_mem | (apply StLe.mem; (repeat (first | exact StLe.nil | (apply StLe.cons; (repeat (first | exact List.mem_cons_self | apply List.mem_cons_of_mem)); first | rfl | focus (congr 1; done) | focus (simp; done) | (simp; rfl))))))
  rintro x σ' ⟨rfl, rfl⟩ -
  rw [k1]
  (apply rs_sto; (first
                    | (simp (disch := (first
                                         | (simp only [List.mem_cons, List.not_mem_nil, true_or, or_true, or_false]; done)
                                         | (focus (simp only [List.mem_cons, List.not_mem_nil, or_false, not_or]; (repeat' (first
                                                                                                                              | apply And.intro
                                                                                                                              | (first
                                                                                                                                   | assumption
                                                                                                                                   | (apply Nq.en; assumption)
                                                                                                                                   | omega
                                                                                                                                   | (simp only [Nq] at *; omega)))); done))
                                         | omega)) only [↓put_σ, ↓mk_σ, AV.cells, sset, sdrop_none, sdrop_nil, sdrop_in, sdrop_out, List.nil_append, List.cons_append, List.append_nil, List.map_nil, List.map_cons, List.take_succ_cons, List.take_zero, List.drop_succ_cons, List.drop_zero, take_len', take_map_len, Nat.zero_add, Nat.add_zero, ofCell, ofConst]; rfl)
                    | rfl))
  apply le; (repeat (first | (apply KeepIs.take; rfl) | (apply KeepIs.skip; rfl) | exact KeepIs.nil))
  (repeat (first | refine cs ?_ | refine cb ?_ | refine ck ?_ | refine cx ?_ | refine cr ?_ | refine an ?_ | refine ae ?_ | refine ar ?_ | refine bn ?_ | refine bh ?_ | refine be rfl ?_ | refine br ?_ | refine ct rfl ?_ | refine cf rfl ?_))
  first | refine sw_seq_region ?_ | refine sw_region ?_
  refine lo (lop_move (E rfl)) rfl ?_
  refine cw [(s, .box 83 [.int .i64 0, .own q 0 (runF A (40 - A)).length]), (q, .arr 4 1 ((runF A (40 - A)).map encB))] Try.call31 (extent_copy hq 0 (runF A (40 - A)) (by decide) (by decide) (hln _ _ (by omega))) rfl ?_ ?_ ?_
  · (repeat (first | exact ArgsLe.nil | (apply ArgsLe.cons; rfl; first | exact VLe.refl _ | exact VLe.when rfl | exact VLe.any | exact VLe.empty | exact VLe.of_eq (by simp))))
  · (first | exact no_mem | (apply StLe.mem; (repeat (first | exact StLe.nil | (apply StLe.cons; (repeat (first | exact List.mem_cons_self | apply List.mem_cons_of_mem)); first | rfl | focus (congr 1; done) | focus (simp; done) | (simp; rfl))))))
  rintro x σ' ⟨c, d, ⟨hc1, hc2, hd1, hd2, hdc⟩, rfl, rfl⟩ -
  (apply rs_sto; (first
                    | (simp (disch := (first
                                         | (simp only [List.mem_cons, List.not_mem_nil, true_or, or_true, or_false]; done)
                                         | (focus (simp only [List.mem_cons, List.not_mem_nil, or_false, not_or]; (repeat' (first
                                                                                                                              | apply And.intro
                                                                                                                              | (first
                                                                                                                                   | assumption
                                                                                                                                   | (apply Nq.en; assumption)
                                                                                                                                   | omega
                                                                                                                                   | (simp only [Nq] at *; omega)))); done))
                                         | omega)) only [↓put_σ, ↓mk_σ, AV.cells, sset, sdrop_none, sdrop_nil, sdrop_in, sdrop_out, List.nil_append, List.cons_append, List.append_nil, List.map_nil, List.map_cons, List.take_succ_cons, List.take_zero, List.drop_succ_cons, List.drop_zero, take_len', take_map_len, Nat.zero_add, Nat.add_zero, ofCell, ofConst]; rfl)
                    | rfl))
  refine lo (lop_assign (E rfl)) rfl ?_
  apply le; (repeat (first | (apply KeepIs.take; rfl) | (apply KeepIs.skip; rfl) | exact KeepIs.nil))
  (repeat (first | refine cs ?_ | refine cb ?_ | refine ck ?_ | refine cx ?_ | refine cr ?_ | refine an ?_ | refine ae ?_ | refine ar ?_ | refine bn ?_ | refine bh ?_ | refine be rfl ?_ | refine br ?_ | refine ct rfl ?_ | refine cf rfl ?_))
  first | refine sw_seq_region ?_ | refine sw_region ?_
  refine lo (lop_move (E rfl)) rfl ?_
  refine lo (lop_move (E rfl)) rfl ?_
  refine cw [(c, .box 83 [.int .i64 0, .own d 0 (runF A (40 - A)).length]), (d, .arr 4 1 ((runF A (40 - A)).map encB))] Try.call25 (extent_take hdc 0 (runF A (40 - A)) (by decide) (by decide) (hln _ _ (by omega)) B) rfl ?_ ?_ ?_
  · (repeat (first | exact ArgsLe.nil | (apply ArgsLe.cons; rfl; first | exact VLe.refl _ | exact VLe.when rfl | exact VLe.any | exact VLe.empty | exact VLe.of_eq (by simp))))
  · (first | exact no_mem | (apply StLe.mem; (repeat (first | exact StLe.nil | (apply StLe.cons; (repeat (first | exact List.mem_cons_self | apply List.mem_cons_of_mem)); first | rfl | focus (congr 1; done) | focus (simp; done) | (simp; rfl))))))
  rintro x σ' ⟨rfl, rfl⟩ -
  rw [k2, v2]
  (apply rs_sto; (first
                    | (simp (disch := (first
                                         | (simp only [List.mem_cons, List.not_mem_nil, true_or, or_true, or_false]; done)
                                         | (focus (simp only [List.mem_cons, List.not_mem_nil, or_false, not_or]; (repeat' (first
                                                                                                                              | apply And.intro
                                                                                                                              | (first
                                                                                                                                   | assumption
                                                                                                                                   | (apply Nq.en; assumption)
                                                                                                                                   | omega
                                                                                                                                   | (simp only [Nq] at *; omega)))); done))
                                         | omega)) only [↓put_σ, ↓mk_σ, AV.cells, sset, sdrop_none, sdrop_nil, sdrop_in, sdrop_out, List.nil_append, List.cons_append, List.append_nil, List.map_nil, List.map_cons, List.take_succ_cons, List.take_zero, List.drop_succ_cons, List.drop_zero, take_len', take_map_len, Nat.zero_add, Nat.add_zero, ofCell, ofConst]; rfl)
                    | rfl))
  refine lo (lop_move (E rfl)) rfl ?_
  refine lo (lop_extract (E rfl) rfl) rfl ?_
  refine lo (lop_extract (E rfl) rfl) rfl ?_
  apply al; rfl; (first | (simp only [Value.cells, AV.cells, List.map_cons, List.map_nil, ofConst, ofCell]; rfl) | rfl); intro r8 h8; simp only [fresh_cons, fresh_nil, and_true] at h8; (repeat (rcases h8 with ⟨_, h8⟩))
  apply stp; rfl; rfl; rfl; rfl; (repeat (first
                                            | (apply SPut.here; (repeat (first
                                                                           | exact Put.done
                                                                           | apply Put.put
                                                                           | apply Put.skip)); (repeat (first
                                                                                                          | exact Fresh.nil
                                                                                                          | (apply Fresh.cons; (first
                                                                                                                                  | assumption
                                                                                                                                  | (apply Nq.en; assumption)
                                                                                                                                  | omega
                                                                                                                                  | (simp only [Nq] at *; omega))))))
                                            | (apply SPut.next; (first
                                                                   | assumption
                                                                   | (apply Nq.en; assumption)
                                                                   | omega
                                                                   | (simp only [Nq] at *; omega)))))
  refine lo (lop_assign (E rfl)) rfl ?_
  apply le; (repeat (first | (apply KeepIs.take; rfl) | (apply KeepIs.skip; rfl) | exact KeepIs.nil))
  (repeat (first | refine cs ?_ | refine cb ?_ | refine ck ?_ | refine cx ?_ | refine cr ?_ | refine an ?_ | refine ae ?_ | refine ar ?_ | refine bn ?_ | refine bh ?_ | refine be rfl ?_ | refine br ?_ | refine ct rfl ?_ | refine cf rfl ?_))
  first | refine sw_seq_region ?_ | refine sw_region ?_
  refine lo (lop_move (E rfl)) rfl ?_
  refine lo (lop_move (E rfl)) rfl ?_
  refine cw [(s, .box 83 [.int .i64 0, .own q 0 (runF A (40 - A)).length]), (q, .arr 4 1 ((runF A (40 - A)).map encB))] Try.call25 (extent_take hq 0 (runF A (40 - A)) (by decide) (by decide) (hln _ _ (by omega)) B) rfl ?_ ?_ ?_
  · (repeat (first | exact ArgsLe.nil | (apply ArgsLe.cons; rfl; first | exact VLe.refl _ | exact VLe.when rfl | exact VLe.any | exact VLe.empty | exact VLe.of_eq (by simp))))
  · (first | exact no_mem | (apply StLe.mem; (repeat (first | exact StLe.nil | (apply StLe.cons; (repeat (first | exact List.mem_cons_self | apply List.mem_cons_of_mem)); first | rfl | focus (congr 1; done) | focus (simp; done) | (simp; rfl))))))
  rintro x σ' ⟨rfl, rfl⟩ -
  rw [k2, v2]
  (apply rs_sto; (first
                    | (simp (disch := (first
                                         | (simp only [List.mem_cons, List.not_mem_nil, true_or, or_true, or_false]; done)
                                         | (focus (simp only [List.mem_cons, List.not_mem_nil, or_false, not_or]; (repeat' (first
                                                                                                                              | apply And.intro
                                                                                                                              | (first
                                                                                                                                   | assumption
                                                                                                                                   | (apply Nq.en; assumption)
                                                                                                                                   | omega
                                                                                                                                   | (simp only [Nq] at *; omega)))); done))
                                         | omega)) only [↓put_σ, ↓mk_σ, AV.cells, sset, sdrop_none, sdrop_nil, sdrop_in, sdrop_out, List.nil_append, List.cons_append, List.append_nil, List.map_nil, List.map_cons, List.take_succ_cons, List.take_zero, List.drop_succ_cons, List.drop_zero, take_len', take_map_len, Nat.zero_add, Nat.add_zero, ofCell, ofConst]; rfl)
                    | rfl))
  refine lo (lop_move (E rfl)) rfl ?_
  refine lo (lop_extract (E rfl) rfl) rfl ?_
  refine lo (lop_extract (E rfl) rfl) rfl ?_
  apply al; rfl; (first | (simp only [Value.cells, AV.cells, List.map_cons, List.map_nil, ofConst, ofCell]; rfl) | rfl); intro r10 h10; simp only [fresh_cons, fresh_nil, and_true] at h10; (repeat (rcases h10 with ⟨_, h10⟩))
  apply stp; rfl; rfl; rfl; rfl; (repeat (first
                                            | (apply SPut.here; (repeat (first
                                                                           | exact Put.done
                                                                           | apply Put.put
                                                                           | apply Put.skip)); (repeat (first
                                                                                                          | exact Fresh.nil
                                                                                                          | (apply Fresh.cons; (first
                                                                                                                                  | assumption
                                                                                                                                  | (apply Nq.en; assumption)
                                                                                                                                  | omega
                                                                                                                                  | (simp only [Nq] at *; omega))))))
                                            | (apply SPut.next; (first
                                                                   | assumption
                                                                   | (apply Nq.en; assumption)
                                                                   | omega
                                                                   | (simp only [Nq] at *; omega)))))
  refine lo (lop_assign (E rfl)) rfl ?_
  apply le; (repeat (first | (apply KeepIs.take; rfl) | (apply KeepIs.skip; rfl) | exact KeepIs.nil))
  (repeat (first | refine cs ?_ | refine cb ?_ | refine ck ?_ | refine cx ?_ | refine cr ?_ | refine an ?_ | refine ae ?_ | refine ar ?_ | refine bn ?_ | refine bh ?_ | refine be rfl ?_ | refine br ?_ | refine ct rfl ?_ | refine cf rfl ?_))
  first | refine sw_seq_region ?_ | refine sw_region ?_
  refine lo (lop_move (E rfl)) rfl ?_
  refine lo (lop_load_ptr_agg (E rfl) rfl (by repeat (first | exact sget_here | refine sget_next (by (first | assumption | (apply Nq.en; assumption) | omega | (simp only [Nq] at *; omega))) ?_)) (fun _ => Nat.le_of_ble_eq_true rfl)) rfl ?_
  refine cw [(c, .box 83 [.int .i64 0, .own d 0 (runF (A + B) (40 - A - B)).length]), (d, .arr 4 1 ((runF (A + B) (40 - A - B)).map encB))] Try.call27 (extent_Give hdc 0 (runF (A + B) (40 - A - B)) (by decide) (hln _ _ (by omega)) (0 + A) B (by omega) (by omega)) rfl ?_ ?_ ?_
  · (repeat (first | exact ArgsLe.nil | (apply ArgsLe.cons; rfl; first | exact VLe.refl _ | exact VLe.when rfl | exact VLe.any | exact VLe.empty | exact VLe.of_eq (by simp))))
  · (first | exact no_mem | (apply StLe.mem; (repeat (first | exact StLe.nil | (apply StLe.cons; (repeat (first | exact List.mem_cons_self | apply List.mem_cons_of_mem)); first | rfl | focus (congr 1; done) | focus (simp; done) | (simp; rfl))))))
  rintro x σ' ⟨rfl, rfl⟩ -
  rw [g1]
  (apply rs_sto; (first
                    | (simp (disch := (first
                                         | (simp only [List.mem_cons, List.not_mem_nil, true_or, or_true, or_false]; done)
                                         | (focus (simp only [List.mem_cons, List.not_mem_nil, or_false, not_or]; (repeat' (first
                                                                                                                              | apply And.intro
                                                                                                                              | (first
                                                                                                                                   | assumption
                                                                                                                                   | (apply Nq.en; assumption)
                                                                                                                                   | omega
                                                                                                                                   | (simp only [Nq] at *; omega)))); done))
                                         | omega)) only [↓put_σ, ↓mk_σ, AV.cells, sset, sdrop_none, sdrop_nil, sdrop_in, sdrop_out, List.nil_append, List.cons_append, List.append_nil, List.map_nil, List.map_cons, List.take_succ_cons, List.take_zero, List.drop_succ_cons, List.drop_zero, take_len', take_map_len, Nat.zero_add, Nat.add_zero, ofCell, ofConst]; rfl)
                    | rfl))
  apply le; (repeat (first | (apply KeepIs.take; rfl) | (apply KeepIs.skip; rfl) | exact KeepIs.nil))
  (repeat (first | refine cs ?_ | refine cb ?_ | refine ck ?_ | refine cx ?_ | refine cr ?_ | refine an ?_ | refine ae ?_ | refine ar ?_ | refine bn ?_ | refine bh ?_ | refine be rfl ?_ | refine br ?_ | refine ct rfl ?_ | refine cf rfl ?_))
  first | refine sw_seq_region ?_ | refine sw_region ?_
  refine lo (lop_move (E rfl)) rfl ?_
  refine lo (lop_move (E rfl)) rfl ?_
  first | refine ln rfl rfl rfl rfl ?_ | refine lg rfl rfl (lop_move (E rfl)) rfl ?_
  first | refine lo (lop_pick_t (E rfl) (W rfl (by simp))) rfl ?_ | refine lo (lop_pick_f (E rfl) (E rfl)) rfl ?_ | refine lo (lop_pick (E rfl) (W rfl (by simp)) (E rfl)) rfl ?_
  refine lo (lop_move (E rfl)) rfl ?_
  first | refine ln rfl rfl rfl rfl ?_ | refine lg rfl rfl (lop_field_ptr (E rfl) rfl (by decide)) rfl ?_
  first | refine ln rfl rfl rfl rfl ?_ | refine lg rfl rfl (lop_load_ptr (W rfl id) rfl (by repeat (first | exact sget_here | refine sget_next (by (first | assumption | (apply Nq.en; assumption) | omega | (simp only [Nq] at *; omega))) ?_)) (fun _ => rfl)) rfl ?_
  first | refine ln rfl rfl rfl rfl ?_ | refine lg rfl rfl (lop_field_ptr (E rfl) rfl (by decide)) rfl ?_
  first | refine ln rfl rfl rfl rfl ?_ | refine lg rfl rfl (lop_load_ptr (W rfl id) rfl (by repeat (first | exact sget_here | refine sget_next (by (first | assumption | (apply Nq.en; assumption) | omega | (simp only [Nq] at *; omega))) ?_)) (fun _ => rfl)) rfl ?_
  first | refine ln rfl rfl rfl rfl ?_ | refine lg rfl rfl (lop_eql (W rfl id) (W rfl id)) rfl ?_
  first | refine lo (lop_pick_t (E rfl) (W rfl (by simp))) rfl ?_ | refine lo (lop_pick_f (E rfl) (E rfl)) rfl ?_ | refine lo (lop_pick (E rfl) (W rfl (by simp)) (E rfl)) rfl ?_
  refine lo (lop_move (E rfl)) rfl ?_
  first | refine ln rfl rfl rfl rfl ?_ | refine lg rfl rfl (lop_move (E rfl)) rfl ?_
  simp only [beq_self_eq_true]
  refine cwy [(s, .box 83 [.int .i64 0, .own q 0 (runF (A + B) (40 - A - B)).length]), (q, .arr 4 1 ((runF (A + B) (40 - A - B)).map encB))] rfl rfl Try.call30 (extent_free hq 0 (runF (A + B) (40 - A - B)) (by decide) (by decide) (hln _ _ (by omega))) rfl ?_ ?_ ?_
  · (repeat (first | exact ArgsLe.nil | (apply ArgsLe.cons; rfl; first | exact VLe.refl _ | exact VLe.when rfl | exact VLe.any | exact VLe.empty | exact VLe.of_eq (by simp))))
  · (first | exact no_mem | (apply StLe.mem; (repeat (first | exact StLe.nil | (apply StLe.cons; (repeat (first | exact List.mem_cons_self | apply List.mem_cons_of_mem)); first | rfl | focus (congr 1; done) | focus (simp; done) | (simp; rfl))))))
  rintro x σ' ⟨rfl, rfl⟩ -
  rw [free_run, i1]
  (apply rs_sto; (first
                    | (simp (disch := (first
                                         | (simp only [List.mem_cons, List.not_mem_nil, true_or, or_true, or_false]; done)
                                         | (focus (simp only [List.mem_cons, List.not_mem_nil, or_false, not_or]; (repeat' (first
                                                                                                                              | apply And.intro
                                                                                                                              | (first
                                                                                                                                   | assumption
                                                                                                                                   | (apply Nq.en; assumption)
                                                                                                                                   | omega
                                                                                                                                   | (simp only [Nq] at *; omega)))); done))
                                         | omega)) only [↓put_σ, ↓mk_σ, AV.cells, sset, sdrop_none, sdrop_nil, sdrop_in, sdrop_out, List.nil_append, List.cons_append, List.append_nil, List.map_nil, List.map_cons, List.take_succ_cons, List.take_zero, List.drop_succ_cons, List.drop_zero, take_len', take_map_len, Nat.zero_add, Nat.add_zero, ofCell, ofConst]; rfl)
                    | rfl))
  first | refine ln rfl rfl rfl rfl ?_ | refine lg rfl rfl (lop_move (E rfl)) rfl ?_
  first | refine ln rfl rfl rfl rfl ?_ | refine lg rfl rfl (lop_sub64 (E rfl) (W rfl id) (by omega) (by omega)) rfl ?_ | refine lg rfl rfl (lop_sub64c (E rfl) (W rfl id) (fun hc => by simp at hc; omega)) rfl ?_ | refine lg rfl rfl (lop_sub (E rfl) (W rfl id)) rfl ?_
  first | refine ln rfl rfl rfl rfl ?_ | refine lg rfl rfl (lop_move (E rfl)) rfl ?_
  first | refine ln rfl rfl rfl rfl ?_ | refine lg rfl rfl (lop_sub64 (W rfl id) (W rfl id) (by omega) (by omega)) rfl ?_ | refine lg rfl rfl (lop_sub64c (W rfl id) (W rfl id) (fun hc => by simp at hc; omega)) rfl ?_ | refine lg rfl rfl (lop_sub (W rfl id) (W rfl id)) rfl ?_
  first | refine ln rfl rfl rfl rfl ?_ | refine lg rfl rfl (lop_eql (by first | exact W rfl id | exact E rfl) (W rfl id)) rfl ?_
  first | refine lo (lop_pick_t (E rfl) (W rfl (by simp))) rfl ?_ | refine lo (lop_pick_f (E rfl) (E rfl)) rfl ?_ | refine lo (lop_pick (E rfl) (W rfl (by simp)) (E rfl)) rfl ?_
  refine lo (lop_move (E rfl)) rfl ?_
  first | refine ln rfl rfl rfl rfl ?_ | refine lg rfl rfl (lop_move (E rfl)) rfl ?_
  simp only [beq_self_eq_true]
  refine cwy [(c, .box 83 [.int .i64 0, .own d 0 (runF A (40 - A)).length]), (d, .arr 4 1 ((runF A (40 - A)).map encB))] rfl rfl Try.call30 (extent_free hdc 0 (runF A (40 - A)) (by decide) (by decide) (hln _ _ (by omega))) rfl ?_ ?_ ?_
  · (repeat (first | exact ArgsLe.nil | (apply ArgsLe.cons; rfl; first | exact VLe.refl _ | exact VLe.when rfl | exact VLe.any | exact VLe.empty | exact VLe.of_eq (by simp))))
  · (first | exact no_mem | (apply StLe.mem; (repeat (first | exact StLe.nil | (apply StLe.cons; (repeat (first | exact List.mem_cons_self | apply List.mem_cons_of_mem)); first | rfl | focus (congr 1; done) | focus (simp; done) | (simp; rfl))))))
  rintro x σ' ⟨rfl, rfl⟩ -
  rw [free_run, i2]
  (apply rs_sto; (first
                    | (simp (disch := (first
                                         | (simp only [List.mem_cons, List.not_mem_nil, true_or, or_true, or_false]; done)
                                         | (focus (simp only [List.mem_cons, List.not_mem_nil, or_false, not_or]; (repeat' (first
                                                                                                                              | apply And.intro
                                                                                                                              | (first
                                                                                                                                   | assumption
                                                                                                                                   | (apply Nq.en; assumption)
                                                                                                                                   | omega
                                                                                                                                   | (simp only [Nq] at *; omega)))); done))
                                         | omega)) only [↓put_σ, ↓mk_σ, AV.cells, sset, sdrop_none, sdrop_nil, sdrop_in, sdrop_out, List.nil_append, List.cons_append, List.append_nil, List.map_nil, List.map_cons, List.take_succ_cons, List.take_zero, List.drop_succ_cons, List.drop_zero, take_len', take_map_len, Nat.zero_add, Nat.add_zero, ofCell, ofConst]; rfl)
                    | rfl))
  first | refine ln rfl rfl rfl rfl ?_ | refine lg rfl rfl (lop_move (E rfl)) rfl ?_
  first | refine ln rfl rfl rfl rfl ?_ | refine lg rfl rfl (lop_sub64 (E rfl) (W rfl id) (by omega) (by omega)) rfl ?_ | refine lg rfl rfl (lop_sub64c (E rfl) (W rfl id) (fun hc => by simp at hc; omega)) rfl ?_ | refine lg rfl rfl (lop_sub (E rfl) (W rfl id)) rfl ?_
  first | refine ln rfl rfl rfl rfl ?_ | refine lg rfl rfl (lop_eql (by first | exact W rfl id | exact E rfl) (W rfl id)) rfl ?_
  first | refine lo (lop_pick_t (E rfl) (W rfl (by simp))) rfl ?_ | refine lo (lop_pick_f (E rfl) (E rfl)) rfl ?_ | refine lo (lop_pick (E rfl) (W rfl (by simp)) (E rfl)) rfl ?_
  refine lo (lop_assign (E rfl)) rfl ?_
  apply le; (repeat (first | (apply KeepIs.take; rfl) | (apply KeepIs.skip; rfl) | exact KeepIs.nil))
  (repeat (first | refine cs ?_ | refine cb ?_ | refine ck ?_ | refine cx ?_ | refine cr ?_ | refine an ?_ | refine ae ?_ | refine ar ?_ | refine bn ?_ | refine bh ?_ | refine be rfl ?_ | refine br ?_ | refine ct rfl ?_ | refine cf rfl ?_))
  (apply aend; (repeat (first
                          | exact ResL.nil
                          | (apply ResL.tmp; rfl)
                          | (apply ResL.cell; rfl; infer_instance; rfl; (repeat (first
                                                                                   | exact sget_here
                                                                                   | (apply sget_next; (first
                                                                                                          | assumption
                                                                                                          | (apply Nq.en; assumption)
                                                                                                          | omega
                                                                                                          | (simp only [Nq] at *; omega))))); rfl)
                          | (apply ResL.cells; rfl; infer_instance; infer_instance; rfl; (repeat (first
                                                                                                    | exact sget_here
                                                                                                    | (apply sget_next; (first
                                                                                                                           | assumption
                                                                                                                           | (apply Nq.en; assumption)
                                                                                                                           | omega
                                                                                                                           | (simp only [Nq] at *; omega))))); exact Nat.le_of_ble_eq_true rfl))))
  · simp [resAV]
  · (first | exact no_mem | (apply StLe.mem; (repeat (first | exact StLe.nil | (apply StLe.cons; (repeat (first | exact List.mem_cons_self | apply List.mem_cons_of_mem)); first | rfl | focus (congr 1; done) | focus (simp; done) | (simp; rfl))))))
end Go.Proofs.Ytpdgnenffiphcaa
