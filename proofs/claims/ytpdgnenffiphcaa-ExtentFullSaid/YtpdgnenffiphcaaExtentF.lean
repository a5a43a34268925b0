/-
  ExtentNone, ExtentFull, ExtentCopy, walked.
-/
import Derived.Test.YtpdgnenffiphcaaExtentD
import Derived.Test.YtpdgnenffiphcaaExtentE
namespace Go.Proofs.Ytpdgnenffiphcaa
open Go.RowKit Go.ChangeShapes Go.WideShapes Go.ChangeAt Go.Deep
set_option linter.unusedSimpArgs false
set_option linter.unusedVariables false
attribute [local irreducible] SW RS RD AThen ABlock

set_option maxRecDepth 100000 in
theorem law_extentNone : SCall Try.prog 11 [] [] (fun x _ => x = .bool true) := by
  refine scall_of (n := 52) (ks := [0, 1, 3]) Try.func11 rfl rfl (Nat.le_of_ble_eq_true rfl) ?_
  (repeat (first | refine cs ?_ | refine cb ?_ | refine ck ?_ | refine cx ?_ | refine cr ?_ | refine an ?_ | refine ae ?_ | refine ar ?_ | refine bn ?_ | refine bh ?_ | refine be rfl ?_ | refine br ?_ | refine ct rfl ?_ | refine cf rfl ?_))
  first | refine sw_seq_region ?_ | refine sw_region ?_
  refine lo (lop_assign (E rfl)) rfl ?_
  apply le; (repeat (first | (apply KeepIs.take; rfl) | (apply KeepIs.skip; rfl) | exact KeepIs.nil))
  (repeat (first | refine cs ?_ | refine cb ?_ | refine ck ?_ | refine cx ?_ | refine cr ?_ | refine an ?_ | refine ae ?_ | refine ar ?_ | refine bn ?_ | refine bh ?_ | refine be rfl ?_ | refine br ?_ | refine ct rfl ?_ | refine cf rfl ?_))
  first | refine sw_seq_region ?_ | refine sw_region ?_
  refine lo (lop_assign (E rfl)) rfl ?_
  apply le; (repeat (first | (apply KeepIs.take; rfl) | (apply KeepIs.skip; rfl) | exact KeepIs.nil))
  (repeat (first | refine cs ?_ | refine cb ?_ | refine ck ?_ | refine cx ?_ | refine cr ?_ | refine an ?_ | refine ae ?_ | refine ar ?_ | refine bn ?_ | refine bh ?_ | refine be rfl ?_ | refine br ?_ | refine ct rfl ?_ | refine cf rfl ?_))
  first | refine sw_seq_region ?_ | refine sw_region ?_
  refine lo (lop_move (E rfl)) rfl ?_
  (first
     | refine pu [] Try.call25 (nil_take 1) rfl (by repeat (first
                                                              | exact ArgsIf.nil
                                                              | refine ArgsIf.cons (by first
                                                                                         | exact Ev.when rfl (by first
                                                                                                                   | exact id
                                                                                                                   | simp)
                                                                                         | exact Ev.here rfl) (by first
                                                                                                                    | exact Bor.refl _
                                                                                                                    | exact Bor.le VLe.any
                                                                                                                    | exact Bor.le VLe.empty
                                                                                                                    | exact Bor.own (by simp) (by repeat (first
                                                                                                                                                            | exact sget_here
                                                                                                                                                            | refine sget_next (by (first
                                                                                                                                                                                      | assumption
                                                                                                                                                                                      | (apply Nq.en; assumption)
                                                                                                                                                                                      | omega
                                                                                                                                                                                      | (simp only [Nq] at *; omega))) ?_)) (by simp)
                                                                                                                    | exact Bor.le (VLe.of_eq (by simp))) ?_)) (by repeat (first
                                                                                                                                                                             | exact NoF.int
                                                                                                                                                                             | exact NoF.bool
                                                                                                                                                                             | exact NoF.nilp
                                                                                                                                                                             | exact NoF.nil
                                                                                                                                                                             | exact NoF.own
                                                                                                                                                                             | exact NoF.ptr
                                                                                                                                                                             | exact NoF.str
                                                                                                                                                                             | exact nofl_nil
                                                                                                                                                                             | apply NoF.tup
                                                                                                                                                                             | apply NoF.agg
                                                                                                                                                                             | apply nofl_cons)) ?_
     | refine pug [] rfl rfl Try.call25 (fun _ => (nil_take 1)) rfl (by repeat (first
                                                                                  | exact ArgsIf.nil
                                                                                  | refine ArgsIf.cons (by first
                                                                                                             | exact Ev.when rfl (by first
                                                                                                                                       | exact id
                                                                                                                                       | simp)
                                                                                                             | exact Ev.here rfl) (by first
                                                                                                                                        | exact Bor.refl _
                                                                                                                                        | exact Bor.le VLe.any
                                                                                                                                        | exact Bor.le VLe.empty
                                                                                                                                        | exact Bor.own (by simp) (by repeat (first
                                                                                                                                                                                | exact sget_here
                                                                                                                                                                                | refine sget_next (by (first
                                                                                                                                                                                                          | assumption
                                                                                                                                                                                                          | (apply Nq.en; assumption)
                                                                                                                                                                                                          | omega
                                                                                                                                                                                                          | (simp only [Nq] at *; omega))) ?_)) (by simp)
                                                                                                                                        | exact Bor.le (VLe.of_eq (by simp))) ?_)) (by repeat (first
                                                                                                                                                                                                 | exact NoF.int
                                                                                                                                                                                                 | exact NoF.bool
                                                                                                                                                                                                 | exact NoF.nilp
                                                                                                                                                                                                 | exact NoF.nil
                                                                                                                                                                                                 | exact NoF.own
                                                                                                                                                                                                 | exact NoF.ptr
                                                                                                                                                                                                 | exact NoF.str
                                                                                                                                                                                                 | exact nofl_nil
                                                                                                                                                                                                 | apply NoF.tup
                                                                                                                                                                                                 | apply NoF.agg
                                                                                                                                                                                                 | apply nofl_cons)) ?_)
  refine lo (lop_move (E rfl)) rfl ?_
  refine lo (lop_extract (E rfl) rfl) rfl ?_
  refine lo (lop_extract (E rfl) rfl) rfl ?_
  apply al; rfl; (first | (simp only [Value.cells, AV.cells, List.map_cons, List.map_nil, ofConst, ofCell]; rfl) | rfl); intro r2 h2; simp only [fresh_cons, fresh_nil, and_true] at h2; (repeat (rcases h2 with ⟨_, h2⟩))
  apply stp; rfl; rfl; rfl; rfl; (repeat (first
                                            | (apply SPut.here; (repeat (first
                                                                           | exact Put.done
                                                                           | apply Put.put
                                                                           | apply Put.skip)); (repeat (first
                                                                                                          | exact Fresh.nil
                                                                                                          | (apply Fresh.cons; (first
                                                                                                                                  | assumption
                                                                                                                                  | (apply Nq.en; assumption)
                                                                                                                                  | omega
                                                                                                                                  | (simp only [Nq] at *; omega))))))
                                            | (apply SPut.next; (first
                                                                   | assumption
                                                                   | (apply Nq.en; assumption)
                                                                   | omega
                                                                   | (simp only [Nq] at *; omega)))))
  refine lo (lop_assign (E rfl)) rfl ?_
  apply le; (repeat (first | (apply KeepIs.take; rfl) | (apply KeepIs.skip; rfl) | exact KeepIs.nil))
  (repeat (first | refine cs ?_ | refine cb ?_ | refine ck ?_ | refine cx ?_ | refine cr ?_ | refine an ?_ | refine ae ?_ | refine ar ?_ | refine bn ?_ | refine bh ?_ | refine be rfl ?_ | refine br ?_ | refine ct rfl ?_ | refine cf rfl ?_))
  first | refine sw_seq_region ?_ | refine sw_region ?_
  (first
     | refine pu [] Try.call23 law_begun19 rfl (by repeat (first
                                                             | exact ArgsIf.nil
                                                             | refine ArgsIf.cons (by first
                                                                                        | exact Ev.when rfl (by first
                                                                                                                  | exact id
                                                                                                                  | simp)
                                                                                        | exact Ev.here rfl) (by first
                                                                                                                   | exact Bor.refl _
                                                                                                                   | exact Bor.le VLe.any
                                                                                                                   | exact Bor.le VLe.empty
                                                                                                                   | exact Bor.own (by simp) (by repeat (first
                                                                                                                                                           | exact sget_here
                                                                                                                                                           | refine sget_next (by (first
                                                                                                                                                                                     | assumption
                                                                                                                                                                                     | (apply Nq.en; assumption)
                                                                                                                                                                                     | omega
                                                                                                                                                                                     | (simp only [Nq] at *; omega))) ?_)) (by simp)
                                                                                                                   | exact Bor.le (VLe.of_eq (by simp))) ?_)) (by repeat (first
                                                                                                                                                                            | exact NoF.int
                                                                                                                                                                            | exact NoF.bool
                                                                                                                                                                            | exact NoF.nilp
                                                                                                                                                                            | exact NoF.nil
                                                                                                                                                                            | exact NoF.own
                                                                                                                                                                            | exact NoF.ptr
                                                                                                                                                                            | exact NoF.str
                                                                                                                                                                            | exact nofl_nil
                                                                                                                                                                            | apply NoF.tup
                                                                                                                                                                            | apply NoF.agg
                                                                                                                                                                            | apply nofl_cons)) ?_
     | refine pug [] rfl rfl Try.call23 (fun _ => law_begun19) rfl (by repeat (first
                                                                                 | exact ArgsIf.nil
                                                                                 | refine ArgsIf.cons (by first
                                                                                                            | exact Ev.when rfl (by first
                                                                                                                                      | exact id
                                                                                                                                      | simp)
                                                                                                            | exact Ev.here rfl) (by first
                                                                                                                                       | exact Bor.refl _
                                                                                                                                       | exact Bor.le VLe.any
                                                                                                                                       | exact Bor.le VLe.empty
                                                                                                                                       | exact Bor.own (by simp) (by repeat (first
                                                                                                                                                                               | exact sget_here
                                                                                                                                                                               | refine sget_next (by (first
                                                                                                                                                                                                         | assumption
                                                                                                                                                                                                         | (apply Nq.en; assumption)
                                                                                                                                                                                                         | omega
                                                                                                                                                                                                         | (simp only [Nq] at *; omega))) ?_)) (by simp)
                                                                                                                                       | exact Bor.le (VLe.of_eq (by simp))) ?_)) (by repeat (first
                                                                                                                                                                                                | exact NoF.int
                                                                                                                                                                                                | exact NoF.bool
                                                                                                                                                                                                | exact NoF.nilp
                                                                                                                                                                                                | exact NoF.nil
                                                                                                                                                                                                | exact NoF.own
                                                                                                                                                                                                | exact NoF.ptr
                                                                                                                                                                                                | exact NoF.str
                                                                                                                                                                                                | exact nofl_nil
                                                                                                                                                                                                | apply NoF.tup
                                                                                                                                                                                                | apply NoF.agg
                                                                                                                                                                                                | apply nofl_cons)) ?_)
  refine lo (lop_move (E rfl)) rfl ?_
  first | refine ln rfl rfl rfl rfl ?_ | refine lg rfl rfl (lop_move (E rfl)) rfl ?_
  first | refine ln rfl rfl rfl rfl ?_ | refine lg rfl rfl (lop_not (W rfl id)) rfl ?_
  first | refine lo (lop_pick_t (E rfl) (W rfl (by simp))) rfl ?_ | refine lo (lop_pick_f (E rfl) (E rfl)) rfl ?_ | refine lo (lop_pick (E rfl) (W rfl (by simp)) (E rfl)) rfl ?_
  refine lo (lop_move (E rfl)) rfl ?_
  first | refine ln rfl rfl rfl rfl ?_ | refine lg rfl rfl (lop_move (E rfl)) rfl ?_
  first
    | refine ln rfl rfl rfl rfl ?_
    | refine lg rfl rfl (lop_str (by repeat (first
                                               | exact PEvs.nil
                                               | (apply PEvs.cons; first
                                                                     | exact W rfl id
                                                                     | exact E rfl))) (by (first
                                                                                             | (simp only [Value.cells, AV.cells, List.map_cons, List.map_nil, ofConst, ofCell]; rfl)
                                                                                             | rfl)) (by repeat (first
                                                                                                                   | exact Fill.nil
                                                                                                                   | (apply Fill.cons; rfl; rfl; rfl; (repeat (first
                                                                                                                                                                 | exact Put.done
                                                                                                                                                                 | apply Put.put
                                                                                                                                                                 | apply Put.skip)))))) rfl ?_
  (first
     | refine pu [] Try.call26 (nil_Use 0 1) rfl (by repeat (first
                                                               | exact ArgsIf.nil
                                                               | refine ArgsIf.cons (by first
                                                                                          | exact Ev.when rfl (by first
                                                                                                                    | exact id
                                                                                                                    | simp)
                                                                                          | exact Ev.here rfl) (by first
                                                                                                                     | exact Bor.refl _
                                                                                                                     | exact Bor.le VLe.any
                                                                                                                     | exact Bor.le VLe.empty
                                                                                                                     | exact Bor.own (by simp) (by repeat (first
                                                                                                                                                             | exact sget_here
                                                                                                                                                             | refine sget_next (by (first
                                                                                                                                                                                       | assumption
                                                                                                                                                                                       | (apply Nq.en; assumption)
                                                                                                                                                                                       | omega
                                                                                                                                                                                       | (simp only [Nq] at *; omega))) ?_)) (by simp)
                                                                                                                     | exact Bor.le (VLe.of_eq (by simp))) ?_)) (by repeat (first
                                                                                                                                                                              | exact NoF.int
                                                                                                                                                                              | exact NoF.bool
                                                                                                                                                                              | exact NoF.nilp
                                                                                                                                                                              | exact NoF.nil
                                                                                                                                                                              | exact NoF.own
                                                                                                                                                                              | exact NoF.ptr
                                                                                                                                                                              | exact NoF.str
                                                                                                                                                                              | exact nofl_nil
                                                                                                                                                                              | apply NoF.tup
                                                                                                                                                                              | apply NoF.agg
                                                                                                                                                                              | apply nofl_cons)) ?_
     | refine pug [] rfl rfl Try.call26 (fun _ => (nil_Use 0 1)) rfl (by repeat (first
                                                                                   | exact ArgsIf.nil
                                                                                   | refine ArgsIf.cons (by first
                                                                                                              | exact Ev.when rfl (by first
                                                                                                                                        | exact id
                                                                                                                                        | simp)
                                                                                                              | exact Ev.here rfl) (by first
                                                                                                                                         | exact Bor.refl _
                                                                                                                                         | exact Bor.le VLe.any
                                                                                                                                         | exact Bor.le VLe.empty
                                                                                                                                         | exact Bor.own (by simp) (by repeat (first
                                                                                                                                                                                 | exact sget_here
                                                                                                                                                                                 | refine sget_next (by (first
                                                                                                                                                                                                           | assumption
                                                                                                                                                                                                           | (apply Nq.en; assumption)
                                                                                                                                                                                                           | omega
                                                                                                                                                                                                           | (simp only [Nq] at *; omega))) ?_)) (by simp)
                                                                                                                                         | exact Bor.le (VLe.of_eq (by simp))) ?_)) (by repeat (first
                                                                                                                                                                                                  | exact NoF.int
                                                                                                                                                                                                  | exact NoF.bool
                                                                                                                                                                                                  | exact NoF.nilp
                                                                                                                                                                                                  | exact NoF.nil
                                                                                                                                                                                                  | exact NoF.own
                                                                                                                                                                                                  | exact NoF.ptr
                                                                                                                                                                                                  | exact NoF.str
                                                                                                                                                                                                  | exact nofl_nil
                                                                                                                                                                                                  | apply NoF.tup
                                                                                                                                                                                                  | apply NoF.agg
                                                                                                                                                                                                  | apply nofl_cons)) ?_)
  first | refine ln rfl rfl rfl rfl ?_ | refine lg rfl rfl (lop_not (by first | exact W rfl id | exact E rfl)) rfl ?_
  first | refine lo (lop_pick_t (E rfl) (W rfl (by simp))) rfl ?_ | refine lo (lop_pick_f (E rfl) (E rfl)) rfl ?_ | refine lo (lop_pick (E rfl) (W rfl (by simp)) (E rfl)) rfl ?_
  refine lo (lop_move (E rfl)) rfl ?_
  first | refine ln rfl rfl rfl rfl ?_ | refine lg rfl rfl (lop_move (E rfl)) rfl ?_
  first
    | refine ln rfl rfl rfl rfl ?_
    | refine lg rfl rfl (lop_str (by repeat (first
                                               | exact PEvs.nil
                                               | (apply PEvs.cons; first
                                                                     | exact W rfl id
                                                                     | exact E rfl))) (by (first
                                                                                             | (simp only [Value.cells, AV.cells, List.map_cons, List.map_nil, ofConst, ofCell]; rfl)
                                                                                             | rfl)) (by repeat (first
                                                                                                                   | exact Fill.nil
                                                                                                                   | (apply Fill.cons; rfl; rfl; rfl; (repeat (first
                                                                                                                                                                 | exact Put.done
                                                                                                                                                                 | apply Put.put
                                                                                                                                                                 | apply Put.skip)))))) rfl ?_
  (first
     | refine pu [] Try.call27 (nil_Give 0 1) rfl (by repeat (first
                                                                | exact ArgsIf.nil
                                                                | refine ArgsIf.cons (by first
                                                                                           | exact Ev.when rfl (by first
                                                                                                                     | exact id
                                                                                                                     | simp)
                                                                                           | exact Ev.here rfl) (by first
                                                                                                                      | exact Bor.refl _
                                                                                                                      | exact Bor.le VLe.any
                                                                                                                      | exact Bor.le VLe.empty
                                                                                                                      | exact Bor.own (by simp) (by repeat (first
                                                                                                                                                              | exact sget_here
                                                                                                                                                              | refine sget_next (by (first
                                                                                                                                                                                        | assumption
                                                                                                                                                                                        | (apply Nq.en; assumption)
                                                                                                                                                                                        | omega
                                                                                                                                                                                        | (simp only [Nq] at *; omega))) ?_)) (by simp)
                                                                                                                      | exact Bor.le (VLe.of_eq (by simp))) ?_)) (by repeat (first
                                                                                                                                                                               | exact NoF.int
                                                                                                                                                                               | exact NoF.bool
                                                                                                                                                                               | exact NoF.nilp
                                                                                                                                                                               | exact NoF.nil
                                                                                                                                                                               | exact NoF.own
                                                                                                                                                                               | exact NoF.ptr
                                                                                                                                                                               | exact NoF.str
                                                                                                                                                                               | exact nofl_nil
                                                                                                                                                                               | apply NoF.tup
                                                                                                                                                                               | apply NoF.agg
                                                                                                                                                                               | apply nofl_cons)) ?_
     | refine pug [] rfl rfl Try.call27 (fun _ => (nil_Give 0 1)) rfl (by repeat (first
                                                                                    | exact ArgsIf.nil
                                                                                    | refine ArgsIf.cons (by first
                                                                                                               | exact Ev.when rfl (by first
                                                                                                                                         | exact id
                                                                                                                                         | simp)
                                                                                                               | exact Ev.here rfl) (by first
                                                                                                                                          | exact Bor.refl _
                                                                                                                                          | exact Bor.le VLe.any
                                                                                                                                          | exact Bor.le VLe.empty
                                                                                                                                          | exact Bor.own (by simp) (by repeat (first
                                                                                                                                                                                  | exact sget_here
                                                                                                                                                                                  | refine sget_next (by (first
                                                                                                                                                                                                            | assumption
                                                                                                                                                                                                            | (apply Nq.en; assumption)
                                                                                                                                                                                                            | omega
                                                                                                                                                                                                            | (simp only [Nq] at *; omega))) ?_)) (by simp)
                                                                                                                                          | exact Bor.le (VLe.of_eq (by simp))) ?_)) (by repeat (first
                                                                                                                                                                                                   | exact NoF.int
                                                                                                                                                                                                   | exact NoF.bool
                                                                                                                                                                                                   | exact NoF.nilp
                                                                                                                                                                                                   | exact NoF.nil
                                                                                                                                                                                                   | exact NoF.own
                                                                                                                                                                                                   | exact NoF.ptr
                                                                                                                                                                                                   | exact NoF.str
                                                                                                                                                                                                   | exact nofl_nil
                                                                                                                                                                                                   | apply NoF.tup
                                                                                                                                                                                                   | apply NoF.agg
                                                                                                                                                                                                   | apply nofl_cons)) ?_)
  first | refine ln rfl rfl rfl rfl ?_ | refine lg rfl rfl (lop_not (by first | exact W rfl id | exact E rfl)) rfl ?_
  first | refine lo (lop_pick_t (E rfl) (W rfl (by simp))) rfl ?_ | refine lo (lop_pick_f (E rfl) (E rfl)) rfl ?_ | refine lo (lop_pick (E rfl) (W rfl (by simp)) (E rfl)) rfl ?_
  refine lo (lop_move (E rfl)) rfl ?_
  first | refine ln rfl rfl rfl rfl ?_ | refine lg rfl rfl (lop_move (E rfl)) rfl ?_
  (first
     | refine pu [] Try.call30 nil_free rfl (by repeat (first
                                                          | exact ArgsIf.nil
                                                          | refine ArgsIf.cons (by first
                                                                                     | exact Ev.when rfl (by first
                                                                                                               | exact id
                                                                                                               | simp)
                                                                                     | exact Ev.here rfl) (by first
                                                                                                                | exact Bor.refl _
                                                                                                                | exact Bor.le VLe.any
                                                                                                                | exact Bor.le VLe.empty
                                                                                                                | exact Bor.own (by simp) (by repeat (first
                                                                                                                                                        | exact sget_here
                                                                                                                                                        | refine sget_next (by (first
                                                                                                                                                                                  | assumption
                                                                                                                                                                                  | (apply Nq.en; assumption)
                                                                                                                                                                                  | omega
                                                                                                                                                                                  | (simp only [Nq] at *; omega))) ?_)) (by simp)
                                                                                                                | exact Bor.le (VLe.of_eq (by simp))) ?_)) (by repeat (first
                                                                                                                                                                         | exact NoF.int
                                                                                                                                                                         | exact NoF.bool
                                                                                                                                                                         | exact NoF.nilp
                                                                                                                                                                         | exact NoF.nil
                                                                                                                                                                         | exact NoF.own
                                                                                                                                                                         | exact NoF.ptr
                                                                                                                                                                         | exact NoF.str
                                                                                                                                                                         | exact nofl_nil
                                                                                                                                                                         | apply NoF.tup
                                                                                                                                                                         | apply NoF.agg
                                                                                                                                                                         | apply nofl_cons)) ?_
     | refine pug [] rfl rfl Try.call30 (fun _ => nil_free) rfl (by repeat (first
                                                                              | exact ArgsIf.nil
                                                                              | refine ArgsIf.cons (by first
                                                                                                         | exact Ev.when rfl (by first
                                                                                                                                   | exact id
                                                                                                                                   | simp)
                                                                                                         | exact Ev.here rfl) (by first
                                                                                                                                    | exact Bor.refl _
                                                                                                                                    | exact Bor.le VLe.any
                                                                                                                                    | exact Bor.le VLe.empty
                                                                                                                                    | exact Bor.own (by simp) (by repeat (first
                                                                                                                                                                            | exact sget_here
                                                                                                                                                                            | refine sget_next (by (first
                                                                                                                                                                                                      | assumption
                                                                                                                                                                                                      | (apply Nq.en; assumption)
                                                                                                                                                                                                      | omega
                                                                                                                                                                                                      | (simp only [Nq] at *; omega))) ?_)) (by simp)
                                                                                                                                    | exact Bor.le (VLe.of_eq (by simp))) ?_)) (by repeat (first
                                                                                                                                                                                             | exact NoF.int
                                                                                                                                                                                             | exact NoF.bool
                                                                                                                                                                                             | exact NoF.nilp
                                                                                                                                                                                             | exact NoF.nil
                                                                                                                                                                                             | exact NoF.own
                                                                                                                                                                                             | exact NoF.ptr
                                                                                                                                                                                             | exact NoF.str
                                                                                                                                                                                             | exact nofl_nil
                                                                                                                                                                                             | apply NoF.tup
                                                                                                                                                                                             | apply NoF.agg
                                                                                                                                                                                             | apply nofl_cons)) ?_)
  first | refine ln rfl rfl rfl rfl ?_ | refine lg rfl rfl (lop_eql (by first | exact W rfl id | exact E rfl) (E rfl)) rfl ?_
  first | refine lo (lop_pick_t (E rfl) (W rfl (by simp))) rfl ?_ | refine lo (lop_pick_f (E rfl) (E rfl)) rfl ?_ | refine lo (lop_pick (E rfl) (W rfl (by simp)) (E rfl)) rfl ?_
  refine lo (lop_move (E rfl)) rfl ?_
  first | refine ln rfl rfl rfl rfl ?_ | refine lg rfl rfl (lop_move (E rfl)) rfl ?_
  (first
     | refine pu [] Try.call29 nil_spans rfl (by repeat (first
                                                           | exact ArgsIf.nil
                                                           | refine ArgsIf.cons (by first
                                                                                      | exact Ev.when rfl (by first
                                                                                                                | exact id
                                                                                                                | simp)
                                                                                      | exact Ev.here rfl) (by first
                                                                                                                 | exact Bor.refl _
                                                                                                                 | exact Bor.le VLe.any
                                                                                                                 | exact Bor.le VLe.empty
                                                                                                                 | exact Bor.own (by simp) (by repeat (first
                                                                                                                                                         | exact sget_here
                                                                                                                                                         | refine sget_next (by (first
                                                                                                                                                                                   | assumption
                                                                                                                                                                                   | (apply Nq.en; assumption)
                                                                                                                                                                                   | omega
                                                                                                                                                                                   | (simp only [Nq] at *; omega))) ?_)) (by simp)
                                                                                                                 | exact Bor.le (VLe.of_eq (by simp))) ?_)) (by repeat (first
                                                                                                                                                                          | exact NoF.int
                                                                                                                                                                          | exact NoF.bool
                                                                                                                                                                          | exact NoF.nilp
                                                                                                                                                                          | exact NoF.nil
                                                                                                                                                                          | exact NoF.own
                                                                                                                                                                          | exact NoF.ptr
                                                                                                                                                                          | exact NoF.str
                                                                                                                                                                          | exact nofl_nil
                                                                                                                                                                          | apply NoF.tup
                                                                                                                                                                          | apply NoF.agg
                                                                                                                                                                          | apply nofl_cons)) ?_
     | refine pug [] rfl rfl Try.call29 (fun _ => nil_spans) rfl (by repeat (first
                                                                               | exact ArgsIf.nil
                                                                               | refine ArgsIf.cons (by first
                                                                                                          | exact Ev.when rfl (by first
                                                                                                                                    | exact id
                                                                                                                                    | simp)
                                                                                                          | exact Ev.here rfl) (by first
                                                                                                                                     | exact Bor.refl _
                                                                                                                                     | exact Bor.le VLe.any
                                                                                                                                     | exact Bor.le VLe.empty
                                                                                                                                     | exact Bor.own (by simp) (by repeat (first
                                                                                                                                                                             | exact sget_here
                                                                                                                                                                             | refine sget_next (by (first
                                                                                                                                                                                                       | assumption
                                                                                                                                                                                                       | (apply Nq.en; assumption)
                                                                                                                                                                                                       | omega
                                                                                                                                                                                                       | (simp only [Nq] at *; omega))) ?_)) (by simp)
                                                                                                                                     | exact Bor.le (VLe.of_eq (by simp))) ?_)) (by repeat (first
                                                                                                                                                                                              | exact NoF.int
                                                                                                                                                                                              | exact NoF.bool
                                                                                                                                                                                              | exact NoF.nilp
                                                                                                                                                                                              | exact NoF.nil
                                                                                                                                                                                              | exact NoF.own
                                                                                                                                                                                              | exact NoF.ptr
                                                                                                                                                                                              | exact NoF.str
                                                                                                                                                                                              | exact nofl_nil
                                                                                                                                                                                              | apply NoF.tup
                                                                                                                                                                                              | apply NoF.agg
                                                                                                                                                                                              | apply nofl_cons)) ?_)
  first | refine ln rfl rfl rfl rfl ?_ | refine lg rfl rfl (lop_len_map (by first | exact W rfl id | exact E rfl)) rfl ?_ | refine lg rfl rfl (lop_len_ro (by first | exact W rfl id | exact E rfl)) rfl ?_ | refine lg rfl rfl (lop_len_own (by first | exact W rfl id | exact E rfl)) rfl ?_
  first | refine ln rfl rfl rfl rfl ?_ | refine lg rfl rfl (lop_eql (W rfl id) (E rfl)) rfl ?_
  first | refine lo (lop_pick_t (E rfl) (W rfl (by simp))) rfl ?_ | refine lo (lop_pick_f (E rfl) (E rfl)) rfl ?_ | refine lo (lop_pick (E rfl) (W rfl (by simp)) (E rfl)) rfl ?_
  refine lo (lop_move (E rfl)) rfl ?_
  first | refine ln rfl rfl rfl rfl ?_ | refine lg rfl rfl (lop_move (E rfl)) rfl ?_
  (first
     | refine pu [] Try.call31 nil_copy rfl (by repeat (first
                                                          | exact ArgsIf.nil
                                                          | refine ArgsIf.cons (by first
                                                                                     | exact Ev.when rfl (by first
                                                                                                               | exact id
                                                                                                               | simp)
                                                                                     | exact Ev.here rfl) (by first
                                                                                                                | exact Bor.refl _
                                                                                                                | exact Bor.le VLe.any
                                                                                                                | exact Bor.le VLe.empty
                                                                                                                | exact Bor.own (by simp) (by repeat (first
                                                                                                                                                        | exact sget_here
                                                                                                                                                        | refine sget_next (by (first
                                                                                                                                                                                  | assumption
                                                                                                                                                                                  | (apply Nq.en; assumption)
                                                                                                                                                                                  | omega
                                                                                                                                                                                  | (simp only [Nq] at *; omega))) ?_)) (by simp)
                                                                                                                | exact Bor.le (VLe.of_eq (by simp))) ?_)) (by repeat (first
                                                                                                                                                                         | exact NoF.int
                                                                                                                                                                         | exact NoF.bool
                                                                                                                                                                         | exact NoF.nilp
                                                                                                                                                                         | exact NoF.nil
                                                                                                                                                                         | exact NoF.own
                                                                                                                                                                         | exact NoF.ptr
                                                                                                                                                                         | exact NoF.str
                                                                                                                                                                         | exact nofl_nil
                                                                                                                                                                         | apply NoF.tup
                                                                                                                                                                         | apply NoF.agg
                                                                                                                                                                         | apply nofl_cons)) ?_
     | refine pug [] rfl rfl Try.call31 (fun _ => nil_copy) rfl (by repeat (first
                                                                              | exact ArgsIf.nil
                                                                              | refine ArgsIf.cons (by first
                                                                                                         | exact Ev.when rfl (by first
                                                                                                                                   | exact id
                                                                                                                                   | simp)
                                                                                                         | exact Ev.here rfl) (by first
                                                                                                                                    | exact Bor.refl _
                                                                                                                                    | exact Bor.le VLe.any
                                                                                                                                    | exact Bor.le VLe.empty
                                                                                                                                    | exact Bor.own (by simp) (by repeat (first
                                                                                                                                                                            | exact sget_here
                                                                                                                                                                            | refine sget_next (by (first
                                                                                                                                                                                                      | assumption
                                                                                                                                                                                                      | (apply Nq.en; assumption)
                                                                                                                                                                                                      | omega
                                                                                                                                                                                                      | (simp only [Nq] at *; omega))) ?_)) (by simp)
                                                                                                                                    | exact Bor.le (VLe.of_eq (by simp))) ?_)) (by repeat (first
                                                                                                                                                                                             | exact NoF.int
                                                                                                                                                                                             | exact NoF.bool
                                                                                                                                                                                             | exact NoF.nilp
                                                                                                                                                                                             | exact NoF.nil
                                                                                                                                                                                             | exact NoF.own
                                                                                                                                                                                             | exact NoF.ptr
                                                                                                                                                                                             | exact NoF.str
                                                                                                                                                                                             | exact nofl_nil
                                                                                                                                                                                             | apply NoF.tup
                                                                                                                                                                                             | apply NoF.agg
                                                                                                                                                                                             | apply nofl_cons)) ?_)
  first
    | refine ln rfl rfl rfl rfl ?_
    | refine lg rfl rfl (lop_peql (by first
                                        | exact W rfl id
                                        | exact E rfl) (E rfl) (.inl ⟨rfl, rfl⟩)) rfl ?_
    | refine lg rfl rfl (lop_peql (by first
                                        | exact W rfl id
                                        | exact E rfl) (E rfl) (.inr (.inl ⟨⟨_, _, rfl⟩, rfl⟩))) rfl ?_
    | refine lg rfl rfl (lop_peql (by first
                                        | exact W rfl id
                                        | exact E rfl) (E rfl) (.inr (.inr ⟨⟨_, _, _, rfl⟩, rfl⟩))) rfl ?_
  first | refine lo (lop_pick_t (E rfl) (W rfl (by simp))) rfl ?_ | refine lo (lop_pick_f (E rfl) (E rfl)) rfl ?_ | refine lo (lop_pick (E rfl) (W rfl (by simp)) (E rfl)) rfl ?_
  refine lo (lop_move (E rfl)) rfl ?_
  refine cwy [] rfl rfl Try.call24 (extent_new (-1) 5) rfl ?_ ?_ ?_
  · (repeat (first | exact ArgsLe.nil | (apply ArgsLe.cons; rfl; first | exact VLe.refl _ | exact VLe.when rfl | exact VLe.any | exact VLe.empty | exact VLe.of_eq (by simp))))
  · (first | exact no_mem | (apply StLe.mem; (repeat (first | exact StLe.nil | (apply StLe.cons; (repeat (first | exact List.mem_cons_self | apply List.mem_cons_of_mem)); first | rfl | focus (congr 1; done) | focus (simp; done) | (simp; rfl))))))
  rintro x σ' ⟨s, q, hq, rfl, rfl⟩ -
  rw [show newA (-1) 5 = 0 from rfl, show newF (-1) 5 = [] from rfl]
  (apply rs_sto; (first
                    | (simp (disch := (first
                                         | (simp only [List.mem_cons, List.not_mem_nil, true_or, or_true, or_false]; done)
                                         | (focus (simp only [List.mem_cons, List.not_mem_nil, or_false, not_or]; (repeat' (first
                                                                                                                              | apply And.intro
                                                                                                                              | (first
                                                                                                                                   | assumption
                                                                                                                                   | (apply Nq.en; assumption)
                                                                                                                                   | omega
                                                                                                                                   | (simp only [Nq] at *; omega)))); done))
                                         | omega)) only [↓put_σ, ↓mk_σ, AV.cells, sset, sdrop_none, sdrop_nil, sdrop_in, sdrop_out, List.nil_append, List.cons_append, List.append_nil, List.map_nil, List.map_cons, List.take_succ_cons, List.take_zero, List.drop_succ_cons, List.drop_zero, take_len', take_map_len, Nat.zero_add, Nat.add_zero, ofCell, ofConst]; rfl)
                    | rfl))
  refine cwy [(s, .box 83 [.int .i64 0, .own q 0 (([] : List Bool)).length]), (q, .arr 4 1 ((([] : List Bool)).map encB))] rfl rfl Try.call30 (extent_free hq (0 : Int) [] (by decide) (by decide) (by decide)) rfl ?_ ?_ ?_
  · (repeat (first | exact ArgsLe.nil | (apply ArgsLe.cons; rfl; first | exact VLe.refl _ | exact VLe.when rfl | exact VLe.any | exact VLe.empty | exact VLe.of_eq (by simp))))
  · (first | exact no_mem | (apply StLe.mem; (repeat (first | exact StLe.nil | (apply StLe.cons; (repeat (first | exact List.mem_cons_self | apply List.mem_cons_of_mem)); first | rfl | focus (congr 1; done) | focus (simp; done) | (simp; rfl))))))
  rintro x σ' ⟨rfl, rfl⟩ -
  rw [show sumL (spans 0 []) = 0 from rfl]
  (apply rs_sto; (first
                    | (simp (disch := (first
                                         | (simp only [List.mem_cons, List.not_mem_nil, true_or, or_true, or_false]; done)
                                         | (focus (simp only [List.mem_cons, List.not_mem_nil, or_false, not_or]; (repeat' (first
                                                                                                                              | apply And.intro
                                                                                                                              | (first
                                                                                                                                   | assumption
                                                                                                                                   | (apply Nq.en; assumption)
                                                                                                                                   | omega
                                                                                                                                   | (simp only [Nq] at *; omega)))); done))
                                         | omega)) only [↓put_σ, ↓mk_σ, AV.cells, sset, sdrop_none, sdrop_nil, sdrop_in, sdrop_out, List.nil_append, List.cons_append, List.append_nil, List.map_nil, List.map_cons, List.take_succ_cons, List.take_zero, List.drop_succ_cons, List.drop_zero, take_len', take_map_len, Nat.zero_add, Nat.add_zero, ofCell, ofConst]; rfl)
                    | rfl))
  first | refine ln rfl rfl rfl rfl ?_ | refine lg rfl rfl (lop_eql (by first | exact W rfl id | exact E rfl) (E rfl)) rfl ?_
  first | refine lo (lop_pick_t (E rfl) (W rfl (by simp))) rfl ?_ | refine lo (lop_pick_f (E rfl) (E rfl)) rfl ?_ | refine lo (lop_pick (E rfl) (W rfl (by simp)) (E rfl)) rfl ?_
  refine lo (lop_move (E rfl)) rfl ?_
  refine cwy [] rfl rfl Try.call24 (extent_new 0 2049) rfl ?_ ?_ ?_
  · (repeat (first | exact ArgsLe.nil | (apply ArgsLe.cons; rfl; first | exact VLe.refl _ | exact VLe.when rfl | exact VLe.any | exact VLe.empty | exact VLe.of_eq (by simp))))
  · (first | exact no_mem | (apply StLe.mem; (repeat (first | exact StLe.nil | (apply StLe.cons; (repeat (first | exact List.mem_cons_self | apply List.mem_cons_of_mem)); first | rfl | focus (congr 1; done) | focus (simp; done) | (simp; rfl))))))
  rintro x σ' ⟨s2, q2, hq2, rfl, rfl⟩ -
  rw [show newA 0 2049 = 0 from rfl, show newF 0 2049 = [] from rfl]
  (apply rs_sto; (first
                    | (simp (disch := (first
                                         | (simp only [List.mem_cons, List.not_mem_nil, true_or, or_true, or_false]; done)
                                         | (focus (simp only [List.mem_cons, List.not_mem_nil, or_false, not_or]; (repeat' (first
                                                                                                                              | apply And.intro
                                                                                                                              | (first
                                                                                                                                   | assumption
                                                                                                                                   | (apply Nq.en; assumption)
                                                                                                                                   | omega
                                                                                                                                   | (simp only [Nq] at *; omega)))); done))
                                         | omega)) only [↓put_σ, ↓mk_σ, AV.cells, sset, sdrop_none, sdrop_nil, sdrop_in, sdrop_out, List.nil_append, List.cons_append, List.append_nil, List.map_nil, List.map_cons, List.take_succ_cons, List.take_zero, List.drop_succ_cons, List.drop_zero, take_len', take_map_len, Nat.zero_add, Nat.add_zero, ofCell, ofConst]; rfl)
                    | rfl))
  refine cwy [(s2, .box 83 [.int .i64 0, .own q2 0 (([] : List Bool)).length]), (q2, .arr 4 1 ((([] : List Bool)).map encB))] rfl rfl Try.call30 (extent_free hq2 (0 : Int) [] (by decide) (by decide) (by decide)) rfl ?_ ?_ ?_
  · (repeat (first | exact ArgsLe.nil | (apply ArgsLe.cons; rfl; first | exact VLe.refl _ | exact VLe.when rfl | exact VLe.any | exact VLe.empty | exact VLe.of_eq (by simp))))
  · (first | exact no_mem | (apply StLe.mem; (repeat (first | exact StLe.nil | (apply StLe.cons; (repeat (first | exact List.mem_cons_self | apply List.mem_cons_of_mem)); first | rfl | focus (congr 1; done) | focus (simp; done) | (simp; rfl))))))
  rintro x σ' ⟨rfl, rfl⟩ -
  rw [show sumL (spans 0 []) = 0 from rfl]
  (apply rs_sto; (first
                    | (simp (disch := (first
                                         | (simp only [List.mem_cons, List.not_mem_nil, true_or, or_true, or_false]; done)
                                         | (focus (simp only [List.mem_cons, List.not_mem_nil, or_false, not_or]; (repeat' (first
                                                                                                                              | apply And.intro
                                                                                                                              | (first
                                                                                                                                   | assumption
                                                                                                                                   | (apply Nq.en; assumption)
                                                                                                                                   | omega
                                                                                                                                   | (simp only [Nq] at *; omega)))); done))
                                         | omega)) only [↓put_σ, ↓mk_σ, AV.cells, sset, sdrop_none, sdrop_nil, sdrop_in, sdrop_out, List.nil_append, List.cons_append, List.append_nil, List.map_nil, List.map_cons, List.take_succ_cons, List.take_zero, List.drop_succ_cons, List.drop_zero, take_len', take_map_len, Nat.zero_add, Nat.add_zero, ofCell, ofConst]; rfl)
                    | rfl))
  first | refine ln rfl rfl rfl rfl ?_ | refine lg rfl rfl (lop_eql (by first | exact W rfl id | exact E rfl) (E rfl)) rfl ?_
  first | refine lo (lop_pick_t (E rfl) (W rfl (by simp))) rfl ?_ | refine lo (lop_pick_f (E rfl) (E rfl)) rfl ?_ | refine lo (lop_pick (E rfl) (W rfl (by simp)) (E rfl)) rfl ?_
  refine lo (lop_assign (E rfl)) rfl ?_
  apply le; (repeat (first | (apply KeepIs.take; rfl) | (apply KeepIs.skip; rfl) | exact KeepIs.nil))
  (repeat (first | refine cs ?_ | refine cb ?_ | refine ck ?_ | refine cx ?_ | refine cr ?_ | refine an ?_ | refine ae ?_ | refine ar ?_ | refine bn ?_ | refine bh ?_ | refine be rfl ?_ | refine br ?_ | refine ct rfl ?_ | refine cf rfl ?_))
  (apply aend; (repeat (first
                          | exact ResL.nil
                          | (apply ResL.tmp; rfl)
                          | (apply ResL.cell; rfl; infer_instance; rfl; (repeat (first
                                                                                   | exact sget_here
                                                                                   | (apply sget_next; (first
                                                                                                          | assumption
                                                                                                          | (apply Nq.en; assumption)
                                                                                                          | omega
                                                                                                          | (simp only [Nq] at *; omega))))); rfl)
                          | (apply ResL.cells; rfl; infer_instance; infer_instance; rfl; (repeat (first
                                                                                                    | exact sget_here
                                                                                                    | (apply sget_next; (first
                                                                                                                           | assumption
                                                                                                                           | (apply Nq.en; assumption)
                                                                                                                           | omega
                                                                                                                           | (simp only [Nq] at *; omega))))); exact Nat.le_of_ble_eq_true rfl))))
  · exact rfl
  · (first | exact no_mem | (apply StLe.mem; (repeat (first | exact StLe.nil | (apply StLe.cons; (repeat (first | exact List.mem_cons_self | apply List.mem_cons_of_mem)); first | rfl | focus (congr 1; done) | focus (simp; done) | (simp; rfl))))))

theorem newF_run {a : Int} {N : Nat} (ha : 0 ≤ a) (h : N ≤ 2048) : newF a N = runF 0 N ∧ newA a N = a := by
  have : newX a N = false := by simp [newX]; omega
  simp [newF, newA, this, runF]
set_option maxRecDepth 100000 in
set_option maxHeartbeats 4000000 in
theorem law_extentFull (a n : Int) : SCall Try.prog 9 [.int .i64 a, .int .i64 n] [] (fun x _ => x = .bool true) := by
  refine scall_of (n := 79) (ks := [0, 1, 4, 5, 6, 7, 8, 9, 11, 14, 28, 34, 65]) Try.func9 rfl rfl (Nat.le_of_ble_eq_true rfl) ?_
  (repeat (first | refine cs ?_ | refine cb ?_ | refine ck ?_ | refine cx ?_ | refine cr ?_ | refine an ?_ | refine ae ?_ | refine ar ?_ | refine bn ?_ | refine bh ?_ | refine be rfl ?_ | refine br ?_ | refine ct rfl ?_ | refine cf rfl ?_))
  first | refine sw_seq_region ?_ | refine sw_region ?_
  refine lo (lop_assign (E rfl)) rfl ?_
  apply le; (repeat (first | (apply KeepIs.take; rfl) | (apply KeepIs.skip; rfl) | exact KeepIs.nil))
  (repeat (first | refine cs ?_ | refine cb ?_ | refine ck ?_ | refine cx ?_ | refine cr ?_ | refine an ?_ | refine ae ?_ | refine ar ?_ | refine bn ?_ | refine bh ?_ | refine be rfl ?_ | refine br ?_ | refine ct rfl ?_ | refine cf rfl ?_))
  first | refine sw_seq_region ?_ | refine sw_region ?_
  (first
     | refine pu [] Try.call23 law_begun19 rfl (by repeat (first
                                                             | exact ArgsIf.nil
                                                             | refine ArgsIf.cons (by first
                                                                                        | exact Ev.when rfl (by first
                                                                                                                  | exact id
                                                                                                                  | simp)
                                                                                        | exact Ev.here rfl) (by first
                                                                                                                   | exact Bor.refl _
                                                                                                                   | exact Bor.le VLe.any
                                                                                                                   | exact Bor.le VLe.empty
                                                                                                                   | exact Bor.own (by simp) (by repeat (first
                                                                                                                                                           | exact sget_here
                                                                                                                                                           | refine sget_next (by (first
                                                                                                                                                                                     | assumption
                                                                                                                                                                                     | (apply Nq.en; assumption)
                                                                                                                                                                                     | omega
                                                                                                                                                                                     | (simp only [Nq] at *; omega))) ?_)) (by simp)
                                                                                                                   | exact Bor.le (VLe.of_eq (by simp))) ?_)) (by repeat (first
                                                                                                                                                                            | exact NoF.int
                                                                                                                                                                            | exact NoF.bool
                                                                                                                                                                            | exact NoF.nilp
                                                                                                                                                                            | exact NoF.nil
                                                                                                                                                                            | exact NoF.own
                                                                                                                                                                            | exact NoF.ptr
                                                                                                                                                                            | exact NoF.str
                                                                                                                                                                            | exact nofl_nil
                                                                                                                                                                            | apply NoF.tup
                                                                                                                                                                            | apply NoF.agg
                                                                                                                                                                            | apply nofl_cons)) ?_
     | refine pug [] rfl rfl Try.call23 (fun _ => law_begun19) rfl (by repeat (first
                                                                                 | exact ArgsIf.nil
                                                                                 | refine ArgsIf.cons (by first
                                                                                                            | exact Ev.when rfl (by first
                                                                                                                                      | exact id
                                                                                                                                      | simp)
                                                                                                            | exact Ev.here rfl) (by first
                                                                                                                                       | exact Bor.refl _
                                                                                                                                       | exact Bor.le VLe.any
                                                                                                                                       | exact Bor.le VLe.empty
                                                                                                                                       | exact Bor.own (by simp) (by repeat (first
                                                                                                                                                                               | exact sget_here
                                                                                                                                                                               | refine sget_next (by (first
                                                                                                                                                                                                         | assumption
                                                                                                                                                                                                         | (apply Nq.en; assumption)
                                                                                                                                                                                                         | omega
                                                                                                                                                                                                         | (simp only [Nq] at *; omega))) ?_)) (by simp)
                                                                                                                                       | exact Bor.le (VLe.of_eq (by simp))) ?_)) (by repeat (first
                                                                                                                                                                                                | exact NoF.int
                                                                                                                                                                                                | exact NoF.bool
                                                                                                                                                                                                | exact NoF.nilp
                                                                                                                                                                                                | exact NoF.nil
                                                                                                                                                                                                | exact NoF.own
                                                                                                                                                                                                | exact NoF.ptr
                                                                                                                                                                                                | exact NoF.str
                                                                                                                                                                                                | exact nofl_nil
                                                                                                                                                                                                | apply NoF.tup
                                                                                                                                                                                                | apply NoF.agg
                                                                                                                                                                                                | apply nofl_cons)) ?_)
  refine lo (lop_assign (E rfl)) rfl ?_
  apply le; (repeat (first | (apply KeepIs.take; rfl) | (apply KeepIs.skip; rfl) | exact KeepIs.nil))
  (repeat (first | refine cs ?_ | refine cb ?_ | refine ck ?_ | refine cx ?_ | refine cr ?_ | refine an ?_ | refine ae ?_ | refine ar ?_ | refine bn ?_ | refine bh ?_ | refine be rfl ?_ | refine br ?_ | refine ct rfl ?_ | refine cf rfl ?_))
  first | refine sw_seq_region ?_ | refine sw_region ?_
  refine lo (lop_move (E rfl)) rfl ?_
  refine lo (lop_not (E rfl)) rfl ?_
  apply le; (repeat (first | (apply KeepIs.take; rfl) | (apply KeepIs.skip; rfl) | exact KeepIs.nil))
  (repeat (first | refine cs ?_ | refine cb ?_ | refine ck ?_ | refine cx ?_ | refine cr ?_ | refine an ?_ | refine ae ?_ | refine ar ?_ | refine bn ?_ | refine bh ?_ | refine be rfl ?_ | refine br ?_ | refine ct rfl ?_ | refine cf rfl ?_))
  first | refine sw_seq_region ?_ | refine sw_region ?_
  refine lo (lop_move (E rfl)) rfl ?_
  refine lo (lop_lss (E rfl) (E rfl)) rfl ?_
  refine lo (lop_move (E rfl)) rfl ?_
  first | refine ln rfl rfl rfl rfl ?_ | refine lg rfl rfl (lop_move (E rfl)) rfl ?_
  first | refine ln rfl rfl rfl rfl ?_ | refine lg rfl rfl (lop_gtr (W rfl id) (E rfl)) rfl ?_
  first | refine lo (lop_pick_t (E rfl) (E rfl)) rfl ?_ | refine lo (lop_pick_f (E rfl) (W rfl (by simp))) rfl ?_ | refine lo (lop_pick (E rfl) (E rfl) (W rfl (by simp))) rfl ?_
  refine lo (lop_move (E rfl)) rfl ?_
  first | refine ln rfl rfl rfl rfl ?_ | refine lg rfl rfl (lop_move (E rfl)) rfl ?_
  first | refine ln rfl rfl rfl rfl ?_ | refine lg rfl rfl (lop_lss (W rfl id) (E rfl)) rfl ?_
  first | refine lo (lop_pick_t (E rfl) (E rfl)) rfl ?_ | refine lo (lop_pick_f (E rfl) (W rfl (by simp))) rfl ?_ | refine lo (lop_pick (E rfl) (E rfl) (W rfl (by simp))) rfl ?_
  refine lo (lop_move (E rfl)) rfl ?_
  first | refine ln rfl rfl rfl rfl ?_ | refine lg rfl rfl (lop_move (E rfl)) rfl ?_
  first | refine ln rfl rfl rfl rfl ?_ | refine lg rfl rfl (lop_gtr (W rfl id) (E rfl)) rfl ?_
  first | refine lo (lop_pick_t (E rfl) (E rfl)) rfl ?_ | refine lo (lop_pick_f (E rfl) (W rfl (by simp))) rfl ?_ | refine lo (lop_pick (E rfl) (E rfl) (W rfl (by simp))) rfl ?_
  apply le; (repeat (first | (apply KeepIs.take; rfl) | (apply KeepIs.skip; rfl) | exact KeepIs.nil))
  (repeat (first | refine cs ?_ | refine cb ?_ | refine ck ?_ | refine cx ?_ | refine cr ?_ | refine an ?_ | refine ae ?_ | refine ar ?_ | refine bn ?_ | refine bh ?_ | refine be rfl ?_ | refine br ?_ | refine ct rfl ?_ | refine cf rfl ?_))
  refine sw_cond rfl (fun h => ?_) (fun h => ?_)
  · (repeat (first | refine cs ?_ | refine cb ?_ | refine ck ?_ | refine cx ?_ | refine cr ?_ | refine an ?_ | refine ae ?_ | refine ar ?_ | refine bn ?_ | refine bh ?_ | refine be rfl ?_ | refine br ?_ | refine ct rfl ?_ | refine cf rfl ?_))
    first | refine sw_seq_region ?_ | refine sw_region ?_
    refine lo (lop_assign (E rfl)) rfl ?_
    apply le; (repeat (first | (apply KeepIs.take; rfl) | (apply KeepIs.skip; rfl) | exact KeepIs.nil))
    (repeat (first | refine cs ?_ | refine cb ?_ | refine ck ?_ | refine cx ?_ | refine cr ?_ | refine an ?_ | refine ae ?_ | refine ar ?_ | refine bn ?_ | refine bh ?_ | refine be rfl ?_ | refine br ?_ | refine ct rfl ?_ | refine cf rfl ?_))
    (apply aend; (repeat (first
                            | exact ResL.nil
                            | (apply ResL.tmp; rfl)
                            | (apply ResL.cell; rfl; infer_instance; rfl; (repeat (first
                                                                                     | exact sget_here
                                                                                     | (apply sget_next; (first
                                                                                                            | assumption
                                                                                                            | (apply Nq.en; assumption)
                                                                                                            | omega
                                                                                                            | (simp only [Nq] at *; omega))))); rfl)
                            | (apply ResL.cells; rfl; infer_instance; infer_instance; rfl; (repeat (first
                                                                                                      | exact sget_here
                                                                                                      | (apply sget_next; (first
                                                                                                                             | assumption
                                                                                                                             | (apply Nq.en; assumption)
                                                                                                                             | omega
                                                                                                                             | (simp only [Nq] at *; omega))))); exact Nat.le_of_ble_eq_true rfl))))
    · exact rfl
    · (first | exact no_mem | (apply StLe.mem; (repeat (first | exact StLe.nil | (apply StLe.cons; (repeat (first | exact List.mem_cons_self | apply List.mem_cons_of_mem)); first | rfl | focus (congr 1; done) | focus (simp; done) | (simp; rfl))))))
  simp at h
  obtain ⟨N, rfl⟩ := Int.eq_ofNat_of_zero_le (show 0 ≤ n by omega)
  have ha0 : 0 ≤ a := by omega
  have ha1 : a ≤ 1000000 := by omega
  have hln : ∀ i m : Nat, i + m ≤ 100000 → (runF i m).length ≤ 100000 := fun i m h => by rw [runF_len]; exact h
  (repeat (first | refine cs ?_ | refine cb ?_ | refine ck ?_ | refine cx ?_ | refine cr ?_ | refine an ?_ | refine ae ?_ | refine ar ?_ | refine bn ?_ | refine bh ?_ | refine be rfl ?_ | refine br ?_ | refine ct rfl ?_ | refine cf rfl ?_))
  first | refine sw_seq_region ?_ | refine sw_region ?_
  refine lo (lop_move (E rfl)) rfl ?_
  refine lo (lop_move (E rfl)) rfl ?_
  refine cw [] Try.call24 (extent_new a N) rfl ?_ ?_ ?_
  · (repeat (first | exact ArgsLe.nil | (apply ArgsLe.cons; rfl; first | exact VLe.refl _ | exact VLe.when rfl | exact VLe.any | exact VLe.empty | exact VLe.of_eq (by simp))))
  · (first | exact no_mem | (apply StLe.mem; (repeat (first | exact StLe.nil | (apply StLe.cons; (repeat (first | exact List.mem_cons_self | apply List.mem_cons_of_mem)); first | rfl | focus (congr 1; done) | focus (simp; done) | (simp; rfl))))))
  rintro x σ' ⟨s, q, hq, rfl, rfl⟩ -
  rw [(newF_run ha0 (show N ≤ 2048 by omega)).1, (newF_run ha0 (show N ≤ 2048 by omega)).2]
  (apply rs_sto; (first
                    | (simp (disch := (first
                                         | (simp only [List.mem_cons, List.not_mem_nil, true_or, or_true, or_false]; done)
                                         | (focus (simp only [List.mem_cons, List.not_mem_nil, or_false, not_or]; (repeat' (first
                                                                                                                              | apply And.intro
                                                                                                                              | (first
                                                                                                                                   | assumption
                                                                                                                                   | (apply Nq.en; assumption)
                                                                                                                                   | omega
                                                                                                                                   | (simp only [Nq] at *; omega)))); done))
                                         | omega)) only [↓put_σ, ↓mk_σ, AV.cells, sset, sdrop_none, sdrop_nil, sdrop_in, sdrop_out, List.nil_append, List.cons_append, List.append_nil, List.map_nil, List.map_cons, List.take_succ_cons, List.take_zero, List.drop_succ_cons, List.drop_zero, take_len', take_map_len, Nat.zero_add, Nat.add_zero, ofCell, ofConst]; rfl)
                    | rfl))
  refine lo (lop_assign (E rfl)) rfl ?_
  apply le; (repeat (first | (apply KeepIs.take; rfl) | (apply KeepIs.skip; rfl) | exact KeepIs.nil))
  (repeat (first | refine cs ?_ | refine cb ?_ | refine ck ?_ | refine cx ?_ | refine cr ?_ | refine an ?_ | refine ae ?_ | refine ar ?_ | refine bn ?_ | refine bh ?_ | refine be rfl ?_ | refine br ?_ | refine ct rfl ?_ | refine cf rfl ?_))
  first | refine sw_seq_region ?_ | refine sw_region ?_
  refine lo (lop_assign (E rfl)) rfl ?_
  apply le; (repeat (first | (apply KeepIs.take; rfl) | (apply KeepIs.skip; rfl) | exact KeepIs.nil))
  (repeat (first | refine cs ?_ | refine cb ?_ | refine ck ?_ | refine cx ?_ | refine cr ?_ | refine an ?_ | refine ae ?_ | refine ar ?_ | refine bn ?_ | refine bh ?_ | refine be rfl ?_ | refine br ?_ | refine ct rfl ?_ | refine cf rfl ?_))
  refine lp (β := Nat) (fun i => ⟨[(0, .int .i64 a), (1, .int .i64 N), (6, .ptr s 0), (7, .int .i64 i)], [(s, .box 83 [.int .i64 a, .own q 0 (runF i (N - i)).length]), (q, .arr 4 1 ((runF i (N - i)).map encB))]⟩) (fun i => i ≤ N) (fun i => N - i) 0 ?_ (Nat.zero_le _) ?_
  · (refine sgo_st ?_ ?_ <;> (repeat (first
                                        | exact FrLe.nil
                                        | (apply FrLe.cons; rfl; first
                                                                   | exact VLe.refl _
                                                                   | exact VLe.any
                                                                   | exact VLe.empty
                                                                   | exact VLe.of_eq (by simp)
                                                                   | exact VLe.of_eq (by congr 1; omega))
                                        | exact StLe.nil
                                        | (apply StLe.cons; (repeat (first
                                                                       | exact List.mem_cons_self
                                                                       | apply List.mem_cons_of_mem)); first
                                                                                                         | rfl
                                                                                                         | focus (congr 1; done)
                                                                                                         | focus (simp; done)
                                                                                                         | (simp; rfl)))))
  rintro i hi
  (repeat (first | refine cs ?_ | refine cb ?_ | refine ck ?_ | refine cx ?_ | refine cr ?_ | refine an ?_ | refine ae ?_ | refine ar ?_ | refine bn ?_ | refine bh ?_ | refine be rfl ?_ | refine br ?_ | refine ct rfl ?_ | refine cf rfl ?_))
  first | refine sw_seq_region ?_ | refine sw_region ?_
  refine lo (lop_move (E rfl)) rfl ?_
  refine lo (lop_move (E rfl)) rfl ?_
  refine lo (lop_lss (E rfl) (E rfl)) rfl ?_
  apply le; (repeat (first | (apply KeepIs.take; rfl) | (apply KeepIs.skip; rfl) | exact KeepIs.nil))
  (repeat (first | refine cs ?_ | refine cb ?_ | refine ck ?_ | refine cx ?_ | refine cr ?_ | refine an ?_ | refine ae ?_ | refine ar ?_ | refine bn ?_ | refine bh ?_ | refine be rfl ?_ | refine br ?_ | refine ct rfl ?_ | refine cf rfl ?_))
  refine sw_cond rfl (fun h2 => ?_) (fun h2 => ?_)
  · have hlt : i < N := by simp at h2; omega
    have e : N - i = 1 + (N - (i + 1)) := by omega
    have e2 : ((N - (i + 1) : Nat) : Int) = (N : Int) - i - 1 := by omega
    have tk : takV a (runF i (N - i)) 1 = .tup [.agg [.int .i64 (a + i), .int .i64 1], .bool true] := by rw [e]; exact (take_run (n := 1) (by decide)).1
    have tf : takF a (runF i (N - i)) 1 = runF (i + 1) (N - (i + 1)) := by rw [e]; exact (take_run (n := 1) (by decide)).2
    (repeat (first | refine cs ?_ | refine cb ?_ | refine ck ?_ | refine cx ?_ | refine cr ?_ | refine an ?_ | refine ae ?_ | refine ar ?_ | refine bn ?_ | refine bh ?_ | refine be rfl ?_ | refine br ?_ | refine ct rfl ?_ | refine cf rfl ?_))
    first | refine sw_seq_region ?_ | refine sw_region ?_
    refine lo (lop_move (E rfl)) rfl ?_
    refine cw [(s, .box 83 [.int .i64 a, .own q 0 (runF i (N - i)).length]), (q, .arr 4 1 ((runF i (N - i)).map encB))] Try.call25 (extent_take hq a (runF i (N - i)) ha0 ha1 (hln _ _ (by omega)) 1) rfl ?_ ?_ ?_
    · (repeat (first | exact ArgsLe.nil | (apply ArgsLe.cons; rfl; first | exact VLe.refl _ | exact VLe.when rfl | exact VLe.any | exact VLe.empty | exact VLe.of_eq (by simp))))
    · (first | exact no_mem | (apply StLe.mem; (repeat (first | exact StLe.nil | (apply StLe.cons; (repeat (first | exact List.mem_cons_self | apply List.mem_cons_of_mem)); first | rfl | focus (congr 1; done) | focus (simp; done) | (simp; rfl))))))
    rintro x σ' ⟨rfl, rfl⟩ -
    rw [tk, tf]
    (apply rs_sto; (first
                      | (simp (disch := (first
                                           | (simp only [List.mem_cons, List.not_mem_nil, true_or, or_true, or_false]; done)
                                           | (focus (simp only [List.mem_cons, List.not_mem_nil, or_false, not_or]; (repeat' (first
                                                                                                                                | apply And.intro
                                                                                                                                | (first
                                                                                                                                     | assumption
                                                                                                                                     | (apply Nq.en; assumption)
                                                                                                                                     | omega
                                                                                                                                     | (simp only [Nq] at *; omega)))); done))
                                           | omega)) only [↓put_σ, ↓mk_σ, AV.cells, sset, sdrop_none, sdrop_nil, sdrop_in, sdrop_out, List.nil_append, List.cons_append, List.append_nil, List.map_nil, List.map_cons, List.take_succ_cons, List.take_zero, List.drop_succ_cons, List.drop_zero, take_len', take_map_len, Nat.zero_add, Nat.add_zero, ofCell, ofConst]; rfl)
                      | rfl))
    refine lo (lop_move (E rfl)) rfl ?_
    refine lo (lop_extract (E rfl) rfl) rfl ?_
    refine lo (lop_extract (E rfl) rfl) rfl ?_
    apply al; rfl; (first | (simp only [Value.cells, AV.cells, List.map_cons, List.map_nil, ofConst, ofCell]; rfl) | rfl); intro r8 h8; simp only [fresh_cons, fresh_nil, and_true] at h8; (repeat (rcases h8 with ⟨_, h8⟩))
    apply stp; rfl; rfl; rfl; rfl; (repeat (first
                                              | (apply SPut.here; (repeat (first
                                                                             | exact Put.done
                                                                             | apply Put.put
                                                                             | apply Put.skip)); (repeat (first
                                                                                                            | exact Fresh.nil
                                                                                                            | (apply Fresh.cons; (first
                                                                                                                                    | assumption
                                                                                                                                    | (apply Nq.en; assumption)
                                                                                                                                    | omega
                                                                                                                                    | (simp only [Nq] at *; omega))))))
                                              | (apply SPut.next; (first
                                                                     | assumption
                                                                     | (apply Nq.en; assumption)
                                                                     | omega
                                                                     | (simp only [Nq] at *; omega)))))
    refine lo (lop_assign (E rfl)) rfl ?_
    apply le; (repeat (first | (apply KeepIs.take; rfl) | (apply KeepIs.skip; rfl) | exact KeepIs.nil))
    (repeat (first | refine cs ?_ | refine cb ?_ | refine ck ?_ | refine cx ?_ | refine cr ?_ | refine an ?_ | refine ae ?_ | refine ar ?_ | refine bn ?_ | refine bh ?_ | refine be rfl ?_ | refine br ?_ | refine ct rfl ?_ | refine cf rfl ?_))
    first | refine sw_seq_region ?_ | refine sw_region ?_
    refine lo (lop_move (E rfl)) rfl ?_
    refine lo (lop_not (E rfl)) rfl ?_
    refine lo (lop_move (E rfl)) rfl ?_
    first | refine ln rfl rfl rfl rfl ?_ | refine lg rfl rfl (lop_field_ptr (E rfl) rfl (by decide)) rfl ?_
    first | refine ln rfl rfl rfl rfl ?_ | refine lg rfl rfl (lop_load_ptr (W rfl id) rfl (by repeat (first | exact sget_here | refine sget_next (by (first | assumption | (apply Nq.en; assumption) | omega | (simp only [Nq] at *; omega))) ?_)) (fun _ => rfl)) rfl ?_
    first | refine ln rfl rfl rfl rfl ?_ | refine lg rfl rfl (lop_move (E rfl)) rfl ?_
    first | refine ln rfl rfl rfl rfl ?_ | refine lg rfl rfl (lop_move (E rfl)) rfl ?_
    first | refine ln rfl rfl rfl rfl ?_ | refine lg rfl rfl (lop_add64 (W rfl id) (W rfl id) (by omega) (by omega)) rfl ?_ | refine lg rfl rfl (lop_add64c (W rfl id) (W rfl id) (fun hc => by simp at hc; omega)) rfl ?_ | refine lg rfl rfl (lop_add (W rfl id) (W rfl id)) rfl ?_
    first | refine ln rfl rfl rfl rfl ?_ | refine lg rfl rfl (lop_neq (W rfl id) (W rfl id)) rfl ?_
    first | refine lo (lop_pick_t (E rfl) (E rfl)) rfl ?_ | refine lo (lop_pick_f (E rfl) (W rfl (by simp))) rfl ?_ | refine lo (lop_pick (E rfl) (E rfl) (W rfl (by simp))) rfl ?_
    refine lo (lop_move (E rfl)) rfl ?_
    first | refine ln rfl rfl rfl rfl ?_ | refine lg rfl rfl (lop_field_ptr (E rfl) rfl (by decide)) rfl ?_
    first | refine ln rfl rfl rfl rfl ?_ | refine lg rfl rfl (lop_load_ptr (W rfl id) rfl (by repeat (first | exact sget_here | refine sget_next (by (first | assumption | (apply Nq.en; assumption) | omega | (simp only [Nq] at *; omega))) ?_)) (fun _ => rfl)) rfl ?_
    first | refine ln rfl rfl rfl rfl ?_ | refine lg rfl rfl (lop_neq (W rfl id) (E rfl)) rfl ?_
    first | refine lo (lop_pick_t (E rfl) (E rfl)) rfl ?_ | refine lo (lop_pick_f (E rfl) (W rfl (by simp))) rfl ?_ | refine lo (lop_pick (E rfl) (E rfl) (W rfl (by simp))) rfl ?_
    refine lo (lop_move (E rfl)) rfl ?_
    first | refine ln rfl rfl rfl rfl ?_ | refine lg rfl rfl (lop_move (E rfl)) rfl ?_
    simp only [bne_self_eq_false, Bool.false_eq_true, if_false]
    refine cwy [(s, .box 83 [.int .i64 a, .own q 0 (runF (i + 1) (N - (i + 1))).length]), (q, .arr 4 1 ((runF (i + 1) (N - (i + 1))).map encB))] rfl rfl Try.call30 (extent_free hq a (runF (i + 1) (N - (i + 1))) ha0 ha1 (hln _ _ (by omega))) rfl ?_ ?_ ?_
    · (repeat (first | exact ArgsLe.nil | (apply ArgsLe.cons; rfl; first | exact VLe.refl _ | exact VLe.when rfl | exact VLe.any | exact VLe.empty | exact VLe.of_eq (by simp))))
    · (first | exact no_mem | (apply StLe.mem; (repeat (first | exact StLe.nil | (apply StLe.cons; (repeat (first | exact List.mem_cons_self | apply List.mem_cons_of_mem)); first | rfl | focus (congr 1; done) | focus (simp; done) | (simp; rfl))))))
    rintro x σ' ⟨rfl, rfl⟩ -
    rw [free_run, e2]
    (apply rs_sto; (first
                      | (simp (disch := (first
                                           | (simp only [List.mem_cons, List.not_mem_nil, true_or, or_true, or_false]; done)
                                           | (focus (simp only [List.mem_cons, List.not_mem_nil, or_false, not_or]; (repeat' (first
                                                                                                                                | apply And.intro
                                                                                                                                | (first
                                                                                                                                     | assumption
                                                                                                                                     | (apply Nq.en; assumption)
                                                                                                                                     | omega
                                                                                                                                     | (simp only [Nq] at *; omega)))); done))
                                           | omega)) only [↓put_σ, ↓mk_σ, AV.cells, sset, sdrop_none, sdrop_nil, sdrop_in, sdrop_out, List.nil_append, List.cons_append, List.append_nil, List.map_nil, List.map_cons, List.take_succ_cons, List.take_zero, List.drop_succ_cons, List.drop_zero, take_len', take_map_len, Nat.zero_add, Nat.add_zero, ofCell, ofConst]; rfl)
                      | rfl))
    first | refine ln rfl rfl rfl rfl ?_ | refine lg rfl rfl (lop_move (E rfl)) rfl ?_
    first | refine ln rfl rfl rfl rfl ?_ | refine lg rfl rfl (lop_move (E rfl)) rfl ?_
    first | refine ln rfl rfl rfl rfl ?_ | refine lg rfl rfl (lop_sub64 (W rfl id) (W rfl id) (by omega) (by omega)) rfl ?_ | refine lg rfl rfl (lop_sub64c (W rfl id) (W rfl id) (fun hc => by simp at hc; omega)) rfl ?_ | refine lg rfl rfl (lop_sub (W rfl id) (W rfl id)) rfl ?_
    first | refine ln rfl rfl rfl rfl ?_ | refine lg rfl rfl (lop_sub64 (W rfl id) (E rfl) (by omega) (by omega)) rfl ?_ | refine lg rfl rfl (lop_sub64c (W rfl id) (E rfl) (fun hc => by simp at hc; omega)) rfl ?_ | refine lg rfl rfl (lop_sub (W rfl id) (E rfl)) rfl ?_
    first | refine ln rfl rfl rfl rfl ?_ | refine lg rfl rfl (lop_neq (by first | exact W rfl id | exact E rfl) (W rfl id)) rfl ?_
    first | refine lo (lop_pick_t (E rfl) (E rfl)) rfl ?_ | refine lo (lop_pick_f (E rfl) (W rfl (by simp))) rfl ?_ | refine lo (lop_pick (E rfl) (E rfl) (W rfl (by simp))) rfl ?_
    apply le; (repeat (first | (apply KeepIs.take; rfl) | (apply KeepIs.skip; rfl) | exact KeepIs.nil))
    (repeat (first | refine cs ?_ | refine cb ?_ | refine ck ?_ | refine cx ?_ | refine cr ?_ | refine an ?_ | refine ae ?_ | refine ar ?_ | refine bn ?_ | refine bh ?_ | refine be rfl ?_ | refine br ?_ | refine ct rfl ?_ | refine cf rfl ?_))
    refine sw_cond rfl (fun h3 => ?_) (fun _ => ?_)
    · simp at h3
    (repeat (first | refine cs ?_ | refine cb ?_ | refine ck ?_ | refine cx ?_ | refine cr ?_ | refine an ?_ | refine ae ?_ | refine ar ?_ | refine bn ?_ | refine bh ?_ | refine be rfl ?_ | refine br ?_ | refine ct rfl ?_ | refine cf rfl ?_))
    first | refine sw_seq_region ?_ | refine sw_region ?_
    refine lo (lop_move (E rfl)) rfl ?_
    first | refine lo (lop_add64 (E rfl) (E rfl) (by omega) (by omega)) rfl ?_ | refine lo (lop_add (E rfl) (E rfl)) rfl ?_
    refine lo (lop_assign (E rfl)) rfl ?_
    apply le; (repeat (first | (apply KeepIs.take; rfl) | (apply KeepIs.skip; rfl) | exact KeepIs.nil))
    (repeat (first | refine cs ?_ | refine cb ?_ | refine ck ?_ | refine cx ?_ | refine cr ?_ | refine an ?_ | refine ae ?_ | refine ar ?_ | refine bn ?_ | refine bh ?_ | refine be rfl ?_ | refine br ?_ | refine ct rfl ?_ | refine cf rfl ?_))
    refine ⟨i + 1, hlt, by show N - (i + 1) < N - i; omega, ?_⟩
    (refine sgo_st ?_ ?_ <;> (repeat (first
                                        | exact FrLe.nil
                                        | (apply FrLe.cons; rfl; first
                                                                   | exact VLe.refl _
                                                                   | exact VLe.any
                                                                   | exact VLe.empty
                                                                   | exact VLe.of_eq (by simp)
                                                                   | exact VLe.of_eq (by congr 1; omega))
                                        | exact StLe.nil
                                        | (apply StLe.cons; (repeat (first
                                                                       | exact List.mem_cons_self
                                                                       | apply List.mem_cons_of_mem)); first
                                                                                                         | rfl
                                                                                                         | focus (congr 1; done)
                                                                                                         | focus (simp; done)
                                                                                                         | (simp; rfl)))))
  obtain rfl : i = N := by simp at h2; omega
  rw [Nat.sub_self]
  have tk : takV a (runF i 0) 1 = .tup [.agg [.int .i64 0, .int .i64 0], .bool false] := (take_run_no (n := 1) (by decide)).1
  have tf : takF a (runF i 0) 1 = runF i 0 := (take_run_no (n := 1) (by decide)).2
  (repeat (first | refine cs ?_ | refine cb ?_ | refine ck ?_ | refine cx ?_ | refine cr ?_ | refine an ?_ | refine ae ?_ | refine ar ?_ | refine bn ?_ | refine bh ?_ | refine be rfl ?_ | refine br ?_ | refine ct rfl ?_ | refine cf rfl ?_))
  first | refine sw_seq_region ?_ | refine sw_region ?_
  refine lo (lop_move (E rfl)) rfl ?_
  refine cw [(s, .box 83 [.int .i64 a, .own q 0 (runF i 0).length]), (q, .arr 4 1 ((runF i 0).map encB))] Try.call25 (extent_take hq a (runF i 0) ha0 ha1 (hln _ _ (by omega)) 1) rfl ?_ ?_ ?_
  · (repeat (first | exact ArgsLe.nil | (apply ArgsLe.cons; rfl; first | exact VLe.refl _ | exact VLe.when rfl | exact VLe.any | exact VLe.empty | exact VLe.of_eq (by simp))))
  · (first | exact no_mem | (apply StLe.mem; (repeat (first | exact StLe.nil | (apply StLe.cons; (repeat (first | exact List.mem_cons_self | apply List.mem_cons_of_mem)); first | rfl | focus (congr 1; done) | focus (simp; done) | (simp; rfl))))))
  rintro x σ' ⟨rfl, rfl⟩ -
  rw [tk, tf]
  (apply rs_sto; (first
                    | (simp (disch := (first
                                         | (simp only [List.mem_cons, List.not_mem_nil, true_or, or_true, or_false]; done)
                                         | (focus (simp only [List.mem_cons, List.not_mem_nil, or_false, not_or]; (repeat' (first
                                                                                                                              | apply And.intro
                                                                                                                              | (first
                                                                                                                                   | assumption
                                                                                                                                   | (apply Nq.en; assumption)
                                                                                                                                   | omega
                                                                                                                                   | (simp only [Nq] at *; omega)))); done))
                                         | omega)) only [↓put_σ, ↓mk_σ, AV.cells, sset, sdrop_none, sdrop_nil, sdrop_in, sdrop_out, List.nil_append, List.cons_append, List.append_nil, List.map_nil, List.map_cons, List.take_succ_cons, List.take_zero, List.drop_succ_cons, List.drop_zero, take_len', take_map_len, Nat.zero_add, Nat.add_zero, ofCell, ofConst]; rfl)
                    | rfl))
  refine lo (lop_move (E rfl)) rfl ?_
  refine lo (lop_extract (E rfl) rfl) rfl ?_
  refine lo (lop_extract (E rfl) rfl) rfl ?_
  apply al; rfl; (first | (simp only [Value.cells, AV.cells, List.map_cons, List.map_nil, ofConst, ofCell]; rfl) | rfl); intro r10 h10; simp only [fresh_cons, fresh_nil, and_true] at h10; (repeat (rcases h10 with ⟨_, h10⟩))
  apply stp; rfl; rfl; rfl; rfl; (repeat (first
                                            | (apply SPut.here; (repeat (first
                                                                           | exact Put.done
                                                                           | apply Put.put
                                                                           | apply Put.skip)); (repeat (first
                                                                                                          | exact Fresh.nil
                                                                                                          | (apply Fresh.cons; (first
                                                                                                                                  | assumption
                                                                                                                                  | (apply Nq.en; assumption)
                                                                                                                                  | omega
                                                                                                                                  | (simp only [Nq] at *; omega))))))
                                            | (apply SPut.next; (first
                                                                   | assumption
                                                                   | (apply Nq.en; assumption)
                                                                   | omega
                                                                   | (simp only [Nq] at *; omega)))))
  refine lo (lop_assign (E rfl)) rfl ?_
  apply le; (repeat (first | (apply KeepIs.take; rfl) | (apply KeepIs.skip; rfl) | exact KeepIs.nil))
  (repeat (first | refine cs ?_ | refine cb ?_ | refine ck ?_ | refine cx ?_ | refine cr ?_ | refine an ?_ | refine ae ?_ | refine ar ?_ | refine bn ?_ | refine bh ?_ | refine be rfl ?_ | refine br ?_ | refine ct rfl ?_ | refine cf rfl ?_))
  first | refine sw_seq_region ?_ | refine sw_region ?_
  refine lo (lop_move (E rfl)) rfl ?_
  refine lo (lop_not (E rfl)) rfl ?_
  refine lo (lop_move (E rfl)) rfl ?_
  first | refine ln rfl rfl rfl rfl ?_ | refine lg rfl rfl (lop_move (E rfl)) rfl ?_
  refine cwy [(s, .box 83 [.int .i64 a, .own q 0 (runF i 0).length]), (q, .arr 4 1 ((runF i 0).map encB))] rfl rfl Try.call29 (extent_spans hq a (runF i 0) ha0 ha1 (hln _ _ (by omega))) rfl ?_ ?_ ?_
  · (repeat (first | exact ArgsLe.nil | (apply ArgsLe.cons; rfl; first | exact VLe.refl _ | exact VLe.when rfl | exact VLe.any | exact VLe.empty | exact VLe.of_eq (by simp))))
  · (first | exact no_mem | (apply StLe.mem; (repeat (first | exact StLe.nil | (apply StLe.cons; (repeat (first | exact List.mem_cons_self | apply List.mem_cons_of_mem)); first | rfl | focus (congr 1; done) | focus (simp; done) | (simp; rfl))))))
  rintro x σ' ⟨l, ⟨hl1, hl2⟩, rfl, rfl⟩ hl
  replace hl := (hl _ List.mem_cons_self).resolve_left (by simp only [List.mem_cons, List.not_mem_nil, or_false, exists_eq_or_imp, exists_eq_left, not_or]; (repeat' (first
                                                                                                                                                                        | apply And.intro
                                                                                                                                                                        | (first
                                                                                                                                                                             | assumption
                                                                                                                                                                             | (apply Nq.en; assumption)
                                                                                                                                                                             | omega
                                                                                                                                                                             | (simp only [Nq] at *; omega)))); done); simp only [fresh_cons, fresh_nil, and_true] at hl; (repeat (rcases hl with ⟨_, hl⟩))
  rw [spans_run0]
  (apply rs_sto; (first
                    | (simp (disch := (first
                                         | (simp only [List.mem_cons, List.not_mem_nil, true_or, or_true, or_false]; done)
                                         | (focus (simp only [List.mem_cons, List.not_mem_nil, or_false, not_or]; (repeat' (first
                                                                                                                              | apply And.intro
                                                                                                                              | (first
                                                                                                                                   | assumption
                                                                                                                                   | (apply Nq.en; assumption)
                                                                                                                                   | omega
                                                                                                                                   | (simp only [Nq] at *; omega)))); done))
                                         | omega)) only [↓put_σ, ↓mk_σ, AV.cells, sset, sdrop_none, sdrop_nil, sdrop_in, sdrop_out, List.nil_append, List.cons_append, List.append_nil, List.map_nil, List.map_cons, List.take_succ_cons, List.take_zero, List.drop_succ_cons, List.drop_zero, take_len', take_map_len, Nat.zero_add, Nat.add_zero, ofCell, ofConst]; rfl)
                    | rfl))
  first | refine ln rfl rfl rfl rfl ?_ | refine lg rfl rfl (lop_len_map (by first | exact W rfl id | exact E rfl)) rfl ?_ | refine lg rfl rfl (lop_len_ro (by first | exact W rfl id | exact E rfl)) rfl ?_ | refine lg rfl rfl (lop_len_own (by first | exact W rfl id | exact E rfl)) rfl ?_
  first | refine ln rfl rfl rfl rfl ?_ | refine lg rfl rfl (lop_eql (W rfl id) (E rfl)) rfl ?_
  first | refine lo (lop_pick_t (E rfl) (W rfl (by simp))) rfl ?_ | refine lo (lop_pick_f (E rfl) (E rfl)) rfl ?_ | refine lo (lop_pick (E rfl) (W rfl (by simp)) (E rfl)) rfl ?_
  refine lo (lop_assign (E rfl)) rfl ?_
  apply le; (repeat (first | (apply KeepIs.take; rfl) | (apply KeepIs.skip; rfl) | exact KeepIs.nil))
  (repeat (first | refine cs ?_ | refine cb ?_ | refine ck ?_ | refine cx ?_ | refine cr ?_ | refine an ?_ | refine ae ?_ | refine ar ?_ | refine bn ?_ | refine bh ?_ | refine be rfl ?_ | refine br ?_ | refine ct rfl ?_ | refine cf rfl ?_))
  (apply aend; (repeat (first
                          | exact ResL.nil
                          | (apply ResL.tmp; rfl)
                          | (apply ResL.cell; rfl; infer_instance; rfl; (repeat (first
                                                                                   | exact sget_here
                                                                                   | (apply sget_next; (first
                                                                                                          | assumption
                                                                                                          | (apply Nq.en; assumption)
                                                                                                          | omega
                                                                                                          | (simp only [Nq] at *; omega))))); rfl)
                          | (apply ResL.cells; rfl; infer_instance; infer_instance; rfl; (repeat (first
                                                                                                    | exact sget_here
                                                                                                    | (apply sget_next; (first
                                                                                                                           | assumption
                                                                                                                           | (apply Nq.en; assumption)
                                                                                                                           | omega
                                                                                                                           | (simp only [Nq] at *; omega))))); exact Nat.le_of_ble_eq_true rfl))))
  · exact rfl
  · (first | exact no_mem | (apply StLe.mem; (repeat (first | exact StLe.nil | (apply StLe.cons; (repeat (first | exact List.mem_cons_self | apply List.mem_cons_of_mem)); first | rfl | focus (congr 1; done) | focus (simp; done) | (simp; rfl))))))
end Go.Proofs.Ytpdgnenffiphcaa
