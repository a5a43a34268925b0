/-
  SpaceNone, walked.
-/
import Derived.Test.YtpdgnenffiphcaaSpaceE
namespace Go.Proofs.Ytpdgnenffiphcaa
open Go.RowKit Go.ChangeShapes Go.WideShapes Go.ChangeAt Go.Deep
set_option linter.unusedSimpArgs false
set_option linter.unusedVariables false

set_option maxRecDepth 100000 in
theorem law_spaceNone : SCall Try.prog 4 [] [] (fun x _ => x = .bool true) := by
  refine scall_of (n := 48) (ks := [0, 1, 3, 5]) Try.func4 rfl rfl (Nat.le_of_ble_eq_true rfl) ?_
  (repeat (first | refine cs ?_ | refine cb ?_ | refine ck ?_ | refine cx ?_ | refine cr ?_ | refine an ?_ | refine ae ?_ | refine ar ?_ | refine bn ?_ | refine bh ?_ | refine be rfl ?_ | refine br ?_ | refine ct rfl ?_ | refine cf rfl ?_))
  first | refine sw_seq_region ?_ | refine sw_region ?_
  refine lo (lop_assign (E rfl)) rfl ?_
  apply le; (repeat (first | (apply KeepIs.take; rfl) | (apply KeepIs.skip; rfl) | exact KeepIs.nil))
  (repeat (first | refine cs ?_ | refine cb ?_ | refine ck ?_ | refine cx ?_ | refine cr ?_ | refine an ?_ | refine ae ?_ | refine ar ?_ | refine bn ?_ | refine bh ?_ | refine be rfl ?_ | refine br ?_ | refine ct rfl ?_ | refine cf rfl ?_))
  first | refine sw_seq_region ?_ | refine sw_region ?_
  refine lo (lop_assign (E rfl)) rfl ?_
  apply le; (repeat (first | (apply KeepIs.take; rfl) | (apply KeepIs.skip; rfl) | exact KeepIs.nil))
  (repeat (first | refine cs ?_ | refine cb ?_ | refine ck ?_ | refine cx ?_ | refine cr ?_ | refine an ?_ | refine ae ?_ | refine ar ?_ | refine bn ?_ | refine bh ?_ | refine be rfl ?_ | refine br ?_ | refine ct rfl ?_ | refine cf rfl ?_))
  first | refine sw_seq_region ?_ | refine sw_region ?_
  refine lo (lop_move (E rfl)) rfl ?_
  (first
     | refine pu [] Try.call21 (nil_elem 0) rfl (by repeat (first
                                                              | exact ArgsIf.nil
                                                              | refine ArgsIf.cons (by first
                                                                                         | exact Ev.when rfl (by first
                                                                                                                   | exact id
                                                                                                                   | simp)
                                                                                         | exact Ev.here rfl) (by first
                                                                                                                    | exact Bor.refl _
                                                                                                                    | exact Bor.le VLe.any
                                                                                                                    | exact Bor.le VLe.empty
                                                                                                                    | exact Bor.own (by simp) (by repeat (first
                                                                                                                                                            | exact sget_here
                                                                                                                                                            | refine sget_next (by omega) ?_)) (by simp)
                                                                                                                    | exact Bor.le (VLe.of_eq (by simp))) ?_)) (by repeat (first
                                                                                                                                                                             | exact NoF.int
                                                                                                                                                                             | exact NoF.bool
                                                                                                                                                                             | exact NoF.nilp
                                                                                                                                                                             | exact NoF.nil
                                                                                                                                                                             | exact NoF.own
                                                                                                                                                                             | exact NoF.ptr
                                                                                                                                                                             | exact NoF.str
                                                                                                                                                                             | exact nofl_nil
                                                                                                                                                                             | apply NoF.tup
                                                                                                                                                                             | apply NoF.agg
                                                                                                                                                                             | apply nofl_cons)) ?_
     | refine pug [] rfl rfl Try.call21 (fun _ => (nil_elem 0)) rfl (by repeat (first
                                                                                  | exact ArgsIf.nil
                                                                                  | refine ArgsIf.cons (by first
                                                                                                             | exact Ev.when rfl (by first
                                                                                                                                       | exact id
                                                                                                                                       | simp)
                                                                                                             | exact Ev.here rfl) (by first
                                                                                                                                        | exact Bor.refl _
                                                                                                                                        | exact Bor.le VLe.any
                                                                                                                                        | exact Bor.le VLe.empty
                                                                                                                                        | exact Bor.own (by simp) (by repeat (first
                                                                                                                                                                                | exact sget_here
                                                                                                                                                                                | refine sget_next (by omega) ?_)) (by simp)
                                                                                                                                        | exact Bor.le (VLe.of_eq (by simp))) ?_)) (by repeat (first
                                                                                                                                                                                                 | exact NoF.int
                                                                                                                                                                                                 | exact NoF.bool
                                                                                                                                                                                                 | exact NoF.nilp
                                                                                                                                                                                                 | exact NoF.nil
                                                                                                                                                                                                 | exact NoF.own
                                                                                                                                                                                                 | exact NoF.ptr
                                                                                                                                                                                                 | exact NoF.str
                                                                                                                                                                                                 | exact nofl_nil
                                                                                                                                                                                                 | apply NoF.tup
                                                                                                                                                                                                 | apply NoF.agg
                                                                                                                                                                                                 | apply nofl_cons)) ?_)
  refine lo (lop_move (E rfl)) rfl ?_
  refine lo (lop_extract (E rfl) rfl) rfl ?_
  refine lo (lop_extract (E rfl) rfl) rfl ?_
  refine lo (lop_assign (E rfl)) rfl ?_
  refine lo (lop_assign (E rfl)) rfl ?_
  apply le; (repeat (first | (apply KeepIs.take; rfl) | (apply KeepIs.skip; rfl) | exact KeepIs.nil))
  (repeat (first | refine cs ?_ | refine cb ?_ | refine ck ?_ | refine cx ?_ | refine cr ?_ | refine an ?_ | refine ae ?_ | refine ar ?_ | refine bn ?_ | refine bh ?_ | refine be rfl ?_ | refine br ?_ | refine ct rfl ?_ | refine cf rfl ?_))
  first | refine sw_seq_region ?_ | refine sw_region ?_
  refine lo (lop_move (E rfl)) rfl ?_
  (first
     | refine pu [] Try.call20 (nil_global 0) rfl (by repeat (first
                                                                | exact ArgsIf.nil
                                                                | refine ArgsIf.cons (by first
                                                                                           | exact Ev.when rfl (by first
                                                                                                                     | exact id
                                                                                                                     | simp)
                                                                                           | exact Ev.here rfl) (by first
                                                                                                                      | exact Bor.refl _
                                                                                                                      | exact Bor.le VLe.any
                                                                                                                      | exact Bor.le VLe.empty
                                                                                                                      | exact Bor.own (by simp) (by repeat (first
                                                                                                                                                              | exact sget_here
                                                                                                                                                              | refine sget_next (by omega) ?_)) (by simp)
                                                                                                                      | exact Bor.le (VLe.of_eq (by simp))) ?_)) (by repeat (first
                                                                                                                                                                               | exact NoF.int
                                                                                                                                                                               | exact NoF.bool
                                                                                                                                                                               | exact NoF.nilp
                                                                                                                                                                               | exact NoF.nil
                                                                                                                                                                               | exact NoF.own
                                                                                                                                                                               | exact NoF.ptr
                                                                                                                                                                               | exact NoF.str
                                                                                                                                                                               | exact nofl_nil
                                                                                                                                                                               | apply NoF.tup
                                                                                                                                                                               | apply NoF.agg
                                                                                                                                                                               | apply nofl_cons)) ?_
     | refine pug [] rfl rfl Try.call20 (fun _ => (nil_global 0)) rfl (by repeat (first
                                                                                    | exact ArgsIf.nil
                                                                                    | refine ArgsIf.cons (by first
                                                                                                               | exact Ev.when rfl (by first
                                                                                                                                         | exact id
                                                                                                                                         | simp)
                                                                                                               | exact Ev.here rfl) (by first
                                                                                                                                          | exact Bor.refl _
                                                                                                                                          | exact Bor.le VLe.any
                                                                                                                                          | exact Bor.le VLe.empty
                                                                                                                                          | exact Bor.own (by simp) (by repeat (first
                                                                                                                                                                                  | exact sget_here
                                                                                                                                                                                  | refine sget_next (by omega) ?_)) (by simp)
                                                                                                                                          | exact Bor.le (VLe.of_eq (by simp))) ?_)) (by repeat (first
                                                                                                                                                                                                   | exact NoF.int
                                                                                                                                                                                                   | exact NoF.bool
                                                                                                                                                                                                   | exact NoF.nilp
                                                                                                                                                                                                   | exact NoF.nil
                                                                                                                                                                                                   | exact NoF.own
                                                                                                                                                                                                   | exact NoF.ptr
                                                                                                                                                                                                   | exact NoF.str
                                                                                                                                                                                                   | exact nofl_nil
                                                                                                                                                                                                   | apply NoF.tup
                                                                                                                                                                                                   | apply NoF.agg
                                                                                                                                                                                                   | apply nofl_cons)) ?_)
  refine lo (lop_move (E rfl)) rfl ?_
  refine lo (lop_extract (E rfl) rfl) rfl ?_
  refine lo (lop_extract (E rfl) rfl) rfl ?_
  apply al; rfl; (first | (simp only [Value.cells, AV.cells, List.map_cons, List.map_nil, ofConst, ofCell]; rfl) | rfl); intro r4 h4; simp only [fresh_cons, fresh_nil, and_true] at h4
  apply stp; rfl; rfl; rfl; rfl; (repeat (first | (apply SPut.here; (repeat (first | exact Put.done | apply Put.put | apply Put.skip)); (repeat (first | exact Fresh.nil | (apply Fresh.cons; omega)))) | (apply SPut.next; omega)))
  refine lo (lop_assign (E rfl)) rfl ?_
  apply le; (repeat (first | (apply KeepIs.take; rfl) | (apply KeepIs.skip; rfl) | exact KeepIs.nil))
  (repeat (first | refine cs ?_ | refine cb ?_ | refine ck ?_ | refine cx ?_ | refine cr ?_ | refine an ?_ | refine ae ?_ | refine ar ?_ | refine bn ?_ | refine bh ?_ | refine be rfl ?_ | refine br ?_ | refine ct rfl ?_ | refine cf rfl ?_))
  first | refine sw_seq_region ?_ | refine sw_region ?_
  (first
     | refine pu [] Try.call12 law_begun11 rfl (by repeat (first
                                                             | exact ArgsIf.nil
                                                             | refine ArgsIf.cons (by first
                                                                                        | exact Ev.when rfl (by first
                                                                                                                  | exact id
                                                                                                                  | simp)
                                                                                        | exact Ev.here rfl) (by first
                                                                                                                   | exact Bor.refl _
                                                                                                                   | exact Bor.le VLe.any
                                                                                                                   | exact Bor.le VLe.empty
                                                                                                                   | exact Bor.own (by simp) (by repeat (first
                                                                                                                                                           | exact sget_here
                                                                                                                                                           | refine sget_next (by omega) ?_)) (by simp)
                                                                                                                   | exact Bor.le (VLe.of_eq (by simp))) ?_)) (by repeat (first
                                                                                                                                                                            | exact NoF.int
                                                                                                                                                                            | exact NoF.bool
                                                                                                                                                                            | exact NoF.nilp
                                                                                                                                                                            | exact NoF.nil
                                                                                                                                                                            | exact NoF.own
                                                                                                                                                                            | exact NoF.ptr
                                                                                                                                                                            | exact NoF.str
                                                                                                                                                                            | exact nofl_nil
                                                                                                                                                                            | apply NoF.tup
                                                                                                                                                                            | apply NoF.agg
                                                                                                                                                                            | apply nofl_cons)) ?_
     | refine pug [] rfl rfl Try.call12 (fun _ => law_begun11) rfl (by repeat (first
                                                                                 | exact ArgsIf.nil
                                                                                 | refine ArgsIf.cons (by first
                                                                                                            | exact Ev.when rfl (by first
                                                                                                                                      | exact id
                                                                                                                                      | simp)
                                                                                                            | exact Ev.here rfl) (by first
                                                                                                                                       | exact Bor.refl _
                                                                                                                                       | exact Bor.le VLe.any
                                                                                                                                       | exact Bor.le VLe.empty
                                                                                                                                       | exact Bor.own (by simp) (by repeat (first
                                                                                                                                                                               | exact sget_here
                                                                                                                                                                               | refine sget_next (by omega) ?_)) (by simp)
                                                                                                                                       | exact Bor.le (VLe.of_eq (by simp))) ?_)) (by repeat (first
                                                                                                                                                                                                | exact NoF.int
                                                                                                                                                                                                | exact NoF.bool
                                                                                                                                                                                                | exact NoF.nilp
                                                                                                                                                                                                | exact NoF.nil
                                                                                                                                                                                                | exact NoF.own
                                                                                                                                                                                                | exact NoF.ptr
                                                                                                                                                                                                | exact NoF.str
                                                                                                                                                                                                | exact nofl_nil
                                                                                                                                                                                                | apply NoF.tup
                                                                                                                                                                                                | apply NoF.agg
                                                                                                                                                                                                | apply nofl_cons)) ?_)
  refine lo (lop_move (E rfl)) rfl ?_
  first | refine ln rfl rfl rfl rfl ?_ | refine lg rfl rfl (lop_move (E rfl)) rfl ?_
  first | refine ln rfl rfl rfl rfl ?_ | refine lg rfl rfl (lop_not (W rfl id)) rfl ?_
  first | refine lo (lop_pick_t (E rfl) (W rfl (by simp))) rfl ?_ | refine lo (lop_pick_f (E rfl) (E rfl)) rfl ?_ | refine lo (lop_pick (E rfl) (W rfl (by simp)) (E rfl)) rfl ?_
  refine lo (lop_move (E rfl)) rfl ?_
  first | refine ln rfl rfl rfl rfl ?_ | refine lg rfl rfl (lop_move (E rfl)) rfl ?_
  first | refine ln rfl rfl rfl rfl ?_ | refine lg rfl rfl (lop_not (W rfl id)) rfl ?_
  first | refine lo (lop_pick_t (E rfl) (W rfl (by simp))) rfl ?_ | refine lo (lop_pick_f (E rfl) (E rfl)) rfl ?_ | refine lo (lop_pick (E rfl) (W rfl (by simp)) (E rfl)) rfl ?_
  refine lo (lop_move (E rfl)) rfl ?_
  first | refine ln rfl rfl rfl rfl ?_ | refine lg rfl rfl (lop_move (E rfl)) rfl ?_
  (first
     | refine pu [] Try.call15 (nil_setElems 0 (.ro 0 [] .nil)) rfl (by repeat (first
                                                                                  | exact ArgsIf.nil
                                                                                  | refine ArgsIf.cons (by first
                                                                                                             | exact Ev.when rfl (by first
                                                                                                                                       | exact id
                                                                                                                                       | simp)
                                                                                                             | exact Ev.here rfl) (by first
                                                                                                                                        | exact Bor.refl _
                                                                                                                                        | exact Bor.le VLe.any
                                                                                                                                        | exact Bor.le VLe.empty
                                                                                                                                        | exact Bor.own (by simp) (by repeat (first
                                                                                                                                                                                | exact sget_here
                                                                                                                                                                                | refine sget_next (by omega) ?_)) (by simp)
                                                                                                                                        | exact Bor.le (VLe.of_eq (by simp))) ?_)) (by repeat (first
                                                                                                                                                                                                 | exact NoF.int
                                                                                                                                                                                                 | exact NoF.bool
                                                                                                                                                                                                 | exact NoF.nilp
                                                                                                                                                                                                 | exact NoF.nil
                                                                                                                                                                                                 | exact NoF.own
                                                                                                                                                                                                 | exact NoF.ptr
                                                                                                                                                                                                 | exact NoF.str
                                                                                                                                                                                                 | exact nofl_nil
                                                                                                                                                                                                 | apply NoF.tup
                                                                                                                                                                                                 | apply NoF.agg
                                                                                                                                                                                                 | apply nofl_cons)) ?_
     | refine pug [] rfl rfl Try.call15 (fun _ => (nil_setElems 0 (.ro 0 [] .nil))) rfl (by repeat (first
                                                                                                      | exact ArgsIf.nil
                                                                                                      | refine ArgsIf.cons (by first
                                                                                                                                 | exact Ev.when rfl (by first
                                                                                                                                                           | exact id
                                                                                                                                                           | simp)
                                                                                                                                 | exact Ev.here rfl) (by first
                                                                                                                                                            | exact Bor.refl _
                                                                                                                                                            | exact Bor.le VLe.any
                                                                                                                                                            | exact Bor.le VLe.empty
                                                                                                                                                            | exact Bor.own (by simp) (by repeat (first
                                                                                                                                                                                                    | exact sget_here
                                                                                                                                                                                                    | refine sget_next (by omega) ?_)) (by simp)
                                                                                                                                                            | exact Bor.le (VLe.of_eq (by simp))) ?_)) (by repeat (first
                                                                                                                                                                                                                     | exact NoF.int
                                                                                                                                                                                                                     | exact NoF.bool
                                                                                                                                                                                                                     | exact NoF.nilp
                                                                                                                                                                                                                     | exact NoF.nil
                                                                                                                                                                                                                     | exact NoF.own
                                                                                                                                                                                                                     | exact NoF.ptr
                                                                                                                                                                                                                     | exact NoF.str
                                                                                                                                                                                                                     | exact nofl_nil
                                                                                                                                                                                                                     | apply NoF.tup
                                                                                                                                                                                                                     | apply NoF.agg
                                                                                                                                                                                                                     | apply nofl_cons)) ?_)
  first | refine ln rfl rfl rfl rfl ?_ | refine lg rfl rfl (lop_not (by first | exact W rfl id | exact E rfl)) rfl ?_
  first | refine lo (lop_pick_t (E rfl) (W rfl (by simp))) rfl ?_ | refine lo (lop_pick_f (E rfl) (E rfl)) rfl ?_ | refine lo (lop_pick (E rfl) (W rfl (by simp)) (E rfl)) rfl ?_
  refine lo (lop_move (E rfl)) rfl ?_
  first | refine ln rfl rfl rfl rfl ?_ | refine lg rfl rfl (lop_move (E rfl)) rfl ?_
  first
    | refine ln rfl rfl rfl rfl ?_
    | refine lg rfl rfl (lop_str (by repeat (first
                                               | exact PEvs.nil
                                               | (apply PEvs.cons; first
                                                                     | exact W rfl id
                                                                     | exact E rfl))) (by (first
                                                                                             | (simp only [Value.cells, AV.cells, List.map_cons, List.map_nil, ofConst, ofCell]; rfl)
                                                                                             | rfl)) (by repeat (first
                                                                                                                   | exact Fill.nil
                                                                                                                   | (apply Fill.cons; rfl; rfl; rfl; (repeat (first
                                                                                                                                                                 | exact Put.done
                                                                                                                                                                 | apply Put.put
                                                                                                                                                                 | apply Put.skip)))))) rfl ?_
  (first
     | refine pu [] Try.call16 (nil_setGlobal 0 1 0) rfl (by repeat (first
                                                                       | exact ArgsIf.nil
                                                                       | refine ArgsIf.cons (by first
                                                                                                  | exact Ev.when rfl (by first
                                                                                                                            | exact id
                                                                                                                            | simp)
                                                                                                  | exact Ev.here rfl) (by first
                                                                                                                             | exact Bor.refl _
                                                                                                                             | exact Bor.le VLe.any
                                                                                                                             | exact Bor.le VLe.empty
                                                                                                                             | exact Bor.own (by simp) (by repeat (first
                                                                                                                                                                     | exact sget_here
                                                                                                                                                                     | refine sget_next (by omega) ?_)) (by simp)
                                                                                                                             | exact Bor.le (VLe.of_eq (by simp))) ?_)) (by repeat (first
                                                                                                                                                                                      | exact NoF.int
                                                                                                                                                                                      | exact NoF.bool
                                                                                                                                                                                      | exact NoF.nilp
                                                                                                                                                                                      | exact NoF.nil
                                                                                                                                                                                      | exact NoF.own
                                                                                                                                                                                      | exact NoF.ptr
                                                                                                                                                                                      | exact NoF.str
                                                                                                                                                                                      | exact nofl_nil
                                                                                                                                                                                      | apply NoF.tup
                                                                                                                                                                                      | apply NoF.agg
                                                                                                                                                                                      | apply nofl_cons)) ?_
     | refine pug [] rfl rfl Try.call16 (fun _ => (nil_setGlobal 0 1 0)) rfl (by repeat (first
                                                                                           | exact ArgsIf.nil
                                                                                           | refine ArgsIf.cons (by first
                                                                                                                      | exact Ev.when rfl (by first
                                                                                                                                                | exact id
                                                                                                                                                | simp)
                                                                                                                      | exact Ev.here rfl) (by first
                                                                                                                                                 | exact Bor.refl _
                                                                                                                                                 | exact Bor.le VLe.any
                                                                                                                                                 | exact Bor.le VLe.empty
                                                                                                                                                 | exact Bor.own (by simp) (by repeat (first
                                                                                                                                                                                         | exact sget_here
                                                                                                                                                                                         | refine sget_next (by omega) ?_)) (by simp)
                                                                                                                                                 | exact Bor.le (VLe.of_eq (by simp))) ?_)) (by repeat (first
                                                                                                                                                                                                          | exact NoF.int
                                                                                                                                                                                                          | exact NoF.bool
                                                                                                                                                                                                          | exact NoF.nilp
                                                                                                                                                                                                          | exact NoF.nil
                                                                                                                                                                                                          | exact NoF.own
                                                                                                                                                                                                          | exact NoF.ptr
                                                                                                                                                                                                          | exact NoF.str
                                                                                                                                                                                                          | exact nofl_nil
                                                                                                                                                                                                          | apply NoF.tup
                                                                                                                                                                                                          | apply NoF.agg
                                                                                                                                                                                                          | apply nofl_cons)) ?_)
  first | refine ln rfl rfl rfl rfl ?_ | refine lg rfl rfl (lop_not (by first | exact W rfl id | exact E rfl)) rfl ?_
  first | refine lo (lop_pick_t (E rfl) (W rfl (by simp))) rfl ?_ | refine lo (lop_pick_f (E rfl) (E rfl)) rfl ?_ | refine lo (lop_pick (E rfl) (W rfl (by simp)) (E rfl)) rfl ?_
  refine lo (lop_move (E rfl)) rfl ?_
  first | refine ln rfl rfl rfl rfl ?_ | refine lg rfl rfl (lop_move (E rfl)) rfl ?_
  (first
     | refine pu [] Try.call19 nil_elems rfl (by repeat (first
                                                           | exact ArgsIf.nil
                                                           | refine ArgsIf.cons (by first
                                                                                      | exact Ev.when rfl (by first
                                                                                                                | exact id
                                                                                                                | simp)
                                                                                      | exact Ev.here rfl) (by first
                                                                                                                 | exact Bor.refl _
                                                                                                                 | exact Bor.le VLe.any
                                                                                                                 | exact Bor.le VLe.empty
                                                                                                                 | exact Bor.own (by simp) (by repeat (first
                                                                                                                                                         | exact sget_here
                                                                                                                                                         | refine sget_next (by omega) ?_)) (by simp)
                                                                                                                 | exact Bor.le (VLe.of_eq (by simp))) ?_)) (by repeat (first
                                                                                                                                                                          | exact NoF.int
                                                                                                                                                                          | exact NoF.bool
                                                                                                                                                                          | exact NoF.nilp
                                                                                                                                                                          | exact NoF.nil
                                                                                                                                                                          | exact NoF.own
                                                                                                                                                                          | exact NoF.ptr
                                                                                                                                                                          | exact NoF.str
                                                                                                                                                                          | exact nofl_nil
                                                                                                                                                                          | apply NoF.tup
                                                                                                                                                                          | apply NoF.agg
                                                                                                                                                                          | apply nofl_cons)) ?_
     | refine pug [] rfl rfl Try.call19 (fun _ => nil_elems) rfl (by repeat (first
                                                                               | exact ArgsIf.nil
                                                                               | refine ArgsIf.cons (by first
                                                                                                          | exact Ev.when rfl (by first
                                                                                                                                    | exact id
                                                                                                                                    | simp)
                                                                                                          | exact Ev.here rfl) (by first
                                                                                                                                     | exact Bor.refl _
                                                                                                                                     | exact Bor.le VLe.any
                                                                                                                                     | exact Bor.le VLe.empty
                                                                                                                                     | exact Bor.own (by simp) (by repeat (first
                                                                                                                                                                             | exact sget_here
                                                                                                                                                                             | refine sget_next (by omega) ?_)) (by simp)
                                                                                                                                     | exact Bor.le (VLe.of_eq (by simp))) ?_)) (by repeat (first
                                                                                                                                                                                              | exact NoF.int
                                                                                                                                                                                              | exact NoF.bool
                                                                                                                                                                                              | exact NoF.nilp
                                                                                                                                                                                              | exact NoF.nil
                                                                                                                                                                                              | exact NoF.own
                                                                                                                                                                                              | exact NoF.ptr
                                                                                                                                                                                              | exact NoF.str
                                                                                                                                                                                              | exact nofl_nil
                                                                                                                                                                                              | apply NoF.tup
                                                                                                                                                                                              | apply NoF.agg
                                                                                                                                                                                              | apply nofl_cons)) ?_)
  first | refine ln rfl rfl rfl rfl ?_ | refine lg rfl rfl (lop_len_map (by first | exact W rfl id | exact E rfl)) rfl ?_ | refine lg rfl rfl (lop_len_ro (by first | exact W rfl id | exact E rfl)) rfl ?_ | refine lg rfl rfl (lop_len_own (by first | exact W rfl id | exact E rfl)) rfl ?_
  first | refine ln rfl rfl rfl rfl ?_ | refine lg rfl rfl (lop_eql (W rfl id) (E rfl)) rfl ?_
  first | refine lo (lop_pick_t (E rfl) (W rfl (by simp))) rfl ?_ | refine lo (lop_pick_f (E rfl) (E rfl)) rfl ?_ | refine lo (lop_pick (E rfl) (W rfl (by simp)) (E rfl)) rfl ?_
  refine lo (lop_move (E rfl)) rfl ?_
  first | refine ln rfl rfl rfl rfl ?_ | refine lg rfl rfl (lop_move (E rfl)) rfl ?_
  (first
     | refine pu [] Try.call17 nil_globals rfl (by repeat (first
                                                             | exact ArgsIf.nil
                                                             | refine ArgsIf.cons (by first
                                                                                        | exact Ev.when rfl (by first
                                                                                                                  | exact id
                                                                                                                  | simp)
                                                                                        | exact Ev.here rfl) (by first
                                                                                                                   | exact Bor.refl _
                                                                                                                   | exact Bor.le VLe.any
                                                                                                                   | exact Bor.le VLe.empty
                                                                                                                   | exact Bor.own (by simp) (by repeat (first
                                                                                                                                                           | exact sget_here
                                                                                                                                                           | refine sget_next (by omega) ?_)) (by simp)
                                                                                                                   | exact Bor.le (VLe.of_eq (by simp))) ?_)) (by repeat (first
                                                                                                                                                                            | exact NoF.int
                                                                                                                                                                            | exact NoF.bool
                                                                                                                                                                            | exact NoF.nilp
                                                                                                                                                                            | exact NoF.nil
                                                                                                                                                                            | exact NoF.own
                                                                                                                                                                            | exact NoF.ptr
                                                                                                                                                                            | exact NoF.str
                                                                                                                                                                            | exact nofl_nil
                                                                                                                                                                            | apply NoF.tup
                                                                                                                                                                            | apply NoF.agg
                                                                                                                                                                            | apply nofl_cons)) ?_
     | refine pug [] rfl rfl Try.call17 (fun _ => nil_globals) rfl (by repeat (first
                                                                                 | exact ArgsIf.nil
                                                                                 | refine ArgsIf.cons (by first
                                                                                                            | exact Ev.when rfl (by first
                                                                                                                                      | exact id
                                                                                                                                      | simp)
                                                                                                            | exact Ev.here rfl) (by first
                                                                                                                                       | exact Bor.refl _
                                                                                                                                       | exact Bor.le VLe.any
                                                                                                                                       | exact Bor.le VLe.empty
                                                                                                                                       | exact Bor.own (by simp) (by repeat (first
                                                                                                                                                                               | exact sget_here
                                                                                                                                                                               | refine sget_next (by omega) ?_)) (by simp)
                                                                                                                                       | exact Bor.le (VLe.of_eq (by simp))) ?_)) (by repeat (first
                                                                                                                                                                                                | exact NoF.int
                                                                                                                                                                                                | exact NoF.bool
                                                                                                                                                                                                | exact NoF.nilp
                                                                                                                                                                                                | exact NoF.nil
                                                                                                                                                                                                | exact NoF.own
                                                                                                                                                                                                | exact NoF.ptr
                                                                                                                                                                                                | exact NoF.str
                                                                                                                                                                                                | exact nofl_nil
                                                                                                                                                                                                | apply NoF.tup
                                                                                                                                                                                                | apply NoF.agg
                                                                                                                                                                                                | apply nofl_cons)) ?_)
  first | refine ln rfl rfl rfl rfl ?_ | refine lg rfl rfl (lop_len_map (by first | exact W rfl id | exact E rfl)) rfl ?_ | refine lg rfl rfl (lop_len_ro (by first | exact W rfl id | exact E rfl)) rfl ?_ | refine lg rfl rfl (lop_len_own (by first | exact W rfl id | exact E rfl)) rfl ?_
  first | refine ln rfl rfl rfl rfl ?_ | refine lg rfl rfl (lop_eql (W rfl id) (E rfl)) rfl ?_
  first | refine lo (lop_pick_t (E rfl) (W rfl (by simp))) rfl ?_ | refine lo (lop_pick_f (E rfl) (E rfl)) rfl ?_ | refine lo (lop_pick (E rfl) (W rfl (by simp)) (E rfl)) rfl ?_
  refine lo (lop_assign (E rfl)) rfl ?_
  apply le; (repeat (first | (apply KeepIs.take; rfl) | (apply KeepIs.skip; rfl) | exact KeepIs.nil))
  (repeat (first | refine cs ?_ | refine cb ?_ | refine ck ?_ | refine cx ?_ | refine cr ?_ | refine an ?_ | refine ae ?_ | refine ar ?_ | refine bn ?_ | refine bh ?_ | refine be rfl ?_ | refine br ?_ | refine ct rfl ?_ | refine cf rfl ?_))
  (apply aend; (repeat (first
                          | exact ResL.nil
                          | (apply ResL.tmp; rfl)
                          | (apply ResL.cell; rfl; infer_instance; rfl; (repeat (first
                                                                                   | exact sget_here
                                                                                   | (apply sget_next; omega))); rfl)
                          | (apply ResL.cells; rfl; infer_instance; infer_instance; rfl; (repeat (first
                                                                                                    | exact sget_here
                                                                                                    | (apply sget_next; omega))); exact Nat.le_of_ble_eq_true rfl))))
  · exact rfl
  · (first | exact no_mem | (apply StLe.mem; (repeat (first | exact StLe.nil | refine StLe.cons (by repeat (first | exact List.mem_cons_self | apply List.mem_cons_of_mem)) (by first | rfl | (congr 1; done) | (simp; done) | (simp; rfl)) ?_))))
end Go.Proofs.Ytpdgnenffiphcaa
