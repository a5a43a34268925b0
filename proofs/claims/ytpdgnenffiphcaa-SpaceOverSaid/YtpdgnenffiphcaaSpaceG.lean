/-
  SpaceOver, walked.
-/
import Derived.Test.YtpdgnenffiphcaaSpaceE
import Derived.Test.YtpdgnenffiphcaaRefA
namespace Go.Proofs.Ytpdgnenffiphcaa
open Go.RowKit Go.ChangeShapes Go.WideShapes Go.ChangeAt Go.Deep
set_option linter.unusedSimpArgs false
set_option linter.unusedVariables false
attribute [local irreducible] SW RS RD AThen ABlock

def fillL (N k : Nat) (x y : Int) : List Int := List.replicate k x ++ List.replicate (N - k) y
theorem fillL_step {N k : Nat} {x y : Int} (h : k < N) : (fillL N k x y).set k x = fillL N (k + 1) x y := by
  unfold fillL
  rw [List.set_append_right _ _ (by simp), List.length_replicate, Nat.sub_self, show N - k = (N - (k + 1)) + 1 by omega, List.replicate_succ, List.set_cons_zero, List.replicate_succ' (n := k)]
  simp
theorem fillL_len {N k : Nat} {x y : Int} (h : k ≤ N) : (fillL N k x y).length = N := by simp [fillL]; omega
theorem fillL_at {N k : Nat} {x y : Int} (h : k < N) : (fillL N k x y)[k]? = some y := by
  unfold fillL
  rw [List.getElem?_append_right (by simp), List.length_replicate, Nat.sub_self, show N - k = (N - (k + 1)) + 1 by omega, List.replicate_succ]
  rfl
theorem fillL_all {N : Nat} {x y : Int} : fillL N N x y = List.replicate N x := by simp [fillL]
def wrapK (x : Int) : Int := (x.tmod 1000 + 1000).tmod 1000
theorem wrapK_bd (x : Int) : -1000 < x.tmod 1000 ∧ x.tmod 1000 < 1000 := ⟨Int.lt_tmod_of_pos x (by decide), Int.tmod_lt_of_pos x (by decide)⟩
theorem set_encI {l : List Int} {i : Nat} {x : Int} : (l.map encI).set i [.int .i64 x] = (l.set i x).map encI := by rw [List.map_set]; rfl
theorem set_encI' {l : List Int} {i : Nat} {x : Int} : (l.map encI).set i [ofConst (.int .i64 x)] = (l.set i x).map encI := set_encI
theorem setT_step {tb F : List Int} {A k : Nat} {x : Int} (h : A + k < tb.length) (hx : F[k]? = some x) : (setT tb A (F.take k)).set (A + k) x = setT tb A (F.take (k + 1)) := by
  have hk : k < F.length := (List.getElem?_eq_some_iff.1 hx).1
  have e1 : (F.take k).length = k := by simp; omega
  have e2 : (F.take (k + 1)).length = k + 1 := by simp; omega
  have b1 : setB tb A k = true := by simp [setB]; omega
  have b2 : setB tb A ((k + 1 : Nat) : Int).toNat = true := by simp [setB]; omega
  simp only [Int.toNat_natCast] at b2
  unfold setT
  rw [e1, e2, b1, b2]
  simp only [if_true, Int.toNat_natCast]
  rw [List.set_append_right _ _ (by simp; omega), List.take_add_one, hx]
  have e3 : A + k - (tb.take A ++ F.take k).length = 0 := by simp; omega
  rw [e3, show A + (k + 1) = (A + k) + 1 by omega]
  rw [← List.getElem_cons_drop h, List.set_cons_zero]
  simp
def ovr (l : List Int) (j : Nat) (x : Int) : List Int := List.replicate j x ++ l.drop j
theorem ovr_step {l : List Int} {j : Nat} {x : Int} (h : j < l.length) : (ovr l j x).set j x = ovr l (j + 1) x := by
  unfold ovr
  rw [List.set_append_right _ _ (by simp), List.length_replicate, Nat.sub_self, ← List.getElem_cons_drop h, List.set_cons_zero, List.replicate_succ' (n := j)]
  simp
theorem ovr_len {l : List Int} {j : Nat} {x : Int} (h : j ≤ l.length) : (ovr l j x).length = l.length := by simp [ovr]; omega
theorem ovr_at {l : List Int} {j : Nat} {x : Int} (h : j < l.length) : ∃ z, (ovr l j x)[j]? = some z := ⟨_, List.getElem?_eq_getElem (by rw [ovr_len (by omega)]; exact h)⟩
theorem setT_at {tb F : List Int} {A k : Nat} (h : A + k < tb.length) (hk : k ≤ F.length) : ∃ z, (setT tb A (F.take k))[A + k]? = some z := by
  refine ⟨_, List.getElem?_eq_getElem ?_⟩
  rw [setT_len]
  exact h

set_option maxRecDepth 100000 in
set_option maxHeartbeats 8000000 in
theorem law_spaceOver (n a b : Int) (fs gs : List Int) : SCall Try.prog 5 [.int .i64 n, .int .i64 a, .int .i64 b, .ro 1 (fs.map encI) .any, .ro 1 (gs.map encI) .any] [] (fun x _ => x = .bool true) := by
  refine scall_of (n := 164) (ks := [0, 1, 2, 3, 4, 10, 11, 12, 13, 14, 15, 16, 17, 18, 19, 20, 23, 37, 47, 48, 49, 65, 97, 144, 150, 152, 153, 154]) Try.func5 rfl rfl (Nat.le_of_ble_eq_true rfl) ?_
  (repeat (first | refine cs ?_ | refine cb ?_ | refine ck ?_ | refine cx ?_ | refine cr ?_ | refine an ?_ | refine ae ?_ | refine ar ?_ | refine bn ?_ | refine bh ?_ | refine be rfl ?_ | refine br ?_ | refine ct rfl ?_ | refine cf rfl ?_))
  first | refine sw_seq_region ?_ | refine sw_region ?_
  refine lo (lop_assign (E rfl)) rfl ?_
  apply le; (repeat (first | (apply KeepIs.take; rfl) | (apply KeepIs.skip; rfl) | exact KeepIs.nil))
  (repeat (first | refine cs ?_ | refine cb ?_ | refine ck ?_ | refine cx ?_ | refine cr ?_ | refine an ?_ | refine ae ?_ | refine ar ?_ | refine bn ?_ | refine bh ?_ | refine be rfl ?_ | refine br ?_ | refine ct rfl ?_ | refine cf rfl ?_))
  first | refine sw_seq_region ?_ | refine sw_region ?_
  (first
     | refine pu [] Try.call12 law_begun11 rfl (by repeat (first
                                                             | exact ArgsIf.nil
                                                             | refine ArgsIf.cons (by first
                                                                                        | exact Ev.when rfl (by first
                                                                                                                  | exact id
                                                                                                                  | simp)
                                                                                        | exact Ev.here rfl) (by first
                                                                                                                   | exact Bor.refl _
                                                                                                                   | exact Bor.le VLe.any
                                                                                                                   | exact Bor.le VLe.empty
                                                                                                                   | exact Bor.own (by simp) (by repeat (first
                                                                                                                                                           | exact sget_here
                                                                                                                                                           | refine sget_next (by (first
                                                                                                                                                                                     | assumption
                                                                                                                                                                                     | (apply Nq.en; assumption)
                                                                                                                                                                                     | omega
                                                                                                                                                                                     | (simp only [Nq] at *; omega))) ?_)) (by simp)
                                                                                                                   | exact Bor.le (VLe.of_eq (by simp))) ?_)) (by repeat (first
                                                                                                                                                                            | exact NoF.int
                                                                                                                                                                            | exact NoF.bool
                                                                                                                                                                            | exact NoF.nilp
                                                                                                                                                                            | exact NoF.nil
                                                                                                                                                                            | exact NoF.own
                                                                                                                                                                            | exact NoF.ptr
                                                                                                                                                                            | exact NoF.str
                                                                                                                                                                            | exact nofl_nil
                                                                                                                                                                            | apply NoF.tup
                                                                                                                                                                            | apply NoF.agg
                                                                                                                                                                            | apply nofl_cons)) ?_
     | refine pug [] rfl rfl Try.call12 (fun _ => law_begun11) rfl (by repeat (first
                                                                                 | exact ArgsIf.nil
                                                                                 | refine ArgsIf.cons (by first
                                                                                                            | exact Ev.when rfl (by first
                                                                                                                                      | exact id
                                                                                                                                      | simp)
                                                                                                            | exact Ev.here rfl) (by first
                                                                                                                                       | exact Bor.refl _
                                                                                                                                       | exact Bor.le VLe.any
                                                                                                                                       | exact Bor.le VLe.empty
                                                                                                                                       | exact Bor.own (by simp) (by repeat (first
                                                                                                                                                                               | exact sget_here
                                                                                                                                                                               | refine sget_next (by (first
                                                                                                                                                                                                         | assumption
                                                                                                                                                                                                         | (apply Nq.en; assumption)
                                                                                                                                                                                                         | omega
                                                                                                                                                                                                         | (simp only [Nq] at *; omega))) ?_)) (by simp)
                                                                                                                                       | exact Bor.le (VLe.of_eq (by simp))) ?_)) (by repeat (first
                                                                                                                                                                                                | exact NoF.int
                                                                                                                                                                                                | exact NoF.bool
                                                                                                                                                                                                | exact NoF.nilp
                                                                                                                                                                                                | exact NoF.nil
                                                                                                                                                                                                | exact NoF.own
                                                                                                                                                                                                | exact NoF.ptr
                                                                                                                                                                                                | exact NoF.str
                                                                                                                                                                                                | exact nofl_nil
                                                                                                                                                                                                | apply NoF.tup
                                                                                                                                                                                                | apply NoF.agg
                                                                                                                                                                                                | apply nofl_cons)) ?_)
  refine lo (lop_assign (E rfl)) rfl ?_
  apply le; (repeat (first | (apply KeepIs.take; rfl) | (apply KeepIs.skip; rfl) | exact KeepIs.nil))
  (repeat (first | refine cs ?_ | refine cb ?_ | refine ck ?_ | refine cx ?_ | refine cr ?_ | refine an ?_ | refine ae ?_ | refine ar ?_ | refine bn ?_ | refine bh ?_ | refine be rfl ?_ | refine br ?_ | refine ct rfl ?_ | refine cf rfl ?_))
  first | refine sw_seq_region ?_ | refine sw_region ?_
  refine lo (lop_move (E rfl)) rfl ?_
  refine lo (lop_not (E rfl)) rfl ?_
  apply le; (repeat (first | (apply KeepIs.take; rfl) | (apply KeepIs.skip; rfl) | exact KeepIs.nil))
  (repeat (first | refine cs ?_ | refine cb ?_ | refine ck ?_ | refine cx ?_ | refine cr ?_ | refine an ?_ | refine ae ?_ | refine ar ?_ | refine bn ?_ | refine bh ?_ | refine be rfl ?_ | refine br ?_ | refine ct rfl ?_ | refine cf rfl ?_))
  first | refine sw_seq_region ?_ | refine sw_region ?_
  refine lo (lop_move (E rfl)) rfl ?_
  refine lo (lop_lss (E rfl) (E rfl)) rfl ?_
  refine lo (lop_move (E rfl)) rfl ?_
  first | refine ln rfl rfl rfl rfl ?_ | refine lg rfl rfl (lop_move (E rfl)) rfl ?_
  first | refine ln rfl rfl rfl rfl ?_ | refine lg rfl rfl (lop_gtr (W rfl id) (E rfl)) rfl ?_
  first | refine lo (lop_pick_t (E rfl) (E rfl)) rfl ?_ | refine lo (lop_pick_f (E rfl) (W rfl (by simp))) rfl ?_ | refine lo (lop_pick (E rfl) (E rfl) (W rfl (by simp))) rfl ?_
  refine lo (lop_move (E rfl)) rfl ?_
  first | refine ln rfl rfl rfl rfl ?_ | refine lg rfl rfl (lop_move (E rfl)) rfl ?_
  first | refine ln rfl rfl rfl rfl ?_ | refine lg rfl rfl (lop_lss (W rfl id) (E rfl)) rfl ?_
  first | refine lo (lop_pick_t (E rfl) (E rfl)) rfl ?_ | refine lo (lop_pick_f (E rfl) (W rfl (by simp))) rfl ?_ | refine lo (lop_pick (E rfl) (E rfl) (W rfl (by simp))) rfl ?_
  refine lo (lop_move (E rfl)) rfl ?_
  first | refine ln rfl rfl rfl rfl ?_ | refine lg rfl rfl (lop_move (E rfl)) rfl ?_
  first | refine ln rfl rfl rfl rfl ?_ | refine lg rfl rfl (lop_lss (W rfl id) (E rfl)) rfl ?_
  first | refine lo (lop_pick_t (E rfl) (E rfl)) rfl ?_ | refine lo (lop_pick_f (E rfl) (W rfl (by simp))) rfl ?_ | refine lo (lop_pick (E rfl) (E rfl) (W rfl (by simp))) rfl ?_
  apply le; (repeat (first | (apply KeepIs.take; rfl) | (apply KeepIs.skip; rfl) | exact KeepIs.nil))
  (repeat (first | refine cs ?_ | refine cb ?_ | refine ck ?_ | refine cx ?_ | refine cr ?_ | refine an ?_ | refine ae ?_ | refine ar ?_ | refine bn ?_ | refine bh ?_ | refine be rfl ?_ | refine br ?_ | refine ct rfl ?_ | refine cf rfl ?_))
  refine sw_cond rfl (fun h1 => ?_) (fun h1 => ?_)
  · (repeat (first | refine cs ?_ | refine cb ?_ | refine ck ?_ | refine cx ?_ | refine cr ?_ | refine an ?_ | refine ae ?_ | refine ar ?_ | refine bn ?_ | refine bh ?_ | refine be rfl ?_ | refine br ?_ | refine ct rfl ?_ | refine cf rfl ?_))
    first | refine sw_seq_region ?_ | refine sw_region ?_
    refine lo (lop_assign (E rfl)) rfl ?_
    apply le; (repeat (first | (apply KeepIs.take; rfl) | (apply KeepIs.skip; rfl) | exact KeepIs.nil))
    (repeat (first | refine cs ?_ | refine cb ?_ | refine ck ?_ | refine cx ?_ | refine cr ?_ | refine an ?_ | refine ae ?_ | refine ar ?_ | refine bn ?_ | refine bh ?_ | refine be rfl ?_ | refine br ?_ | refine ct rfl ?_ | refine cf rfl ?_))
    (apply aend; (repeat (first
                            | exact ResL.nil
                            | (apply ResL.tmp; rfl)
                            | (apply ResL.cell; rfl; infer_instance; rfl; (repeat (first
                                                                                     | exact sget_here
                                                                                     | (apply sget_next; (first
                                                                                                            | assumption
                                                                                                            | (apply Nq.en; assumption)
                                                                                                            | omega
                                                                                                            | (simp only [Nq] at *; omega))))); rfl)
                            | (apply ResL.cells; rfl; infer_instance; infer_instance; rfl; (repeat (first
                                                                                                      | exact sget_here
                                                                                                      | (apply sget_next; (first
                                                                                                                             | assumption
                                                                                                                             | (apply Nq.en; assumption)
                                                                                                                             | omega
                                                                                                                             | (simp only [Nq] at *; omega))))); exact Nat.le_of_ble_eq_true rfl))))
    · exact rfl
    · (first | exact no_mem | (apply StLe.mem; (repeat (first | exact StLe.nil | (apply StLe.cons; (repeat (first | exact List.mem_cons_self | apply List.mem_cons_of_mem)); first | rfl | focus (congr 1; done) | focus (simp; done) | (simp; rfl))))))
  simp at h1
  obtain ⟨N, hN⟩ := Int.eq_ofNat_of_zero_le (show 0 ≤ n by omega)
  obtain ⟨a', ha'⟩ := Int.eq_ofNat_of_zero_le (show 0 ≤ a by omega)
  obtain ⟨b', hb'⟩ := Int.eq_ofNat_of_zero_le (show 0 ≤ b by omega)
  subst hN ha' hb'
  (repeat (first | refine cs ?_ | refine cb ?_ | refine ck ?_ | refine cx ?_ | refine cr ?_ | refine an ?_ | refine ae ?_ | refine ar ?_ | refine bn ?_ | refine bh ?_ | refine be rfl ?_ | refine br ?_ | refine ct rfl ?_ | refine cf rfl ?_))
  first
    | refine sw_seq_drawn [(0, true), (1, true), (2, true), (3, true), (4, true), (5, true), (6, true), (7, true)] mixed (by kernel_rfl) (by kernel_rfl) ?_
    | refine sw_region_drawn [(0, true), (1, true), (2, true), (3, true), (4, true), (5, true), (6, true), (7, true)] mixed (by kernel_rfl) (by kernel_rfl) ?_
  refine dlo rfl (lop_move (E rfl)) rfl ?_
  refine dlo rfl (lop_move (E rfl)) rfl ?_
  refine dlo rfl (lop_rem (E rfl) (E rfl) (fun _ => by first | decide | omega)) rfl ?_
  refine dlo rfl (lop_move (E rfl)) rfl ?_
  refine dlo rfl (lop_move (E rfl)) rfl ?_
  refine dlo rfl (lop_rem (E rfl) (E rfl) (fun _ => by first | decide | omega)) rfl ?_
  refine dlo rfl (lop_assign (E rfl)) rfl ?_
  refine dlo rfl (lop_assign (E rfl)) rfl ?_
  apply de; (repeat (first | (apply KeepIs.take; rfl) | (apply KeepIs.skip; rfl) | exact KeepIs.nil))
  (repeat (first | refine cs ?_ | refine cb ?_ | refine ck ?_ | refine cx ?_ | refine cr ?_ | refine an ?_ | refine ae ?_ | refine ar ?_ | refine bn ?_ | refine bh ?_ | refine be rfl ?_ | refine br ?_ | refine ct rfl ?_ | refine cf rfl ?_))
  obtain ⟨A, hA, hAN⟩ : ∃ A : Nat, (a' : Int).tmod N = A ∧ A < N := ⟨a' % N, by rw [Int.tmod_eq_emod_of_nonneg (by omega)]; rfl, Nat.mod_lt _ (by omega)⟩
  obtain ⟨B, hB, hBN⟩ : ∃ B : Nat, (b' : Int).tmod N = B ∧ B < N := ⟨b' % N, by rw [Int.tmod_eq_emod_of_nonneg (by omega)]; rfl, Nat.mod_lt _ (by omega)⟩
  simp only [hA, hB]
  first | refine sw_seq_region ?_ | refine sw_region ?_
  refine lo (lop_move (E rfl)) rfl ?_
  apply mk; rfl; rfl; rfl; rfl; omega; (simp [maxLen]; omega); (first | (simp only [Value.cells, AV.cells, List.map_cons, List.map_nil, ofConst, ofCell]; rfl) | rfl); rfl; intro r45 h45; simp only [fresh_cons, fresh_nil, and_true] at h45; (repeat (rcases h45 with ⟨_, h45⟩))
  refine lo (lop_assign (E rfl)) rfl ?_
  apply le; (repeat (first | (apply KeepIs.take; rfl) | (apply KeepIs.skip; rfl) | exact KeepIs.nil))
  (repeat (first | refine cs ?_ | refine cb ?_ | refine ck ?_ | refine cx ?_ | refine cr ?_ | refine an ?_ | refine ae ?_ | refine ar ?_ | refine bn ?_ | refine bh ?_ | refine be rfl ?_ | refine br ?_ | refine ct rfl ?_ | refine cf rfl ?_))
  first | refine sw_seq_region ?_ | refine sw_region ?_
  refine lo (lop_move (E rfl)) rfl ?_
  first | refine lo (lop_len_map (E rfl)) rfl ?_ | refine lo (lop_len_ro (E rfl)) rfl ?_ | refine lo (lop_len_own (E rfl)) rfl ?_
  refine lo (lop_move (E rfl)) rfl ?_
  apply le; (repeat (first | (apply KeepIs.take; rfl) | (apply KeepIs.skip; rfl) | exact KeepIs.nil))
  (repeat (first | refine cs ?_ | refine cb ?_ | refine ck ?_ | refine cx ?_ | refine cr ?_ | refine an ?_ | refine ae ?_ | refine ar ?_ | refine bn ?_ | refine bh ?_ | refine be rfl ?_ | refine br ?_ | refine ct rfl ?_ | refine cf rfl ?_))
  refine lp (β := Nat) (fun k => ⟨[(0, .int .i64 N), (1, .int .i64 A), (2, .int .i64 B), (3, .ro 1 (fs.map encI) .any), (4, .ro 1 (gs.map encI) .any), (12, .own r45 0 N), (47, .int .i64 N), (48, .int .i64 k)], [(r45, .arr 3 1 ((fillL N k (-1) 0).map encI))]⟩) (fun k => k ≤ N) (fun k => N - k) 0 ?_ (Nat.zero_le _) ?_
  · rw [show List.replicate N [AV.int .i64 0] = (fillL N 0 (-1) 0).map encI by simp [fillL, encI]]
    (refine sgo_st ?_ ?_ <;> (repeat (first
                                        | exact FrLe.nil
                                        | (apply FrLe.cons; rfl; first
                                                                   | exact VLe.refl _
                                                                   | exact VLe.any
                                                                   | exact VLe.empty
                                                                   | exact VLe.of_eq (by simp)
                                                                   | exact VLe.of_eq (by congr 1; omega))
                                        | exact StLe.nil
                                        | (apply StLe.cons; (repeat (first
                                                                       | exact List.mem_cons_self
                                                                       | apply List.mem_cons_of_mem)); first
                                                                                                         | rfl
                                                                                                         | focus (congr 1; done)
                                                                                                         | focus (simp; done)
                                                                                                         | (simp; rfl)))))
  rintro k hk
  (repeat (first | refine cs ?_ | refine cb ?_ | refine ck ?_ | refine cx ?_ | refine cr ?_ | refine an ?_ | refine ae ?_ | refine ar ?_ | refine bn ?_ | refine bh ?_ | refine be rfl ?_ | refine br ?_ | refine ct rfl ?_ | refine cf rfl ?_))
  first | refine sw_seq_region ?_ | refine sw_region ?_
  refine lo (lop_lss (E rfl) (E rfl)) rfl ?_
  apply le; (repeat (first | (apply KeepIs.take; rfl) | (apply KeepIs.skip; rfl) | exact KeepIs.nil))
  (repeat (first | refine cs ?_ | refine cb ?_ | refine ck ?_ | refine cx ?_ | refine cr ?_ | refine an ?_ | refine ae ?_ | refine ar ?_ | refine bn ?_ | refine bh ?_ | refine be rfl ?_ | refine br ?_ | refine ct rfl ?_ | refine cf rfl ?_))
  refine sw_cond rfl (fun h2 => ?_) (fun h2 => ?_)
  · have hlt : k < N := by simp at h2; omega
    have hat := fillL_at (x := -1) (y := 0) hlt
    have hln := fillL_len (x := -1) (y := 0) hk
    (repeat (first | refine cs ?_ | refine cb ?_ | refine ck ?_ | refine cx ?_ | refine cr ?_ | refine an ?_ | refine ae ?_ | refine ar ?_ | refine bn ?_ | refine bh ?_ | refine be rfl ?_ | refine br ?_ | refine ct rfl ?_ | refine cf rfl ?_))
    first | refine sw_seq_region ?_ | refine sw_region ?_
    refine lo (lop_move (E rfl)) rfl ?_
    refine lo (lop_assign (E rfl)) rfl ?_
    apply le; (repeat (first | (apply KeepIs.take; rfl) | (apply KeepIs.skip; rfl) | exact KeepIs.nil))
    (repeat (first | refine cs ?_ | refine cb ?_ | refine ck ?_ | refine cx ?_ | refine cr ?_ | refine an ?_ | refine ae ?_ | refine ar ?_ | refine bn ?_ | refine bh ?_ | refine be rfl ?_ | refine br ?_ | refine ct rfl ?_ | refine cf rfl ?_))
    first | refine sw_seq_region ?_ | refine sw_region ?_
    refine lo (lop_move (E rfl)) rfl ?_
    refine lo (lop_move (E rfl)) rfl ?_
    first
      | refine lo (lop_index_ro (E rfl) (E rfl) (fun hc => by simp only [List.length_map]; omega)) rfl ?_
      | refine lo (lop_index_own0 (E rfl) (by repeat (first
                                                        | exact sget_here
                                                        | refine sget_next (by (first
                                                                                  | assumption
                                                                                  | (apply Nq.en; assumption)
                                                                                  | omega
                                                                                  | (simp only [Nq] at *; omega))) ?_)) (E rfl) (fun hc => by omega)) rfl ?_
      | refine lo (lop_index_own (E rfl) (by repeat (first
                                                       | exact sget_here
                                                       | refine sget_next (by (first
                                                                                 | assumption
                                                                                 | (apply Nq.en; assumption)
                                                                                 | omega
                                                                                 | (simp only [Nq] at *; omega))) ?_)) (E rfl) (fun hc => by omega)) rfl ?_
    apply sto; rfl; rfl; rfl; rfl; (repeat (first
                                              | (apply SSet.here; (repeat (first
                                                                             | exact Fresh.nil
                                                                             | (apply Fresh.cons; (first
                                                                                                     | assumption
                                                                                                     | (apply Nq.en; assumption)
                                                                                                     | omega
                                                                                                     | (simp only [Nq] at *; omega))))))
                                              | (apply SSet.next; (first
                                                                     | assumption
                                                                     | (apply Nq.en; assumption)
                                                                     | omega
                                                                     | (simp only [Nq] at *; omega))))); (first
                                                                                                            | rfl
                                                                                                            | exact get_map (by assumption)
                                                                                                            | assumption); (repeat (first
                                                                                                                                      | exact Put.done
                                                                                                                                      | apply Put.put
                                                                                                                                      | apply Put.skip)); rfl
    apply le; (repeat (first | (apply KeepIs.take; rfl) | (apply KeepIs.skip; rfl) | exact KeepIs.nil))
    (repeat (first | refine cs ?_ | refine cb ?_ | refine ck ?_ | refine cx ?_ | refine cr ?_ | refine an ?_ | refine ae ?_ | refine ar ?_ | refine bn ?_ | refine bh ?_ | refine be rfl ?_ | refine br ?_ | refine ct rfl ?_ | refine cf rfl ?_))
    first | refine sw_seq_region ?_ | refine sw_region ?_
    first | refine lo (lop_add64 (E rfl) (E rfl) (by omega) (by omega)) rfl ?_ | refine lo (lop_add (E rfl) (E rfl)) rfl ?_
    refine lo (lop_move (E rfl)) rfl ?_
    apply le; (repeat (first | (apply KeepIs.take; rfl) | (apply KeepIs.skip; rfl) | exact KeepIs.nil))
    (repeat (first | refine cs ?_ | refine cb ?_ | refine ck ?_ | refine cx ?_ | refine cr ?_ | refine an ?_ | refine ae ?_ | refine ar ?_ | refine bn ?_ | refine bh ?_ | refine be rfl ?_ | refine br ?_ | refine ct rfl ?_ | refine cf rfl ?_))
    refine ⟨k + 1, hlt, by show N - (k + 1) < N - k; omega, ?_⟩
    rw [Int.toNat_natCast, set_encI', fillL_step hlt]
    (refine sgo_st ?_ ?_ <;> (repeat (first
                                        | exact FrLe.nil
                                        | (apply FrLe.cons; rfl; first
                                                                   | exact VLe.refl _
                                                                   | exact VLe.any
                                                                   | exact VLe.empty
                                                                   | exact VLe.of_eq (by simp)
                                                                   | exact VLe.of_eq (by congr 1; omega))
                                        | exact StLe.nil
                                        | (apply StLe.cons; (repeat (first
                                                                       | exact List.mem_cons_self
                                                                       | apply List.mem_cons_of_mem)); first
                                                                                                         | rfl
                                                                                                         | focus (congr 1; done)
                                                                                                         | focus (simp; done)
                                                                                                         | (simp; rfl)))))
  obtain rfl : k = N := by simp at h2; omega
  rw [fillL_all]
  (repeat (first | refine cs ?_ | refine cb ?_ | refine ck ?_ | refine cx ?_ | refine cr ?_ | refine an ?_ | refine ae ?_ | refine ar ?_ | refine bn ?_ | refine bh ?_ | refine be rfl ?_ | refine br ?_ | refine ct rfl ?_ | refine cf rfl ?_))
  first | refine sw_seq_region ?_ | refine sw_region ?_
  refine lo (lop_assign (E rfl)) rfl ?_
  refine lo (lop_assign (E rfl)) rfl ?_
  apply le; (repeat (first | (apply KeepIs.take; rfl) | (apply KeepIs.skip; rfl) | exact KeepIs.nil))
  (repeat (first | refine cs ?_ | refine cb ?_ | refine ck ?_ | refine cx ?_ | refine cr ?_ | refine an ?_ | refine ae ?_ | refine ar ?_ | refine bn ?_ | refine bh ?_ | refine be rfl ?_ | refine br ?_ | refine ct rfl ?_ | refine cf rfl ?_))
  first | refine sw_seq_region ?_ | refine sw_region ?_
  refine lo (lop_assign (E rfl)) rfl ?_
  apply le; (repeat (first | (apply KeepIs.take; rfl) | (apply KeepIs.skip; rfl) | exact KeepIs.nil))
  (repeat (first | refine cs ?_ | refine cb ?_ | refine ck ?_ | refine cx ?_ | refine cr ?_ | refine an ?_ | refine ae ?_ | refine ar ?_ | refine bn ?_ | refine bh ?_ | refine be rfl ?_ | refine br ?_ | refine ct rfl ?_ | refine cf rfl ?_))
  have hF : ∃ F : List Int, F = fs.map wrapK := ⟨_, rfl⟩
  obtain ⟨F, hF⟩ := hF
  have hG : ∃ G : List Int, G = gs.map wrapK := ⟨_, rfl⟩
  obtain ⟨G, hG⟩ := hG
  have hbl : (List.replicate k (-1 : Int)).length = k := List.length_replicate
  obtain ⟨base, hbase⟩ : ∃ base, base = List.replicate k (-1 : Int) := ⟨_, rfl⟩
  rw [← hbase] at hbl ⊢
  refine sw_virt (ks := [0, 1, 2, 3, 4, 10, 11, 12, 13, 14, 15, 16, 17, 18, 19, 20, 23, 37, 47, 48, 49, 65, 97, 144, 150, 152, 153, 154]) 14 3 1 (by decide) rfl (by decide) fun q hq => ?_
  simp only [fresh_cons, fresh_nil, and_true] at hq; (repeat (rcases hq with ⟨_, hq⟩))
  refine lp (β := Nat × Nat) (fun b => ⟨[(0, .int .i64 k), (1, .int .i64 A), (2, .int .i64 B), (3, .ro 1 (fs.map encI) .any), (4, .ro 1 (gs.map encI) .any), (12, .own r45 0 k), (14, .own b.1 0 b.2), (15, .ro 0 [] .nil), (16, .int .i64 b.2)],
    [(b.1, .arr 3 1 ((F.take b.2).map encI)), (r45, .arr 3 1 ((setT base A (F.take b.2)).map encI))]⟩) (fun b => Nq b.1 r45 ∧ A + b.2 ≤ k ∧ b.2 ≤ F.length) (fun b => k - b.2) (q, 0) ?_ ⟨by show Nq q r45; (first
                                                                                                                                                                                                               | assumption
                                                                                                                                                                                                               | (apply Nq.en; assumption)
                                                                                                                                                                                                               | omega
                                                                                                                                                                                                               | (simp only [Nq] at *; omega)), by show A + 0 ≤ k; omega, Nat.zero_le _⟩ ?_
  · rw [show base.map encI = (setT base A (F.take 0)).map encI by simp [setT]]
    (refine sgo_st ?_ ?_ <;> (repeat (first
                                        | exact FrLe.nil
                                        | (apply FrLe.cons; rfl; first
                                                                   | exact VLe.refl _
                                                                   | exact VLe.any
                                                                   | exact VLe.empty
                                                                   | exact VLe.of_eq (by simp)
                                                                   | exact VLe.of_eq (by congr 1; omega))
                                        | exact StLe.nil
                                        | (apply StLe.cons; (repeat (first
                                                                       | exact List.mem_cons_self
                                                                       | apply List.mem_cons_of_mem)); first
                                                                                                         | rfl
                                                                                                         | focus (congr 1; done)
                                                                                                         | focus (simp; done)
                                                                                                         | (simp; rfl)))))
  rintro ⟨f, j⟩ ⟨hf, hj, hjl⟩
  simp only at hf hj hjl ⊢
  (repeat (first | refine cs ?_ | refine cb ?_ | refine ck ?_ | refine cx ?_ | refine cr ?_ | refine an ?_ | refine ae ?_ | refine ar ?_ | refine bn ?_ | refine bh ?_ | refine be rfl ?_ | refine br ?_ | refine ct rfl ?_ | refine cf rfl ?_))
  first | refine sw_seq_region ?_ | refine sw_region ?_
  refine lo (lop_move (E rfl)) rfl ?_
  refine lo (lop_move (E rfl)) rfl ?_
  first | refine lo (lop_len_map (E rfl)) rfl ?_ | refine lo (lop_len_ro (E rfl)) rfl ?_ | refine lo (lop_len_own (E rfl)) rfl ?_
  refine lo (lop_lss (E rfl) (E rfl)) rfl ?_
  refine lo (lop_move (E rfl)) rfl ?_
  first | refine ln rfl rfl rfl rfl ?_ | refine lg rfl rfl (lop_move (E rfl)) rfl ?_
  first | refine ln rfl rfl rfl rfl ?_ | refine lg rfl rfl (lop_move (E rfl)) rfl ?_
  first | refine ln rfl rfl rfl rfl ?_ | refine lg rfl rfl (lop_add64 (W rfl id) (W rfl id) (by omega) (by omega)) rfl ?_ | refine lg rfl rfl (lop_add (W rfl id) (W rfl id)) rfl ?_
  first | refine ln rfl rfl rfl rfl ?_ | refine lg rfl rfl (lop_move (E rfl)) rfl ?_
  first | refine ln rfl rfl rfl rfl ?_ | refine lg rfl rfl (lop_lss (W rfl id) (W rfl id)) rfl ?_
  first | refine lo (lop_pick_t (E rfl) (W rfl (by simp))) rfl ?_ | refine lo (lop_pick_f (E rfl) (E rfl)) rfl ?_ | refine lo (lop_pick (E rfl) (W rfl (by simp)) (E rfl)) rfl ?_
  apply le; (repeat (first | (apply KeepIs.take; rfl) | (apply KeepIs.skip; rfl) | exact KeepIs.nil))
  (repeat (first | refine cs ?_ | refine cb ?_ | refine ck ?_ | refine cx ?_ | refine cr ?_ | refine an ?_ | refine ae ?_ | refine ar ?_ | refine bn ?_ | refine bh ?_ | refine be rfl ?_ | refine br ?_ | refine ct rfl ?_ | refine cf rfl ?_))
  refine sw_cond rfl (fun h2 => ?_) (fun h2 => ?_)
  · have hlt : j < fs.length ∧ A + j < k := by simp at h2; omega
    obtain ⟨x, hx⟩ : ∃ x, fs[j]? = some x := ⟨_, List.getElem?_eq_getElem hlt.1⟩
    have hFx : F[j]? = some (wrapK x) := by rw [hF, List.getElem?_map, hx]; rfl
    have hw := wrapK_bd x
    (repeat (first | refine cs ?_ | refine cb ?_ | refine ck ?_ | refine cx ?_ | refine cr ?_ | refine an ?_ | refine ae ?_ | refine ar ?_ | refine bn ?_ | refine bh ?_ | refine be rfl ?_ | refine br ?_ | refine ct rfl ?_ | refine cf rfl ?_))
    first | refine sw_seq_region ?_ | refine sw_region ?_
    refine lo (lop_move (E rfl)) rfl ?_
    refine lo (lop_move (E rfl)) rfl ?_
    refine lo (lop_move (E rfl)) rfl ?_
    first
      | refine lo (lop_index_ro (E rfl) (E rfl) (fun hc => by simp only [List.length_map]; omega)) rfl ?_
      | refine lo (lop_index_own0 (E rfl) (by repeat (first
                                                        | exact sget_here
                                                        | refine sget_next (by (first
                                                                                  | assumption
                                                                                  | (apply Nq.en; assumption)
                                                                                  | omega
                                                                                  | (simp only [Nq] at *; omega))) ?_)) (E rfl) (fun hc => by omega)) rfl ?_
      | refine lo (lop_index_own (E rfl) (by repeat (first
                                                       | exact sget_here
                                                       | refine sget_next (by (first
                                                                                 | assumption
                                                                                 | (apply Nq.en; assumption)
                                                                                 | omega
                                                                                 | (simp only [Nq] at *; omega))) ?_)) (E rfl) (fun hc => by omega)) rfl ?_
    first
      | refine lo (lop_load_el (E rfl) rfl (fun hc => by first
                                                           | rfl
                                                           | exact get_map (by assumption)
                                                           | assumption
                                                           | exact get_map (at_bang (by omega))) (fun _ => rfl)) rfl ?_
      | refine lo (lop_load_ow (E rfl) rfl (by repeat (first
                                                         | exact sget_here
                                                         | refine sget_next (by (first
                                                                                   | assumption
                                                                                   | (apply Nq.en; assumption)
                                                                                   | omega
                                                                                   | (simp only [Nq] at *; omega))) ?_)) (fun hc => by first
                                                                                                                                         | rfl
                                                                                                                                         | exact get_map (by assumption)
                                                                                                                                         | assumption
                                                                                                                                         | exact get_map (at_bang (by omega))) (fun _ => rfl)) rfl ?_
    refine lo (lop_rem (E rfl) (E rfl) (fun _ => by first | decide | omega)) rfl ?_
    first | refine lo (lop_add64 (E rfl) (E rfl) (by omega) (by omega)) rfl ?_ | refine lo (lop_add (E rfl) (E rfl)) rfl ?_
    refine lo (lop_rem (E rfl) (E rfl) (fun _ => by first | decide | omega)) rfl ?_
    apply bs; (repeat (first
                         | exact AEvs.nil
                         | (apply AEvs.cons; rfl))); rfl; rfl; rfl; rfl; (first
                                                                            | (simp only [Value.cells, AV.cells, List.map_cons, List.map_nil, ofConst, ofCell]; rfl)
                                                                            | rfl); rfl; intro r76 h76; simp only [fresh_cons, fresh_nil, and_true] at h76; (repeat (rcases h76 with ⟨_, h76⟩))
    apply ap (es' := (F.take (j + 1)).map encI) (len' := j + 1); rfl; rfl; (repeat (first | exact sget_here | (apply sget_next; (first | assumption | (apply Nq.en; assumption) | omega | (simp only [Nq] at *; omega)))))
    · simp; omega
    · exact .inr (.inr ⟨_, _, _, _, _, rfl, (by repeat (first | exact sget_here | refine sget_next (by (first | assumption | (apply Nq.en; assumption) | omega | (simp only [Nq] at *; omega))) ?_)), by simp, rfl⟩)
    · rw [take_snoc hFx]; simp [encI, wrapK]
    · simp
    · simp [maxLen]; omega
    · omega
    · rfl
    intro r77 h77; simp (disch := (first
                                     | (simp only [List.mem_cons, List.not_mem_nil, true_or, or_true, or_false]; done)
                                     | (focus (simp only [List.mem_cons, List.not_mem_nil, or_false, not_or]; (repeat' (first
                                                                                                                          | apply And.intro
                                                                                                                          | (first
                                                                                                                               | assumption
                                                                                                                               | (apply Nq.en; assumption)
                                                                                                                               | omega
                                                                                                                               | (simp only [Nq] at *; omega)))); done))
                                     | omega)) only [fresh_cons, fresh_nil, and_true, sdrop_none, sdrop_nil, sdrop_in, sdrop_out] at h77; (repeat (rcases h77 with ⟨_, h77⟩)); apply Exists.intro; apply And.intro; (repeat (first
                                                                                                                                                                                                                               | (apply SSet.here; (repeat (first
                                                                                                                                                                                                                                                              | exact Fresh.nil
                                                                                                                                                                                                                                                              | (apply Fresh.cons; (first
                                                                                                                                                                                                                                                                                      | assumption
                                                                                                                                                                                                                                                                                      | (apply Nq.en; assumption)
                                                                                                                                                                                                                                                                                      | omega
                                                                                                                                                                                                                                                                                      | (simp only [Nq] at *; omega))))))
                                                                                                                                                                                                                               | (apply SSet.next; (first
                                                                                                                                                                                                                                                      | assumption
                                                                                                                                                                                                                                                      | (apply Nq.en; assumption)
                                                                                                                                                                                                                                                      | omega
                                                                                                                                                                                                                                                      | (simp only [Nq] at *; omega)))))
    refine lo (lop_assign (E rfl)) rfl ?_
    apply le; (repeat (first | (apply KeepIs.take; rfl) | (apply KeepIs.skip; rfl) | exact KeepIs.nil))
    (repeat (first | refine cs ?_ | refine cb ?_ | refine ck ?_ | refine cx ?_ | refine cr ?_ | refine an ?_ | refine ae ?_ | refine ar ?_ | refine bn ?_ | refine bh ?_ | refine be rfl ?_ | refine br ?_ | refine ct rfl ?_ | refine cf rfl ?_))
    have hFx' : (F.take (j + 1))[j]? = some (wrapK x) := by rw [List.getElem?_take, if_pos (by omega)]; exact hFx
    have hln : (setT base A (F.take j)).length = k := by rw [setT_len]; exact hbl
    obtain ⟨z, hz⟩ := setT_at (tb := base) (F := F) (A := A) (k := j) (by omega) hjl
    first | refine sw_seq_region ?_ | refine sw_region ?_
    refine lo (lop_move (E rfl)) rfl ?_
    refine lo (lop_move (E rfl)) rfl ?_
    refine lo (lop_move (E rfl)) rfl ?_
    first | refine lo (lop_add64 (E rfl) (E rfl) (by omega) (by omega)) rfl ?_ | refine lo (lop_add (E rfl) (E rfl)) rfl ?_
    refine lo (lop_move (E rfl)) rfl ?_
    refine lo (lop_move (E rfl)) rfl ?_
    first
      | refine lo (lop_index_ro (E rfl) (E rfl) (fun hc => by simp only [List.length_map]; omega)) rfl ?_
      | refine lo (lop_index_own0 (E rfl) (by repeat (first
                                                        | exact sget_here
                                                        | refine sget_next (by (first
                                                                                  | assumption
                                                                                  | (apply Nq.en; assumption)
                                                                                  | omega
                                                                                  | (simp only [Nq] at *; omega))) ?_)) (E rfl) (fun hc => by omega)) rfl ?_
      | refine lo (lop_index_own (E rfl) (by repeat (first
                                                       | exact sget_here
                                                       | refine sget_next (by (first
                                                                                 | assumption
                                                                                 | (apply Nq.en; assumption)
                                                                                 | omega
                                                                                 | (simp only [Nq] at *; omega))) ?_)) (E rfl) (fun hc => by omega)) rfl ?_
    first
      | refine lo (lop_load_el (E rfl) rfl (fun hc => by first
                                                           | rfl
                                                           | exact get_map (by assumption)
                                                           | assumption
                                                           | exact get_map (at_bang (by omega))) (fun _ => rfl)) rfl ?_
      | refine lo (lop_load_ow (E rfl) rfl (by repeat (first
                                                         | exact sget_here
                                                         | refine sget_next (by (first
                                                                                   | assumption
                                                                                   | (apply Nq.en; assumption)
                                                                                   | omega
                                                                                   | (simp only [Nq] at *; omega))) ?_)) (fun hc => by first
                                                                                                                                         | rfl
                                                                                                                                         | exact get_map (by assumption)
                                                                                                                                         | assumption
                                                                                                                                         | exact get_map (at_bang (by omega))) (fun _ => rfl)) rfl ?_
    first
      | refine lo (lop_index_ro (E rfl) (E rfl) (fun hc => by simp only [List.length_map]; omega)) rfl ?_
      | refine lo (lop_index_own0 (E rfl) (by repeat (first
                                                        | exact sget_here
                                                        | refine sget_next (by (first
                                                                                  | assumption
                                                                                  | (apply Nq.en; assumption)
                                                                                  | omega
                                                                                  | (simp only [Nq] at *; omega))) ?_)) (E rfl) (fun hc => by omega)) rfl ?_
      | refine lo (lop_index_own (E rfl) (by repeat (first
                                                       | exact sget_here
                                                       | refine sget_next (by (first
                                                                                 | assumption
                                                                                 | (apply Nq.en; assumption)
                                                                                 | omega
                                                                                 | (simp only [Nq] at *; omega))) ?_)) (E rfl) (fun hc => by omega)) rfl ?_
    apply sto; rfl; rfl; rfl; rfl; (repeat (first
                                              | (apply SSet.here; (repeat (first
                                                                             | exact Fresh.nil
                                                                             | (apply Fresh.cons; (first
                                                                                                     | assumption
                                                                                                     | (apply Nq.en; assumption)
                                                                                                     | omega
                                                                                                     | (simp only [Nq] at *; omega))))))
                                              | (apply SSet.next; (first
                                                                     | assumption
                                                                     | (apply Nq.en; assumption)
                                                                     | omega
                                                                     | (simp only [Nq] at *; omega))))); (first
                                                                                                            | rfl
                                                                                                            | exact get_map (by assumption)
                                                                                                            | assumption); (repeat (first
                                                                                                                                      | exact Put.done
                                                                                                                                      | apply Put.put
                                                                                                                                      | apply Put.skip)); rfl
    apply le; (repeat (first | (apply KeepIs.take; rfl) | (apply KeepIs.skip; rfl) | exact KeepIs.nil))
    (repeat (first | refine cs ?_ | refine cb ?_ | refine ck ?_ | refine cx ?_ | refine cr ?_ | refine an ?_ | refine ae ?_ | refine ar ?_ | refine bn ?_ | refine bh ?_ | refine be rfl ?_ | refine br ?_ | refine ct rfl ?_ | refine cf rfl ?_))
    first | refine sw_seq_region ?_ | refine sw_region ?_
    refine lo (lop_move (E rfl)) rfl ?_
    first | refine lo (lop_add64 (E rfl) (E rfl) (by omega) (by omega)) rfl ?_ | refine lo (lop_add (E rfl) (E rfl)) rfl ?_
    refine lo (lop_assign (E rfl)) rfl ?_
    apply le; (repeat (first | (apply KeepIs.take; rfl) | (apply KeepIs.skip; rfl) | exact KeepIs.nil))
    (repeat (first | refine cs ?_ | refine cb ?_ | refine ck ?_ | refine cx ?_ | refine cr ?_ | refine an ?_ | refine ae ?_ | refine ar ?_ | refine bn ?_ | refine bh ?_ | refine be rfl ?_ | refine br ?_ | refine ct rfl ?_ | refine cf rfl ?_))
    refine ⟨(r77, j + 1), ⟨by show Nq r77 r45; (first | assumption | (apply Nq.en; assumption) | omega | (simp only [Nq] at *; omega)), by show A + (j + 1) ≤ k; omega, by show j + 1 ≤ F.length; have := (List.getElem?_eq_some_iff.1 hFx).1; omega⟩, by show k - (j + 1) < k - j; omega, ?_⟩
    rw [show ((A : Int) + j).toNat = A + j by omega, set_encI, setT_step (by omega) hFx]
    (refine sgo_st ?_ ?_ <;> (repeat (first
                                        | exact FrLe.nil
                                        | (apply FrLe.cons; rfl; first
                                                                   | exact VLe.refl _
                                                                   | exact VLe.any
                                                                   | exact VLe.empty
                                                                   | exact VLe.of_eq (by simp)
                                                                   | exact VLe.of_eq (by congr 1; omega))
                                        | exact StLe.nil
                                        | (apply StLe.cons; (repeat (first
                                                                       | exact List.mem_cons_self
                                                                       | apply List.mem_cons_of_mem)); first
                                                                                                         | rfl
                                                                                                         | focus (congr 1; done)
                                                                                                         | focus (simp; done)
                                                                                                         | (simp; rfl)))))
  have hl1 : (F.take j).length = j := by simp; omega
  obtain ⟨F1, hF1⟩ : ∃ F1, F1 = F.take j := ⟨_, rfl⟩
  rw [← hF1] at hl1 ⊢
  subst hl1
  have hbl2 : (setT base A F1).length = k := by rw [setT_len]; exact hbl
  obtain ⟨base2, hb2⟩ : ∃ base2, base2 = setT base A F1 := ⟨_, rfl⟩
  rw [← hb2] at hbl2 ⊢
  (repeat (first | refine cs ?_ | refine cb ?_ | refine ck ?_ | refine cx ?_ | refine cr ?_ | refine an ?_ | refine ae ?_ | refine ar ?_ | refine bn ?_ | refine bh ?_ | refine be rfl ?_ | refine br ?_ | refine ct rfl ?_ | refine cf rfl ?_))
  first | refine sw_seq_region ?_ | refine sw_region ?_
  refine lo (lop_assign (E rfl)) rfl ?_
  apply le; (repeat (first | (apply KeepIs.take; rfl) | (apply KeepIs.skip; rfl) | exact KeepIs.nil))
  (repeat (first | refine cs ?_ | refine cb ?_ | refine ck ?_ | refine cx ?_ | refine cr ?_ | refine an ?_ | refine ae ?_ | refine ar ?_ | refine bn ?_ | refine bh ?_ | refine be rfl ?_ | refine br ?_ | refine ct rfl ?_ | refine cf rfl ?_))
  refine sw_virt (ks := [0, 1, 2, 3, 4, 10, 11, 12, 13, 14, 15, 16, 17, 18, 19, 20, 23, 37, 47, 48, 49, 65, 97, 144, 150, 152, 153, 154]) 15 3 1 (by decide) rfl (by decide) fun q2 hq2 => ?_
  simp only [fresh_cons, fresh_nil, and_true] at hq2; (repeat (rcases hq2 with ⟨_, hq2⟩))
  refine lp (β := Nat × Nat) (fun b => ⟨[(0, .int .i64 k), (1, .int .i64 A), (2, .int .i64 B), (4, .ro 1 (gs.map encI) .any), (12, .own r45 0 k), (14, .own f 0 F1.length), (15, .own b.1 0 b.2), (17, .int .i64 b.2)],
    [(b.1, .arr 3 1 ((G.take b.2).map encI)), (r45, .arr 3 1 ((setT base2 B (G.take b.2)).map encI)), (f, .arr 3 1 (F1.map encI))]⟩) (fun b => (Nq b.1 r45 ∧ Nq b.1 f) ∧ B + b.2 ≤ k ∧ b.2 ≤ G.length) (fun b => k - b.2) (q2, 0) ?_ ⟨⟨by show Nq q2 r45; (first
                                                                                                                                                                                                                                                             | assumption
                                                                                                                                                                                                                                                             | (apply Nq.en; assumption)
                                                                                                                                                                                                                                                             | omega
                                                                                                                                                                                                                                                             | (simp only [Nq] at *; omega)), by show Nq q2 f; (first
                                                                                                                                                                                                                                                                                                                  | assumption
                                                                                                                                                                                                                                                                                                                  | (apply Nq.en; assumption)
                                                                                                                                                                                                                                                                                                                  | omega
                                                                                                                                                                                                                                                                                                                  | (simp only [Nq] at *; omega))⟩, by show B + 0 ≤ k; omega, Nat.zero_le _⟩ ?_
  · rw [show base2.map encI = (setT base2 B (G.take 0)).map encI by simp [setT]]
    (refine sgo_st ?_ ?_ <;> (repeat (first
                                        | exact FrLe.nil
                                        | (apply FrLe.cons; rfl; first
                                                                   | exact VLe.refl _
                                                                   | exact VLe.any
                                                                   | exact VLe.empty
                                                                   | exact VLe.of_eq (by simp)
                                                                   | exact VLe.of_eq (by congr 1; omega))
                                        | exact StLe.nil
                                        | (apply StLe.cons; (repeat (first
                                                                       | exact List.mem_cons_self
                                                                       | apply List.mem_cons_of_mem)); first
                                                                                                         | rfl
                                                                                                         | focus (congr 1; done)
                                                                                                         | focus (simp; done)
                                                                                                         | (simp; rfl)))))
  rintro ⟨g, j⟩ ⟨⟨hg1, hg2⟩, hj', hjl'⟩
  simp only at hg1 hg2 hj' hjl' ⊢
  (repeat (first | refine cs ?_ | refine cb ?_ | refine ck ?_ | refine cx ?_ | refine cr ?_ | refine an ?_ | refine ae ?_ | refine ar ?_ | refine bn ?_ | refine bh ?_ | refine be rfl ?_ | refine br ?_ | refine ct rfl ?_ | refine cf rfl ?_))
  first | refine sw_seq_region ?_ | refine sw_region ?_
  refine lo (lop_move (E rfl)) rfl ?_
  refine lo (lop_move (E rfl)) rfl ?_
  first | refine lo (lop_len_map (E rfl)) rfl ?_ | refine lo (lop_len_ro (E rfl)) rfl ?_ | refine lo (lop_len_own (E rfl)) rfl ?_
  refine lo (lop_lss (E rfl) (E rfl)) rfl ?_
  refine lo (lop_move (E rfl)) rfl ?_
  first | refine ln rfl rfl rfl rfl ?_ | refine lg rfl rfl (lop_move (E rfl)) rfl ?_
  first | refine ln rfl rfl rfl rfl ?_ | refine lg rfl rfl (lop_move (E rfl)) rfl ?_
  first | refine ln rfl rfl rfl rfl ?_ | refine lg rfl rfl (lop_add64 (W rfl id) (W rfl id) (by omega) (by omega)) rfl ?_ | refine lg rfl rfl (lop_add (W rfl id) (W rfl id)) rfl ?_
  first | refine ln rfl rfl rfl rfl ?_ | refine lg rfl rfl (lop_move (E rfl)) rfl ?_
  first | refine ln rfl rfl rfl rfl ?_ | refine lg rfl rfl (lop_lss (W rfl id) (W rfl id)) rfl ?_
  first | refine lo (lop_pick_t (E rfl) (W rfl (by simp))) rfl ?_ | refine lo (lop_pick_f (E rfl) (E rfl)) rfl ?_ | refine lo (lop_pick (E rfl) (W rfl (by simp)) (E rfl)) rfl ?_
  apply le; (repeat (first | (apply KeepIs.take; rfl) | (apply KeepIs.skip; rfl) | exact KeepIs.nil))
  (repeat (first | refine cs ?_ | refine cb ?_ | refine ck ?_ | refine cx ?_ | refine cr ?_ | refine an ?_ | refine ae ?_ | refine ar ?_ | refine bn ?_ | refine bh ?_ | refine be rfl ?_ | refine br ?_ | refine ct rfl ?_ | refine cf rfl ?_))
  refine sw_cond rfl (fun h2 => ?_) (fun h2 => ?_)
  · have hlt : j < gs.length ∧ B + j < k := by simp at h2; omega
    obtain ⟨x, hx⟩ : ∃ x, gs[j]? = some x := ⟨_, List.getElem?_eq_getElem hlt.1⟩
    have hFx : G[j]? = some (wrapK x) := by rw [hG, List.getElem?_map, hx]; rfl
    have hw := wrapK_bd x
    (repeat (first | refine cs ?_ | refine cb ?_ | refine ck ?_ | refine cx ?_ | refine cr ?_ | refine an ?_ | refine ae ?_ | refine ar ?_ | refine bn ?_ | refine bh ?_ | refine be rfl ?_ | refine br ?_ | refine ct rfl ?_ | refine cf rfl ?_))
    first | refine sw_seq_region ?_ | refine sw_region ?_
    refine lo (lop_move (E rfl)) rfl ?_
    refine lo (lop_move (E rfl)) rfl ?_
    refine lo (lop_move (E rfl)) rfl ?_
    first
      | refine lo (lop_index_ro (E rfl) (E rfl) (fun hc => by simp only [List.length_map]; omega)) rfl ?_
      | refine lo (lop_index_own0 (E rfl) (by repeat (first
                                                        | exact sget_here
                                                        | refine sget_next (by (first
                                                                                  | assumption
                                                                                  | (apply Nq.en; assumption)
                                                                                  | omega
                                                                                  | (simp only [Nq] at *; omega))) ?_)) (E rfl) (fun hc => by omega)) rfl ?_
      | refine lo (lop_index_own (E rfl) (by repeat (first
                                                       | exact sget_here
                                                       | refine sget_next (by (first
                                                                                 | assumption
                                                                                 | (apply Nq.en; assumption)
                                                                                 | omega
                                                                                 | (simp only [Nq] at *; omega))) ?_)) (E rfl) (fun hc => by omega)) rfl ?_
    first
      | refine lo (lop_load_el (E rfl) rfl (fun hc => by first
                                                           | rfl
                                                           | exact get_map (by assumption)
                                                           | assumption
                                                           | exact get_map (at_bang (by omega))) (fun _ => rfl)) rfl ?_
      | refine lo (lop_load_ow (E rfl) rfl (by repeat (first
                                                         | exact sget_here
                                                         | refine sget_next (by (first
                                                                                   | assumption
                                                                                   | (apply Nq.en; assumption)
                                                                                   | omega
                                                                                   | (simp only [Nq] at *; omega))) ?_)) (fun hc => by first
                                                                                                                                         | rfl
                                                                                                                                         | exact get_map (by assumption)
                                                                                                                                         | assumption
                                                                                                                                         | exact get_map (at_bang (by omega))) (fun _ => rfl)) rfl ?_
    refine lo (lop_rem (E rfl) (E rfl) (fun _ => by first | decide | omega)) rfl ?_
    first | refine lo (lop_add64 (E rfl) (E rfl) (by omega) (by omega)) rfl ?_ | refine lo (lop_add (E rfl) (E rfl)) rfl ?_
    refine lo (lop_rem (E rfl) (E rfl) (fun _ => by first | decide | omega)) rfl ?_
    apply bs; (repeat (first
                         | exact AEvs.nil
                         | (apply AEvs.cons; rfl))); rfl; rfl; rfl; rfl; (first
                                                                            | (simp only [Value.cells, AV.cells, List.map_cons, List.map_nil, ofConst, ofCell]; rfl)
                                                                            | rfl); rfl; intro r108 h108; simp only [fresh_cons, fresh_nil, and_true] at h108; (repeat (rcases h108 with ⟨_, h108⟩))
    apply ap (es' := (G.take (j + 1)).map encI) (len' := j + 1); rfl; rfl; (repeat (first | exact sget_here | (apply sget_next; (first | assumption | (apply Nq.en; assumption) | omega | (simp only [Nq] at *; omega)))))
    · simp; omega
    · exact .inr (.inr ⟨_, _, _, _, _, rfl, (by repeat (first | exact sget_here | refine sget_next (by (first | assumption | (apply Nq.en; assumption) | omega | (simp only [Nq] at *; omega))) ?_)), by simp, rfl⟩)
    · rw [take_snoc hFx]; simp [encI, wrapK]
    · simp
    · simp [maxLen]; omega
    · omega
    · rfl
    intro r109 h109; simp (disch := (first
                                       | (simp only [List.mem_cons, List.not_mem_nil, true_or, or_true, or_false]; done)
                                       | (focus (simp only [List.mem_cons, List.not_mem_nil, or_false, not_or]; (repeat' (first
                                                                                                                            | apply And.intro
                                                                                                                            | (first
                                                                                                                                 | assumption
                                                                                                                                 | (apply Nq.en; assumption)
                                                                                                                                 | omega
                                                                                                                                 | (simp only [Nq] at *; omega)))); done))
                                       | omega)) only [fresh_cons, fresh_nil, and_true, sdrop_none, sdrop_nil, sdrop_in, sdrop_out] at h109; (repeat (rcases h109 with ⟨_, h109⟩)); apply Exists.intro; apply And.intro; (repeat (first
                                                                                                                                                                                                                                    | (apply SSet.here; (repeat (first
                                                                                                                                                                                                                                                                   | exact Fresh.nil
                                                                                                                                                                                                                                                                   | (apply Fresh.cons; (first
                                                                                                                                                                                                                                                                                           | assumption
                                                                                                                                                                                                                                                                                           | (apply Nq.en; assumption)
                                                                                                                                                                                                                                                                                           | omega
                                                                                                                                                                                                                                                                                           | (simp only [Nq] at *; omega))))))
                                                                                                                                                                                                                                    | (apply SSet.next; (first
                                                                                                                                                                                                                                                           | assumption
                                                                                                                                                                                                                                                           | (apply Nq.en; assumption)
                                                                                                                                                                                                                                                           | omega
                                                                                                                                                                                                                                                           | (simp only [Nq] at *; omega)))))
    refine lo (lop_assign (E rfl)) rfl ?_
    apply le; (repeat (first | (apply KeepIs.take; rfl) | (apply KeepIs.skip; rfl) | exact KeepIs.nil))
    (repeat (first | refine cs ?_ | refine cb ?_ | refine ck ?_ | refine cx ?_ | refine cr ?_ | refine an ?_ | refine ae ?_ | refine ar ?_ | refine bn ?_ | refine bh ?_ | refine be rfl ?_ | refine br ?_ | refine ct rfl ?_ | refine cf rfl ?_))
    have hFx' : (G.take (j + 1))[j]? = some (wrapK x) := by rw [List.getElem?_take, if_pos (by omega)]; exact hFx
    have hln : (setT base2 B (G.take j)).length = k := by rw [setT_len]; exact hbl2
    obtain ⟨z, hz⟩ := setT_at (tb := base2) (F := G) (A := B) (k := j) (by omega) hjl'
    first | refine sw_seq_region ?_ | refine sw_region ?_
    refine lo (lop_move (E rfl)) rfl ?_
    refine lo (lop_move (E rfl)) rfl ?_
    refine lo (lop_move (E rfl)) rfl ?_
    first | refine lo (lop_add64 (E rfl) (E rfl) (by omega) (by omega)) rfl ?_ | refine lo (lop_add (E rfl) (E rfl)) rfl ?_
    refine lo (lop_move (E rfl)) rfl ?_
    refine lo (lop_move (E rfl)) rfl ?_
    first
      | refine lo (lop_index_ro (E rfl) (E rfl) (fun hc => by simp only [List.length_map]; omega)) rfl ?_
      | refine lo (lop_index_own0 (E rfl) (by repeat (first
                                                        | exact sget_here
                                                        | refine sget_next (by (first
                                                                                  | assumption
                                                                                  | (apply Nq.en; assumption)
                                                                                  | omega
                                                                                  | (simp only [Nq] at *; omega))) ?_)) (E rfl) (fun hc => by omega)) rfl ?_
      | refine lo (lop_index_own (E rfl) (by repeat (first
                                                       | exact sget_here
                                                       | refine sget_next (by (first
                                                                                 | assumption
                                                                                 | (apply Nq.en; assumption)
                                                                                 | omega
                                                                                 | (simp only [Nq] at *; omega))) ?_)) (E rfl) (fun hc => by omega)) rfl ?_
    first
      | refine lo (lop_load_el (E rfl) rfl (fun hc => by first
                                                           | rfl
                                                           | exact get_map (by assumption)
                                                           | assumption
                                                           | exact get_map (at_bang (by omega))) (fun _ => rfl)) rfl ?_
      | refine lo (lop_load_ow (E rfl) rfl (by repeat (first
                                                         | exact sget_here
                                                         | refine sget_next (by (first
                                                                                   | assumption
                                                                                   | (apply Nq.en; assumption)
                                                                                   | omega
                                                                                   | (simp only [Nq] at *; omega))) ?_)) (fun hc => by first
                                                                                                                                         | rfl
                                                                                                                                         | exact get_map (by assumption)
                                                                                                                                         | assumption
                                                                                                                                         | exact get_map (at_bang (by omega))) (fun _ => rfl)) rfl ?_
    first
      | refine lo (lop_index_ro (E rfl) (E rfl) (fun hc => by simp only [List.length_map]; omega)) rfl ?_
      | refine lo (lop_index_own0 (E rfl) (by repeat (first
                                                        | exact sget_here
                                                        | refine sget_next (by (first
                                                                                  | assumption
                                                                                  | (apply Nq.en; assumption)
                                                                                  | omega
                                                                                  | (simp only [Nq] at *; omega))) ?_)) (E rfl) (fun hc => by omega)) rfl ?_
      | refine lo (lop_index_own (E rfl) (by repeat (first
                                                       | exact sget_here
                                                       | refine sget_next (by (first
                                                                                 | assumption
                                                                                 | (apply Nq.en; assumption)
                                                                                 | omega
                                                                                 | (simp only [Nq] at *; omega))) ?_)) (E rfl) (fun hc => by omega)) rfl ?_
    apply sto; rfl; rfl; rfl; rfl; (repeat (first
                                              | (apply SSet.here; (repeat (first
                                                                             | exact Fresh.nil
                                                                             | (apply Fresh.cons; (first
                                                                                                     | assumption
                                                                                                     | (apply Nq.en; assumption)
                                                                                                     | omega
                                                                                                     | (simp only [Nq] at *; omega))))))
                                              | (apply SSet.next; (first
                                                                     | assumption
                                                                     | (apply Nq.en; assumption)
                                                                     | omega
                                                                     | (simp only [Nq] at *; omega))))); (first
                                                                                                            | rfl
                                                                                                            | exact get_map (by assumption)
                                                                                                            | assumption); (repeat (first
                                                                                                                                      | exact Put.done
                                                                                                                                      | apply Put.put
                                                                                                                                      | apply Put.skip)); rfl
    apply le; (repeat (first | (apply KeepIs.take; rfl) | (apply KeepIs.skip; rfl) | exact KeepIs.nil))
    (repeat (first | refine cs ?_ | refine cb ?_ | refine ck ?_ | refine cx ?_ | refine cr ?_ | refine an ?_ | refine ae ?_ | refine ar ?_ | refine bn ?_ | refine bh ?_ | refine be rfl ?_ | refine br ?_ | refine ct rfl ?_ | refine cf rfl ?_))
    first | refine sw_seq_region ?_ | refine sw_region ?_
    refine lo (lop_move (E rfl)) rfl ?_
    first | refine lo (lop_add64 (E rfl) (E rfl) (by omega) (by omega)) rfl ?_ | refine lo (lop_add (E rfl) (E rfl)) rfl ?_
    refine lo (lop_assign (E rfl)) rfl ?_
    apply le; (repeat (first | (apply KeepIs.take; rfl) | (apply KeepIs.skip; rfl) | exact KeepIs.nil))
    (repeat (first | refine cs ?_ | refine cb ?_ | refine ck ?_ | refine cx ?_ | refine cr ?_ | refine an ?_ | refine ae ?_ | refine ar ?_ | refine bn ?_ | refine bh ?_ | refine be rfl ?_ | refine br ?_ | refine ct rfl ?_ | refine cf rfl ?_))
    refine ⟨(r109, j + 1), ⟨⟨by show Nq r109 r45; (first
                                                     | assumption
                                                     | (apply Nq.en; assumption)
                                                     | omega
                                                     | (simp only [Nq] at *; omega)), by show Nq r109 f; (first
                                                                                                            | assumption
                                                                                                            | (apply Nq.en; assumption)
                                                                                                            | omega
                                                                                                            | (simp only [Nq] at *; omega))⟩, by show B + (j + 1) ≤ k; omega, by show j + 1 ≤ G.length; have := (List.getElem?_eq_some_iff.1 hFx).1; omega⟩, by show k - (j + 1) < k - j; omega, ?_⟩
    rw [show ((B : Int) + j).toNat = B + j by omega, set_encI, setT_step (by omega) hFx]
    (refine sgo_st ?_ ?_ <;> (repeat (first
                                        | exact FrLe.nil
                                        | (apply FrLe.cons; rfl; first
                                                                   | exact VLe.refl _
                                                                   | exact VLe.any
                                                                   | exact VLe.empty
                                                                   | exact VLe.of_eq (by simp)
                                                                   | exact VLe.of_eq (by congr 1; omega))
                                        | exact StLe.nil
                                        | (apply StLe.cons; (repeat (first
                                                                       | exact List.mem_cons_self
                                                                       | apply List.mem_cons_of_mem)); first
                                                                                                         | rfl
                                                                                                         | focus (congr 1; done)
                                                                                                         | focus (simp; done)
                                                                                                         | (simp; rfl)))))
  have hl1 : (G.take j).length = j := by simp; omega
  obtain ⟨G1, hG1⟩ : ∃ G1, G1 = G.take j := ⟨_, rfl⟩
  rw [← hG1] at hl1 ⊢
  subst hl1
  have hbl3 : (setT base2 B G1).length = k := by rw [setT_len]; exact hbl2
  obtain ⟨want, hw⟩ : ∃ want, want = setT base2 B G1 := ⟨_, rfl⟩
  rw [← hw] at hbl3 ⊢
  (repeat (first | refine cs ?_ | refine cb ?_ | refine ck ?_ | refine cx ?_ | refine cr ?_ | refine an ?_ | refine ae ?_ | refine ar ?_ | refine bn ?_ | refine bh ?_ | refine be rfl ?_ | refine br ?_ | refine ct rfl ?_ | refine cf rfl ?_))
  first | refine sw_seq_region ?_ | refine sw_region ?_
  refine lo (lop_move (E rfl)) rfl ?_
  refine lo (lop_str (by repeat (first
                                   | exact PEvs.nil
                                   | (apply PEvs.cons; first
                                                         | exact W rfl id
                                                         | exact E rfl))) (by (first
                                                                                 | (simp only [Value.cells, AV.cells, List.map_cons, List.map_nil, ofConst, ofCell]; rfl)
                                                                                 | rfl)) (by repeat (first
                                                                                                       | exact Fill.nil
                                                                                                       | (apply Fill.cons; rfl; rfl; rfl; (repeat (first
                                                                                                                                                     | exact Put.done
                                                                                                                                                     | apply Put.put
                                                                                                                                                     | apply Put.skip)))))) rfl ?_
  refine lo (lop_str (by repeat (first
                                   | exact PEvs.nil
                                   | (apply PEvs.cons; first
                                                         | exact W rfl id
                                                         | exact E rfl))) (by (first
                                                                                 | (simp only [Value.cells, AV.cells, List.map_cons, List.map_nil, ofConst, ofCell]; rfl)
                                                                                 | rfl)) (by repeat (first
                                                                                                       | exact Fill.nil
                                                                                                       | (apply Fill.cons; rfl; rfl; rfl; (repeat (first
                                                                                                                                                     | exact Put.done
                                                                                                                                                     | apply Put.put
                                                                                                                                                     | apply Put.skip)))))) rfl ?_
  refine cl [] Try.call14 (space_new true k (by omega) (-1) [] (by decide)) rfl ?_ ?_ ?_
  · (repeat (first
               | exact ArgsBor.nil
               | (apply ArgsBor.cons; rfl; (first
                                              | exact Bor.refl _
                                              | exact Bor.le VLe.any
                                              | exact Bor.le VLe.empty
                                              | (apply bown; (repeat (first
                                                                        | exact List.mem_cons_self
                                                                        | apply List.mem_cons_of_mem)); (repeat (first
                                                                                                                   | exact sget_here
                                                                                                                   | (apply sget_next; (first
                                                                                                                                          | assumption
                                                                                                                                          | (apply Nq.en; assumption)
                                                                                                                                          | omega
                                                                                                                                          | (simp only [Nq] at *; omega))))); (first
                                                                                                                                                                                 | focus (simp; done)
                                                                                                                                                                                 | omega
                                                                                                                                                                                 | focus (simp; omega)); (first
                                                                                                                                                                                                            | rfl
                                                                                                                                                                                                            | focus (simp; done)
                                                                                                                                                                                                            | focus (exact List.take_of_length_le (by first
                                                                                                                                                                                                                                                        | (simp; done)
                                                                                                                                                                                                                                                        | (simp; omega)))))
                                              | focus (apply bagg; (repeat (first
                                                                              | exact BorL.nil
                                                                              | (apply BorL.cons; (first
                                                                                                     | exact Bor.refl _
                                                                                                     | exact Bor.le VLe.any
                                                                                                     | exact Bor.le VLe.empty
                                                                                                     | (apply bown; (repeat (first
                                                                                                                               | exact List.mem_cons_self
                                                                                                                               | apply List.mem_cons_of_mem)); (repeat (first
                                                                                                                                                                          | exact sget_here
                                                                                                                                                                          | (apply sget_next; (first
                                                                                                                                                                                                 | assumption
                                                                                                                                                                                                 | (apply Nq.en; assumption)
                                                                                                                                                                                                 | omega
                                                                                                                                                                                                 | (simp only [Nq] at *; omega))))); (first
                                                                                                                                                                                                                                        | focus (simp; done)
                                                                                                                                                                                                                                        | omega); (first
                                                                                                                                                                                                                                                     | rfl
                                                                                                                                                                                                                                                     | focus (simp; done)))
                                                                                                     | focus (apply Bor.le; apply VLe.of_eq; simp; done))))); done)
                                              | focus (apply Bor.le; apply VLe.of_eq; simp; done)))))
  · rintro x σ' ⟨s, t, g', _, rfl, rfl⟩
    refine ⟨NoF.ptr, ?_⟩
    simp only [List.mem_cons, List.not_mem_nil, or_false, forall_eq_or_imp, forall_eq]
    refine ⟨nofl_cons NoF.own (nofl_cons NoF.own nofl_nil), rep_noF, ?_⟩
    intro e he x hx
    simp at he
  rintro x σ' ⟨s, t, v, ⟨h1', h2', h3'⟩, rfl, rfl⟩ hf
  simp only [List.mem_cons, List.mem_singleton, List.not_mem_nil, or_false, forall_eq_or_imp, forall_eq, fresh_cons, fresh_nil, and_true, and_assoc] at hf; (repeat (rcases hf with ⟨_, hf⟩))
  rw [if_pos rfl, show List.replicate k [AV.int .i64 (-1)] = base.map encI by rw [hbase]; simp [encI]]
  subst hbl
  (apply rs_sto; (first
                    | (simp (disch := (first
                                         | (simp only [List.mem_cons, List.not_mem_nil, true_or, or_true, or_false]; done)
                                         | (focus (simp only [List.mem_cons, List.not_mem_nil, or_false, not_or]; (repeat' (first
                                                                                                                              | apply And.intro
                                                                                                                              | (first
                                                                                                                                   | assumption
                                                                                                                                   | (apply Nq.en; assumption)
                                                                                                                                   | omega
                                                                                                                                   | (simp only [Nq] at *; omega)))); done))
                                         | omega)) only [↓put_σ, ↓mk_σ, AV.cells, sset, sdrop_none, sdrop_nil, sdrop_in, sdrop_out, List.nil_append, List.cons_append, List.append_nil, List.map_nil, List.map_cons, List.take_succ_cons, List.take_zero, List.drop_succ_cons, List.drop_zero, take_len', take_map_len, Nat.zero_add, Nat.add_zero, ofCell, ofConst]; rfl)
                    | rfl))
  refine lo (lop_assign (E rfl)) rfl ?_
  apply le; (repeat (first | (apply KeepIs.take; rfl) | (apply KeepIs.skip; rfl) | exact KeepIs.nil))
  (repeat (first | refine cs ?_ | refine cb ?_ | refine ck ?_ | refine cx ?_ | refine cr ?_ | refine an ?_ | refine ae ?_ | refine ar ?_ | refine bn ?_ | refine bh ?_ | refine be rfl ?_ | refine br ?_ | refine ct rfl ?_ | refine cf rfl ?_))
  apply fzs (i := 14) (es' := F1.map encI); rfl; (repeat (first
                                                            | (apply SDel.here; (repeat (first
                                                                                           | exact Fresh.nil
                                                                                           | (apply Fresh.cons; (first
                                                                                                                   | assumption
                                                                                                                   | (apply Nq.en; assumption)
                                                                                                                   | omega
                                                                                                                   | (simp only [Nq] at *; omega))))))
                                                            | (apply SDel.next; (first
                                                                                   | assumption
                                                                                   | (apply Nq.en; assumption)
                                                                                   | omega
                                                                                   | (simp only [Nq] at *; omega))))); (focus simp); exact List.take_of_length_le (by simp)
  apply fzs (i := 15) (es' := G1.map encI); rfl; (repeat (first
                                                            | (apply SDel.here; (repeat (first
                                                                                           | exact Fresh.nil
                                                                                           | (apply Fresh.cons; (first
                                                                                                                   | assumption
                                                                                                                   | (apply Nq.en; assumption)
                                                                                                                   | omega
                                                                                                                   | (simp only [Nq] at *; omega))))))
                                                            | (apply SDel.next; (first
                                                                                   | assumption
                                                                                   | (apply Nq.en; assumption)
                                                                                   | omega
                                                                                   | (simp only [Nq] at *; omega))))); (focus simp); exact List.take_of_length_le (by simp)
  first | refine sw_seq_region ?_ | refine sw_region ?_
  refine lo (lop_move (E rfl)) rfl ?_
  refine lo (lop_move (E rfl)) rfl ?_
  refine lo (lop_move (E rfl)) rfl ?_
  refine cw [(s, .box 78 [.own t 0 base.length, .own v 0 ([] : List (Int × Int)).length]), (t, .arr 3 1 (base.map encI)), (v, .arr 39 2 (([] : List (Int × Int)).map encV))] Try.call15 (space_setElems h1' h2' h3' base [] (by omega) A F1 (by omega)) rfl ?_ ?_ ?_
  · (repeat (first | exact ArgsLe.nil | (apply ArgsLe.cons; rfl; first | exact VLe.refl _ | exact VLe.when rfl | exact VLe.any | exact VLe.empty | exact VLe.of_eq (by simp))))
  · (first | exact no_mem | (apply StLe.mem; (repeat (first | exact StLe.nil | (apply StLe.cons; (repeat (first | exact List.mem_cons_self | apply List.mem_cons_of_mem)); first | rfl | focus (congr 1; done) | focus (simp; done) | (simp; rfl))))))
  rintro x σ' ⟨rfl, rfl⟩ -
  rw [show setB base A F1.length = true by simp [setB]; omega, ← hb2]
  (apply rs_sto; (first
                    | (simp (disch := (first
                                         | (simp only [List.mem_cons, List.not_mem_nil, true_or, or_true, or_false]; done)
                                         | (focus (simp only [List.mem_cons, List.not_mem_nil, or_false, not_or]; (repeat' (first
                                                                                                                              | apply And.intro
                                                                                                                              | (first
                                                                                                                                   | assumption
                                                                                                                                   | (apply Nq.en; assumption)
                                                                                                                                   | omega
                                                                                                                                   | (simp only [Nq] at *; omega)))); done))
                                         | omega)) only [↓put_σ, ↓mk_σ, AV.cells, sset, sdrop_none, sdrop_nil, sdrop_in, sdrop_out, List.nil_append, List.cons_append, List.append_nil, List.map_nil, List.map_cons, List.take_succ_cons, List.take_zero, List.drop_succ_cons, List.drop_zero, take_len', take_map_len, Nat.zero_add, Nat.add_zero, ofCell, ofConst]; rfl)
                    | rfl))
  refine lo (lop_not (E rfl)) rfl ?_
  refine lo (lop_move (E rfl)) rfl ?_
  first | refine ln rfl rfl rfl rfl ?_ | refine lg rfl rfl (lop_move (E rfl)) rfl ?_
  first | refine ln rfl rfl rfl rfl ?_ | refine lg rfl rfl (lop_move (E rfl)) rfl ?_
  first | refine ln rfl rfl rfl rfl ?_ | refine lg rfl rfl (lop_move (E rfl)) rfl ?_
  refine cwy [(s, .box 78 [.own t 0 base2.length, .own v 0 ([] : List (Int × Int)).length]), (t, .arr 3 1 (base2.map encI)), (v, .arr 39 2 (([] : List (Int × Int)).map encV))] rfl rfl Try.call15 (space_setElems h1' h2' h3' base2 [] (by omega) B G1 (by omega)) rfl ?_ ?_ ?_
  · (repeat (first | exact ArgsLe.nil | (apply ArgsLe.cons; rfl; first | exact VLe.refl _ | exact VLe.when rfl | exact VLe.any | exact VLe.empty | exact VLe.of_eq (by simp))))
  · (first | exact no_mem | (apply StLe.mem; (repeat (first | exact StLe.nil | (apply StLe.cons; (repeat (first | exact List.mem_cons_self | apply List.mem_cons_of_mem)); first | rfl | focus (congr 1; done) | focus (simp; done) | (simp; rfl))))))
  rintro x σ' ⟨rfl, rfl⟩ -
  rw [show setB base2 B G1.length = true by simp [setB]; omega, ← hw]
  (apply rs_sto; (first
                    | (simp (disch := (first
                                         | (simp only [List.mem_cons, List.not_mem_nil, true_or, or_true, or_false]; done)
                                         | (focus (simp only [List.mem_cons, List.not_mem_nil, or_false, not_or]; (repeat' (first
                                                                                                                              | apply And.intro
                                                                                                                              | (first
                                                                                                                                   | assumption
                                                                                                                                   | (apply Nq.en; assumption)
                                                                                                                                   | omega
                                                                                                                                   | (simp only [Nq] at *; omega)))); done))
                                         | omega)) only [↓put_σ, ↓mk_σ, AV.cells, sset, sdrop_none, sdrop_nil, sdrop_in, sdrop_out, List.nil_append, List.cons_append, List.append_nil, List.map_nil, List.map_cons, List.take_succ_cons, List.take_zero, List.drop_succ_cons, List.drop_zero, take_len', take_map_len, Nat.zero_add, Nat.add_zero, ofCell, ofConst]; rfl)
                    | rfl))
  first | refine ln rfl rfl rfl rfl ?_ | refine lg rfl rfl (lop_not (by first | exact W rfl id | exact E rfl)) rfl ?_
  first | refine lo (lop_pick_t (E rfl) (E rfl)) rfl ?_ | refine lo (lop_pick_f (E rfl) (W rfl (by simp))) rfl ?_ | refine lo (lop_pick (E rfl) (E rfl) (W rfl (by simp))) rfl ?_
  refine lo (lop_move (E rfl)) rfl ?_
  first | refine ln rfl rfl rfl rfl ?_ | refine lg rfl rfl (lop_move (E rfl)) rfl ?_
  first | refine ln rfl rfl rfl rfl ?_ | refine lg rfl rfl (lop_move (E rfl)) rfl ?_
  refine gy rfl rfl ?_; apply bs; (repeat (first
                                             | exact AEvs.nil
                                             | (apply AEvs.cons; rfl))); rfl; rfl; rfl; rfl; (first
                                                                                                | (simp only [Value.cells, AV.cells, List.map_cons, List.map_nil, ofConst, ofCell]; rfl)
                                                                                                | rfl); rfl; intro r138 h138; simp only [fresh_cons, fresh_nil, and_true] at h138; (repeat (rcases h138 with ⟨_, h138⟩))
  apply fz (i := 138) (es' := ([1] : List Int).map encI); rfl; (repeat (first
                                                                          | (apply SDel.here; (repeat (first
                                                                                                         | exact Fresh.nil
                                                                                                         | (apply Fresh.cons; (first
                                                                                                                                 | assumption
                                                                                                                                 | (apply Nq.en; assumption)
                                                                                                                                 | omega
                                                                                                                                 | (simp only [Nq] at *; omega))))))
                                                                          | (apply SDel.next; (first
                                                                                                 | assumption
                                                                                                 | (apply Nq.en; assumption)
                                                                                                 | omega
                                                                                                 | (simp only [Nq] at *; omega))))); (focus simp); rfl
  refine cwy [(s, .box 78 [.own t 0 want.length, .own v 0 ([] : List (Int × Int)).length]), (t, .arr 3 1 (want.map encI)), (v, .arr 39 2 (([] : List (Int × Int)).map encV))] rfl rfl Try.call15 (space_setElems h1' h2' h3' want [] (by omega) base.length [1] (by decide)) rfl ?_ ?_ ?_
  · (repeat (first | exact ArgsLe.nil | (apply ArgsLe.cons; rfl; first | exact VLe.refl _ | exact VLe.when rfl | exact VLe.any | exact VLe.empty | exact VLe.of_eq (by simp))))
  · (first | exact no_mem | (apply StLe.mem; (repeat (first | exact StLe.nil | (apply StLe.cons; (repeat (first | exact List.mem_cons_self | apply List.mem_cons_of_mem)); first | rfl | focus (congr 1; done) | focus (simp; done) | (simp; rfl))))))
  rintro x σ' ⟨rfl, rfl⟩ -
  have hno : setB want base.length ([1] : List Int).length = false := by simp [setB]; omega
  rw [hno, show setT want base.length [1] = want by simp only [setT, hno]; rfl]
  (apply rs_sto; (first
                    | (simp (disch := (first
                                         | (simp only [List.mem_cons, List.not_mem_nil, true_or, or_true, or_false]; done)
                                         | (focus (simp only [List.mem_cons, List.not_mem_nil, or_false, not_or]; (repeat' (first
                                                                                                                              | apply And.intro
                                                                                                                              | (first
                                                                                                                                   | assumption
                                                                                                                                   | (apply Nq.en; assumption)
                                                                                                                                   | omega
                                                                                                                                   | (simp only [Nq] at *; omega)))); done))
                                         | omega)) only [↓put_σ, ↓mk_σ, AV.cells, sset, sdrop_none, sdrop_nil, sdrop_in, sdrop_out, List.nil_append, List.cons_append, List.append_nil, List.map_nil, List.map_cons, List.take_succ_cons, List.take_zero, List.drop_succ_cons, List.drop_zero, take_len', take_map_len, Nat.zero_add, Nat.add_zero, ofCell, ofConst]; rfl)
                    | rfl))
  first | refine lo (lop_pick_t (E rfl) (E rfl)) rfl ?_ | refine lo (lop_pick_f (E rfl) (by first | exact W rfl (by simp) | exact E rfl)) rfl ?_ | refine lo (lop_pick (E rfl) (E rfl) (by first | exact W rfl (by simp) | exact E rfl)) rfl ?_
  refine lo (lop_move (E rfl)) rfl ?_
  first | refine ln rfl rfl rfl rfl ?_ | refine lg rfl rfl (lop_move (E rfl)) rfl ?_
  refine cwy [(s, .box 78 [.own t 0 want.length, .own v 0 ([] : List (Int × Int)).length]), (t, .arr 3 1 (want.map encI)), (v, .arr 39 2 (([] : List (Int × Int)).map encV))] rfl rfl Try.call15 (space_setElems h1' h2' h3' want [] (by omega) (-1) [] (by decide)) rfl ?_ ?_ ?_
  · (repeat (first | exact ArgsLe.nil | (apply ArgsLe.cons; rfl; first | exact VLe.refl _ | exact VLe.when rfl | exact VLe.any | exact VLe.empty | exact VLe.of_eq (by simp))))
  · (first | exact no_mem | (apply StLe.mem; (repeat (first | exact StLe.nil | (apply StLe.cons; (repeat (first | exact List.mem_cons_self | apply List.mem_cons_of_mem)); first | rfl | focus (congr 1; done) | focus (simp; done) | (simp; rfl))))))
  rintro x σ' ⟨rfl, rfl⟩ -
  have hno' : setB want (-1) ([] : List Int).length = false := rfl
  rw [hno', show setT want (-1) [] = want by simp only [setT, hno']; rfl]
  (apply rs_sto; (first
                    | (simp (disch := (first
                                         | (simp only [List.mem_cons, List.not_mem_nil, true_or, or_true, or_false]; done)
                                         | (focus (simp only [List.mem_cons, List.not_mem_nil, or_false, not_or]; (repeat' (first
                                                                                                                              | apply And.intro
                                                                                                                              | (first
                                                                                                                                   | assumption
                                                                                                                                   | (apply Nq.en; assumption)
                                                                                                                                   | omega
                                                                                                                                   | (simp only [Nq] at *; omega)))); done))
                                         | omega)) only [↓put_σ, ↓mk_σ, AV.cells, sset, sdrop_none, sdrop_nil, sdrop_in, sdrop_out, List.nil_append, List.cons_append, List.append_nil, List.map_nil, List.map_cons, List.take_succ_cons, List.take_zero, List.drop_succ_cons, List.drop_zero, take_len', take_map_len, Nat.zero_add, Nat.add_zero, ofCell, ofConst]; rfl)
                    | rfl))
  first | refine lo (lop_pick_t (E rfl) (E rfl)) rfl ?_ | refine lo (lop_pick_f (E rfl) (by first | exact W rfl (by simp) | exact E rfl)) rfl ?_ | refine lo (lop_pick (E rfl) (E rfl) (by first | exact W rfl (by simp) | exact E rfl)) rfl ?_
  apply le; (repeat (first | (apply KeepIs.take; rfl) | (apply KeepIs.skip; rfl) | exact KeepIs.nil))
  (repeat (first | refine cs ?_ | refine cb ?_ | refine ck ?_ | refine cx ?_ | refine cr ?_ | refine an ?_ | refine ae ?_ | refine ar ?_ | refine bn ?_ | refine bh ?_ | refine be rfl ?_ | refine br ?_ | refine ct rfl ?_ | refine cf rfl ?_))
  first | refine sw_seq_region ?_ | refine sw_region ?_
  refine lo (lop_move (E rfl)) rfl ?_
  refine cw [(s, .box 78 [.own t 0 want.length, .own v 0 ([] : List (Int × Int)).length]), (t, .arr 3 1 (want.map encI)), (v, .arr 39 2 (([] : List (Int × Int)).map encV))] Try.call19 (space_elems h1' want [] (by omega)) rfl ?_ ?_ ?_
  · (repeat (first | exact ArgsLe.nil | (apply ArgsLe.cons; rfl; first | exact VLe.refl _ | exact VLe.when rfl | exact VLe.any | exact VLe.empty | exact VLe.of_eq (by simp))))
  · (first | exact no_mem | (apply StLe.mem; (repeat (first | exact StLe.nil | (apply StLe.cons; (repeat (first | exact List.mem_cons_self | apply List.mem_cons_of_mem)); first | rfl | focus (congr 1; done) | focus (simp; done) | (simp; rfl))))))
  rintro x σ' ⟨l, ⟨l1, l2, l3⟩, rfl, rfl⟩ hl
  replace hl := (hl _ List.mem_cons_self).resolve_left (by simp only [List.mem_cons, List.not_mem_nil, or_false, exists_eq_or_imp, exists_eq_left, not_or]; (repeat' (first
                                                                                                                                                                        | apply And.intro
                                                                                                                                                                        | (first
                                                                                                                                                                             | assumption
                                                                                                                                                                             | (apply Nq.en; assumption)
                                                                                                                                                                             | omega
                                                                                                                                                                             | (simp only [Nq] at *; omega)))); done); simp only [fresh_cons, fresh_nil, and_true] at hl; (repeat (rcases hl with ⟨_, hl⟩))
  (apply rs_sto; (first
                    | (simp (disch := (first
                                         | (simp only [List.mem_cons, List.not_mem_nil, true_or, or_true, or_false]; done)
                                         | (focus (simp only [List.mem_cons, List.not_mem_nil, or_false, not_or]; (repeat' (first
                                                                                                                              | apply And.intro
                                                                                                                              | (first
                                                                                                                                   | assumption
                                                                                                                                   | (apply Nq.en; assumption)
                                                                                                                                   | omega
                                                                                                                                   | (simp only [Nq] at *; omega)))); done))
                                         | omega)) only [↓put_σ, ↓mk_σ, AV.cells, sset, sdrop_none, sdrop_nil, sdrop_in, sdrop_out, List.nil_append, List.cons_append, List.append_nil, List.map_nil, List.map_cons, List.take_succ_cons, List.take_zero, List.drop_succ_cons, List.drop_zero, take_len', take_map_len, Nat.zero_add, Nat.add_zero, ofCell, ofConst]; rfl)
                    | rfl))
  refine lo (lop_assign (E rfl)) rfl ?_
  apply le; (repeat (first | (apply KeepIs.take; rfl) | (apply KeepIs.skip; rfl) | exact KeepIs.nil))
  (repeat (first | refine cs ?_ | refine cb ?_ | refine ck ?_ | refine cx ?_ | refine cr ?_ | refine an ?_ | refine ae ?_ | refine ar ?_ | refine bn ?_ | refine bh ?_ | refine be rfl ?_ | refine br ?_ | refine ct rfl ?_ | refine cf rfl ?_))
  first | refine sw_seq_region ?_ | refine sw_region ?_
  refine lo (lop_move (E rfl)) rfl ?_
  refine lo (lop_move (E rfl)) rfl ?_
  refine pu [l, r45] Try.call18 (ref_eqInts (k1 := .any) (k2 := .any) want want) rfl ?_ (by repeat (first | exact NoF.int | exact NoF.bool | exact NoF.nilp | exact NoF.nil | exact NoF.own | exact NoF.ptr | exact NoF.str | exact nofl_nil | apply NoF.tup | apply NoF.agg | apply nofl_cons)) ?_
  · (repeat (first
               | exact ArgsIf.nil
               | (apply ArgsIf.cons; exact E rfl; (first
                                                     | exact Bor.refl _
                                                     | exact Bor.le VLe.any
                                                     | exact Bor.le VLe.empty
                                                     | (apply bown; (repeat (first
                                                                               | exact List.mem_cons_self
                                                                               | apply List.mem_cons_of_mem)); (repeat (first
                                                                                                                          | exact sget_here
                                                                                                                          | (apply sget_next; (first
                                                                                                                                                 | assumption
                                                                                                                                                 | (apply Nq.en; assumption)
                                                                                                                                                 | omega
                                                                                                                                                 | (simp only [Nq] at *; omega))))); (first
                                                                                                                                                                                        | focus (simp; done)
                                                                                                                                                                                        | omega
                                                                                                                                                                                        | focus (simp; omega)); (first
                                                                                                                                                                                                                   | rfl
                                                                                                                                                                                                                   | focus (simp; done)
                                                                                                                                                                                                                   | focus (exact List.take_of_length_le (by first
                                                                                                                                                                                                                                                               | (simp; done)
                                                                                                                                                                                                                                                               | (simp; omega)))))
                                                     | focus (apply bagg; (repeat (first
                                                                                     | exact BorL.nil
                                                                                     | (apply BorL.cons; (first
                                                                                                            | exact Bor.refl _
                                                                                                            | exact Bor.le VLe.any
                                                                                                            | exact Bor.le VLe.empty
                                                                                                            | (apply bown; (repeat (first
                                                                                                                                      | exact List.mem_cons_self
                                                                                                                                      | apply List.mem_cons_of_mem)); (repeat (first
                                                                                                                                                                                 | exact sget_here
                                                                                                                                                                                 | (apply sget_next; (first
                                                                                                                                                                                                        | assumption
                                                                                                                                                                                                        | (apply Nq.en; assumption)
                                                                                                                                                                                                        | omega
                                                                                                                                                                                                        | (simp only [Nq] at *; omega))))); (first
                                                                                                                                                                                                                                               | focus (simp; done)
                                                                                                                                                                                                                                               | omega); (first
                                                                                                                                                                                                                                                            | rfl
                                                                                                                                                                                                                                                            | focus (simp; done)))
                                                                                                            | focus (apply Bor.le; apply VLe.of_eq; simp; done))))); done)
                                                     | focus (apply Bor.le; apply VLe.of_eq; simp; done)))))
  rw [decide_eq_true (rfl : want = want)]
  refine lo (lop_not (E rfl)) rfl ?_
  apply le; (repeat (first | (apply KeepIs.take; rfl) | (apply KeepIs.skip; rfl) | exact KeepIs.nil))
  (repeat (first | refine cs ?_ | refine cb ?_ | refine ck ?_ | refine cx ?_ | refine cr ?_ | refine an ?_ | refine ae ?_ | refine ar ?_ | refine bn ?_ | refine bh ?_ | refine be rfl ?_ | refine br ?_ | refine ct rfl ?_ | refine cf rfl ?_))
  first | refine sw_seq_region ?_ | refine sw_region ?_
  refine lo (lop_move (E rfl)) rfl ?_
  first | refine lo (lop_len_map (E rfl)) rfl ?_ | refine lo (lop_len_ro (E rfl)) rfl ?_ | refine lo (lop_len_own (E rfl)) rfl ?_
  refine lo (lop_move (E rfl)) rfl ?_
  apply le; (repeat (first | (apply KeepIs.take; rfl) | (apply KeepIs.skip; rfl) | exact KeepIs.nil))
  (repeat (first | refine cs ?_ | refine cb ?_ | refine ck ?_ | refine cx ?_ | refine cr ?_ | refine an ?_ | refine ae ?_ | refine ar ?_ | refine bn ?_ | refine bh ?_ | refine be rfl ?_ | refine br ?_ | refine ct rfl ?_ | refine cf rfl ?_))
  refine lp (β := Nat) (fun j => ⟨[(12, .own r45 0 want.length), (18, .ptr s 0), (19, .own l 0 want.length), (152, .int .i64 want.length), (153, .int .i64 j)],
    [(l, .arr 3 1 ((ovr want j 77).map encI)), (s, .box 78 [.own t 0 want.length, .own v 0 ([] : List (Int × Int)).length]), (t, .arr 3 1 (want.map encI)), (v, .arr 39 2 (([] : List (Int × Int)).map encV)), (r45, .arr 3 1 (want.map encI))]⟩) (fun j => j ≤ want.length) (fun j => want.length - j) 0 ?_ (Nat.zero_le _) ?_
  · rw [show want.map encI = (ovr want 0 77).map encI by simp [ovr], ← hbl3]
    (refine sgo_st ?_ ?_ <;> (repeat (first
                                        | exact FrLe.nil
                                        | (apply FrLe.cons; rfl; first
                                                                   | exact VLe.refl _
                                                                   | exact VLe.any
                                                                   | exact VLe.empty
                                                                   | exact VLe.of_eq (by simp)
                                                                   | exact VLe.of_eq (by congr 1; omega))
                                        | exact StLe.nil
                                        | (apply StLe.cons; (repeat (first
                                                                       | exact List.mem_cons_self
                                                                       | apply List.mem_cons_of_mem)); first
                                                                                                         | rfl
                                                                                                         | focus (congr 1; done)
                                                                                                         | focus (simp; done)
                                                                                                         | (simp; rfl)))))
  rintro j hj2
  (repeat (first | refine cs ?_ | refine cb ?_ | refine ck ?_ | refine cx ?_ | refine cr ?_ | refine an ?_ | refine ae ?_ | refine ar ?_ | refine bn ?_ | refine bh ?_ | refine be rfl ?_ | refine br ?_ | refine ct rfl ?_ | refine cf rfl ?_))
  first | refine sw_seq_region ?_ | refine sw_region ?_
  refine lo (lop_lss (E rfl) (E rfl)) rfl ?_
  apply le; (repeat (first | (apply KeepIs.take; rfl) | (apply KeepIs.skip; rfl) | exact KeepIs.nil))
  (repeat (first | refine cs ?_ | refine cb ?_ | refine ck ?_ | refine cx ?_ | refine cr ?_ | refine an ?_ | refine ae ?_ | refine ar ?_ | refine bn ?_ | refine bh ?_ | refine be rfl ?_ | refine br ?_ | refine ct rfl ?_ | refine cf rfl ?_))
  refine sw_cond rfl (fun h3 => ?_) (fun h3 => ?_)
  · have hlt : j < want.length := by simp at h3; omega
    have hln := ovr_len (x := 77) hj2
    obtain ⟨z, hz⟩ := ovr_at (x := 77) hlt
    (repeat (first | refine cs ?_ | refine cb ?_ | refine ck ?_ | refine cx ?_ | refine cr ?_ | refine an ?_ | refine ae ?_ | refine ar ?_ | refine bn ?_ | refine bh ?_ | refine be rfl ?_ | refine br ?_ | refine ct rfl ?_ | refine cf rfl ?_))
    first | refine sw_seq_region ?_ | refine sw_region ?_
    refine lo (lop_move (E rfl)) rfl ?_
    refine lo (lop_assign (E rfl)) rfl ?_
    apply le; (repeat (first | (apply KeepIs.take; rfl) | (apply KeepIs.skip; rfl) | exact KeepIs.nil))
    (repeat (first | refine cs ?_ | refine cb ?_ | refine ck ?_ | refine cx ?_ | refine cr ?_ | refine an ?_ | refine ae ?_ | refine ar ?_ | refine bn ?_ | refine bh ?_ | refine be rfl ?_ | refine br ?_ | refine ct rfl ?_ | refine cf rfl ?_))
    first | refine sw_seq_region ?_ | refine sw_region ?_
    refine lo (lop_move (E rfl)) rfl ?_
    refine lo (lop_move (E rfl)) rfl ?_
    first
      | refine lo (lop_index_ro (E rfl) (E rfl) (fun hc => by simp only [List.length_map]; omega)) rfl ?_
      | refine lo (lop_index_own0 (E rfl) (by repeat (first
                                                        | exact sget_here
                                                        | refine sget_next (by (first
                                                                                  | assumption
                                                                                  | (apply Nq.en; assumption)
                                                                                  | omega
                                                                                  | (simp only [Nq] at *; omega))) ?_)) (E rfl) (fun hc => by omega)) rfl ?_
      | refine lo (lop_index_own (E rfl) (by repeat (first
                                                       | exact sget_here
                                                       | refine sget_next (by (first
                                                                                 | assumption
                                                                                 | (apply Nq.en; assumption)
                                                                                 | omega
                                                                                 | (simp only [Nq] at *; omega))) ?_)) (E rfl) (fun hc => by omega)) rfl ?_
    apply sto; rfl; rfl; rfl; rfl; (repeat (first
                                              | (apply SSet.here; (repeat (first
                                                                             | exact Fresh.nil
                                                                             | (apply Fresh.cons; (first
                                                                                                     | assumption
                                                                                                     | (apply Nq.en; assumption)
                                                                                                     | omega
                                                                                                     | (simp only [Nq] at *; omega))))))
                                              | (apply SSet.next; (first
                                                                     | assumption
                                                                     | (apply Nq.en; assumption)
                                                                     | omega
                                                                     | (simp only [Nq] at *; omega))))); (first
                                                                                                            | rfl
                                                                                                            | exact get_map (by assumption)
                                                                                                            | assumption); (repeat (first
                                                                                                                                      | exact Put.done
                                                                                                                                      | apply Put.put
                                                                                                                                      | apply Put.skip)); rfl
    apply le; (repeat (first | (apply KeepIs.take; rfl) | (apply KeepIs.skip; rfl) | exact KeepIs.nil))
    (repeat (first | refine cs ?_ | refine cb ?_ | refine ck ?_ | refine cx ?_ | refine cr ?_ | refine an ?_ | refine ae ?_ | refine ar ?_ | refine bn ?_ | refine bh ?_ | refine be rfl ?_ | refine br ?_ | refine ct rfl ?_ | refine cf rfl ?_))
    first | refine sw_seq_region ?_ | refine sw_region ?_
    first | refine lo (lop_add64 (E rfl) (E rfl) (by omega) (by omega)) rfl ?_ | refine lo (lop_add (E rfl) (E rfl)) rfl ?_
    refine lo (lop_move (E rfl)) rfl ?_
    apply le; (repeat (first | (apply KeepIs.take; rfl) | (apply KeepIs.skip; rfl) | exact KeepIs.nil))
    (repeat (first | refine cs ?_ | refine cb ?_ | refine ck ?_ | refine cx ?_ | refine cr ?_ | refine an ?_ | refine ae ?_ | refine ar ?_ | refine bn ?_ | refine bh ?_ | refine be rfl ?_ | refine br ?_ | refine ct rfl ?_ | refine cf rfl ?_))
    refine ⟨j + 1, hlt, by show want.length - (j + 1) < want.length - j; omega, ?_⟩
    rw [Int.toNat_natCast, set_encI', ovr_step hlt]
    (refine sgo_st ?_ ?_ <;> (repeat (first
                                        | exact FrLe.nil
                                        | (apply FrLe.cons; rfl; first
                                                                   | exact VLe.refl _
                                                                   | exact VLe.any
                                                                   | exact VLe.empty
                                                                   | exact VLe.of_eq (by simp)
                                                                   | exact VLe.of_eq (by congr 1; omega))
                                        | exact StLe.nil
                                        | (apply StLe.cons; (repeat (first
                                                                       | exact List.mem_cons_self
                                                                       | apply List.mem_cons_of_mem)); first
                                                                                                         | rfl
                                                                                                         | focus (congr 1; done)
                                                                                                         | focus (simp; done)
                                                                                                         | (simp; rfl)))))
  (repeat (first | refine cs ?_ | refine cb ?_ | refine ck ?_ | refine cx ?_ | refine cr ?_ | refine an ?_ | refine ae ?_ | refine ar ?_ | refine bn ?_ | refine bh ?_ | refine be rfl ?_ | refine br ?_ | refine ct rfl ?_ | refine cf rfl ?_))
  first | refine sw_seq_region ?_ | refine sw_region ?_
  refine lo (lop_move (E rfl)) rfl ?_
  refine cw [(s, .box 78 [.own t 0 want.length, .own v 0 ([] : List (Int × Int)).length]), (t, .arr 3 1 (want.map encI)), (v, .arr 39 2 (([] : List (Int × Int)).map encV))] Try.call19 (space_elems h1' want [] (by omega)) rfl ?_ ?_ ?_
  · (repeat (first | exact ArgsLe.nil | (apply ArgsLe.cons; rfl; first | exact VLe.refl _ | exact VLe.when rfl | exact VLe.any | exact VLe.empty | exact VLe.of_eq (by simp))))
  · (first | exact no_mem | (apply StLe.mem; (repeat (first | exact StLe.nil | (apply StLe.cons; (repeat (first | exact List.mem_cons_self | apply List.mem_cons_of_mem)); first | rfl | focus (congr 1; done) | focus (simp; done) | (simp; rfl))))))
  rintro x σ' ⟨q', ⟨q'1, q'2, q'3⟩, rfl, rfl⟩ hq'
  replace hq' := (hq' _ List.mem_cons_self).resolve_left (by simp only [List.mem_cons, List.not_mem_nil, or_false, exists_eq_or_imp, exists_eq_left, not_or]; (repeat' (first
                                                                                                                                                                          | apply And.intro
                                                                                                                                                                          | (first
                                                                                                                                                                               | assumption
                                                                                                                                                                               | (apply Nq.en; assumption)
                                                                                                                                                                               | omega
                                                                                                                                                                               | (simp only [Nq] at *; omega)))); done); simp only [fresh_cons, fresh_nil, and_true] at hq'; (repeat (rcases hq' with ⟨_, hq'⟩))
  (apply rs_sto; (first
                    | (simp (disch := (first
                                         | (simp only [List.mem_cons, List.not_mem_nil, true_or, or_true, or_false]; done)
                                         | (focus (simp only [List.mem_cons, List.not_mem_nil, or_false, not_or]; (repeat' (first
                                                                                                                              | apply And.intro
                                                                                                                              | (first
                                                                                                                                   | assumption
                                                                                                                                   | (apply Nq.en; assumption)
                                                                                                                                   | omega
                                                                                                                                   | (simp only [Nq] at *; omega)))); done))
                                         | omega)) only [↓put_σ, ↓mk_σ, AV.cells, sset, sdrop_none, sdrop_nil, sdrop_in, sdrop_out, List.nil_append, List.cons_append, List.append_nil, List.map_nil, List.map_cons, List.take_succ_cons, List.take_zero, List.drop_succ_cons, List.drop_zero, take_len', take_map_len, Nat.zero_add, Nat.add_zero, ofCell, ofConst]; rfl)
                    | rfl))
  refine lo (lop_move (E rfl)) rfl ?_
  refine pu [q', r45] Try.call18 (ref_eqInts (k1 := .any) (k2 := .any) want want) rfl ?_ (by repeat (first | exact NoF.int | exact NoF.bool | exact NoF.nilp | exact NoF.nil | exact NoF.own | exact NoF.ptr | exact NoF.str | exact nofl_nil | apply NoF.tup | apply NoF.agg | apply nofl_cons)) ?_
  · (repeat (first
               | exact ArgsIf.nil
               | (apply ArgsIf.cons; exact E rfl; (first
                                                     | exact Bor.refl _
                                                     | exact Bor.le VLe.any
                                                     | exact Bor.le VLe.empty
                                                     | (apply bown; (repeat (first
                                                                               | exact List.mem_cons_self
                                                                               | apply List.mem_cons_of_mem)); (repeat (first
                                                                                                                          | exact sget_here
                                                                                                                          | (apply sget_next; (first
                                                                                                                                                 | assumption
                                                                                                                                                 | (apply Nq.en; assumption)
                                                                                                                                                 | omega
                                                                                                                                                 | (simp only [Nq] at *; omega))))); (first
                                                                                                                                                                                        | focus (simp; done)
                                                                                                                                                                                        | omega
                                                                                                                                                                                        | focus (simp; omega)); (first
                                                                                                                                                                                                                   | rfl
                                                                                                                                                                                                                   | focus (simp; done)
                                                                                                                                                                                                                   | focus (exact List.take_of_length_le (by first
                                                                                                                                                                                                                                                               | (simp; done)
                                                                                                                                                                                                                                                               | (simp; omega)))))
                                                     | focus (apply bagg; (repeat (first
                                                                                     | exact BorL.nil
                                                                                     | (apply BorL.cons; (first
                                                                                                            | exact Bor.refl _
                                                                                                            | exact Bor.le VLe.any
                                                                                                            | exact Bor.le VLe.empty
                                                                                                            | (apply bown; (repeat (first
                                                                                                                                      | exact List.mem_cons_self
                                                                                                                                      | apply List.mem_cons_of_mem)); (repeat (first
                                                                                                                                                                                 | exact sget_here
                                                                                                                                                                                 | (apply sget_next; (first
                                                                                                                                                                                                        | assumption
                                                                                                                                                                                                        | (apply Nq.en; assumption)
                                                                                                                                                                                                        | omega
                                                                                                                                                                                                        | (simp only [Nq] at *; omega))))); (first
                                                                                                                                                                                                                                               | focus (simp; done)
                                                                                                                                                                                                                                               | omega); (first
                                                                                                                                                                                                                                                            | rfl
                                                                                                                                                                                                                                                            | focus (simp; done)))
                                                                                                            | focus (apply Bor.le; apply VLe.of_eq; simp; done))))); done)
                                                     | focus (apply Bor.le; apply VLe.of_eq; simp; done)))))
  rw [decide_eq_true (rfl : want = want)]
  refine lo (lop_assign (E rfl)) rfl ?_
  apply le; (repeat (first | (apply KeepIs.take; rfl) | (apply KeepIs.skip; rfl) | exact KeepIs.nil))
  (repeat (first | refine cs ?_ | refine cb ?_ | refine ck ?_ | refine cx ?_ | refine cr ?_ | refine an ?_ | refine ae ?_ | refine ar ?_ | refine bn ?_ | refine bh ?_ | refine be rfl ?_ | refine br ?_ | refine ct rfl ?_ | refine cf rfl ?_))
  (apply aend; (repeat (first
                          | exact ResL.nil
                          | (apply ResL.tmp; rfl)
                          | (apply ResL.cell; rfl; infer_instance; rfl; (repeat (first
                                                                                   | exact sget_here
                                                                                   | (apply sget_next; (first
                                                                                                          | assumption
                                                                                                          | (apply Nq.en; assumption)
                                                                                                          | omega
                                                                                                          | (simp only [Nq] at *; omega))))); rfl)
                          | (apply ResL.cells; rfl; infer_instance; infer_instance; rfl; (repeat (first
                                                                                                    | exact sget_here
                                                                                                    | (apply sget_next; (first
                                                                                                                           | assumption
                                                                                                                           | (apply Nq.en; assumption)
                                                                                                                           | omega
                                                                                                                           | (simp only [Nq] at *; omega))))); exact Nat.le_of_ble_eq_true rfl))))
  · exact rfl
  · (first | exact no_mem | (apply StLe.mem; (repeat (first | exact StLe.nil | (apply StLe.cons; (repeat (first | exact List.mem_cons_self | apply List.mem_cons_of_mem)); first | rfl | focus (congr 1; done) | focus (simp; done) | (simp; rfl))))))
end Go.Proofs.Ytpdgnenffiphcaa
