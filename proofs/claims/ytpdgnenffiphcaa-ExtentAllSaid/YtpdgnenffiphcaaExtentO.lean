/-
  ExtentAll, walked.
-/
import Derived.Test.YtpdgnenffiphcaaExtentM
import Derived.Test.YtpdgnenffiphcaaExtentN
namespace Go.Proofs.Ytpdgnenffiphcaa
open Go.RowKit Go.ChangeShapes Go.WideShapes Go.ChangeAt Go.Deep
set_option linter.unusedSimpArgs false
set_option linter.unusedVariables false
attribute [local irreducible] SW RS RD AThen ABlock

abbrev XOp := Int × Int × Int
def encX (o : XOp) : List AV := [.int .i64 o.1, .int .i64 o.2.1, .int .i64 o.2.2]
structure BX where
  i : Nat
  fr : List Bool
set_option maxRecDepth 100000 in
set_option maxHeartbeats 16000000 in
theorem law_extentAll (a n : Int) (ops : List XOp) (hops : ∀ o ∈ ops, o.2.1 ≤ 9223372036854775807 ∧ o.2.2 ≤ 9223372036854775807) : SCall Try.prog 6 [.int .i64 a, .int .i64 n, .ro 3 (ops.map encX) .any] [] (fun x _ => x = .bool true) := by
  refine scall_of (n := 306) (ks := [0, 1, 2, 6, 7, 8, 9, 10, 11, 12, 13, 14, 15, 16, 17, 18, 19, 20, 21, 22, 23, 24, 25, 28, 42, 52, 65, 123, 141, 150, 159, 166, 175, 200, 209, 219, 261, 268, 276, 286, 293, 305]) Try.func6 rfl rfl (Nat.le_of_ble_eq_true rfl) ?_
  (repeat (first | refine cs ?_ | refine cb ?_ | refine ck ?_ | refine cx ?_ | refine cr ?_ | refine an ?_ | refine ae ?_ | refine ar ?_ | refine bn ?_ | refine bh ?_ | refine be rfl ?_ | refine br ?_ | refine ct rfl ?_ | refine cf rfl ?_))
  first | refine sw_seq_region ?_ | refine sw_region ?_
  refine lo (lop_assign (E rfl)) rfl ?_
  apply le; (repeat (first | (apply KeepIs.take; rfl) | (apply KeepIs.skip; rfl) | exact KeepIs.nil))
  (repeat (first | refine cs ?_ | refine cb ?_ | refine ck ?_ | refine cx ?_ | refine cr ?_ | refine an ?_ | refine ae ?_ | refine ar ?_ | refine bn ?_ | refine bh ?_ | refine be rfl ?_ | refine br ?_ | refine ct rfl ?_ | refine cf rfl ?_))
  first | refine sw_seq_region ?_ | refine sw_region ?_
  (first | refine pu [] Try.call23 law_begun19 rfl (by repeat (first | exact ArgsIf.nil | refine ArgsIf.cons (by first | exact Ev.when rfl (by first | exact id | simp) | exact Ev.here rfl) (by first | exact Bor.refl _ | exact Bor.le VLe.any | exact Bor.le VLe.empty | exact Bor.own (by simp) (by repeat (first | exact sget_here | refine sget_next (by (first | assumption | (apply Nq.en; assumption) | omega | (simp only [Nq] at *; omega))) ?_)) (by simp) | exact Bor.le (VLe.of_eq (by simp))) ?_)) (by repeat (first | exact NoF.int | exact NoF.bool | exact NoF.nilp | exact NoF.nil | exact NoF.own | exact NoF.ptr | exact NoF.str | exact nofl_nil | apply NoF.tup | apply NoF.agg | apply nofl_cons)) ?_ | refine pug [] rfl rfl Try.call23 (fun _ => law_begun19) rfl (by repeat (first | exact ArgsIf.nil | refine ArgsIf.cons (by first | exact Ev.when rfl (by first | exact id | simp) | exact Ev.here rfl) (by first | exact Bor.refl _ | exact Bor.le VLe.any | exact Bor.le VLe.empty | exact Bor.own (by simp) (by repeat (first | exact sget_here | refine sget_next (by (first | assumption | (apply Nq.en; assumption) | omega | (simp only [Nq] at *; omega))) ?_)) (by simp) | exact Bor.le (VLe.of_eq (by simp))) ?_)) (by repeat (first | exact NoF.int | exact NoF.bool | exact NoF.nilp | exact NoF.nil | exact NoF.own | exact NoF.ptr | exact NoF.str | exact nofl_nil | apply NoF.tup | apply NoF.agg | apply nofl_cons)) ?_)
  refine lo (lop_assign (E rfl)) rfl ?_
  apply le; (repeat (first | (apply KeepIs.take; rfl) | (apply KeepIs.skip; rfl) | exact KeepIs.nil))
  (repeat (first | refine cs ?_ | refine cb ?_ | refine ck ?_ | refine cx ?_ | refine cr ?_ | refine an ?_ | refine ae ?_ | refine ar ?_ | refine bn ?_ | refine bh ?_ | refine be rfl ?_ | refine br ?_ | refine ct rfl ?_ | refine cf rfl ?_))
  first | refine sw_seq_region ?_ | refine sw_region ?_
  refine lo (lop_move (E rfl)) rfl ?_
  refine lo (lop_not (E rfl)) rfl ?_
  apply le; (repeat (first | (apply KeepIs.take; rfl) | (apply KeepIs.skip; rfl) | exact KeepIs.nil))
  (repeat (first | refine cs ?_ | refine cb ?_ | refine ck ?_ | refine cx ?_ | refine cr ?_ | refine an ?_ | refine ae ?_ | refine ar ?_ | refine bn ?_ | refine bh ?_ | refine be rfl ?_ | refine br ?_ | refine ct rfl ?_ | refine cf rfl ?_))
  first | refine sw_seq_region ?_ | refine sw_region ?_
  refine lo (lop_move (E rfl)) rfl ?_
  refine lo (lop_lss (E rfl) (E rfl)) rfl ?_
  refine lo (lop_move (E rfl)) rfl ?_
  first | refine ln rfl rfl rfl rfl ?_ | refine lg rfl rfl (lop_move (E rfl)) rfl ?_
  first | refine ln rfl rfl rfl rfl ?_ | refine lg rfl rfl (lop_gtr (W rfl id) (E rfl)) rfl ?_
  first | refine lo (lop_pick_t (E rfl) (E rfl)) rfl ?_ | refine lo (lop_pick_f (E rfl) (W rfl (by simp))) rfl ?_ | refine lo (lop_pick (E rfl) (E rfl) (W rfl (by simp))) rfl ?_
  refine lo (lop_move (E rfl)) rfl ?_
  first | refine ln rfl rfl rfl rfl ?_ | refine lg rfl rfl (lop_move (E rfl)) rfl ?_
  first | refine ln rfl rfl rfl rfl ?_ | refine lg rfl rfl (lop_lss (W rfl id) (E rfl)) rfl ?_
  first | refine lo (lop_pick_t (E rfl) (E rfl)) rfl ?_ | refine lo (lop_pick_f (E rfl) (W rfl (by simp))) rfl ?_ | refine lo (lop_pick (E rfl) (E rfl) (W rfl (by simp))) rfl ?_
  refine lo (lop_move (E rfl)) rfl ?_
  first | refine ln rfl rfl rfl rfl ?_ | refine lg rfl rfl (lop_move (E rfl)) rfl ?_
  first | refine ln rfl rfl rfl rfl ?_ | refine lg rfl rfl (lop_gtr (W rfl id) (E rfl)) rfl ?_
  first | refine lo (lop_pick_t (E rfl) (E rfl)) rfl ?_ | refine lo (lop_pick_f (E rfl) (W rfl (by simp))) rfl ?_ | refine lo (lop_pick (E rfl) (E rfl) (W rfl (by simp))) rfl ?_
  apply le; (repeat (first | (apply KeepIs.take; rfl) | (apply KeepIs.skip; rfl) | exact KeepIs.nil))
  (repeat (first | refine cs ?_ | refine cb ?_ | refine ck ?_ | refine cx ?_ | refine cr ?_ | refine an ?_ | refine ae ?_ | refine ar ?_ | refine bn ?_ | refine bh ?_ | refine be rfl ?_ | refine br ?_ | refine ct rfl ?_ | refine cf rfl ?_))
  refine sw_cond rfl (fun h => ?_) (fun h => ?_)
  · (repeat (first | refine cs ?_ | refine cb ?_ | refine ck ?_ | refine cx ?_ | refine cr ?_ | refine an ?_ | refine ae ?_ | refine ar ?_ | refine bn ?_ | refine bh ?_ | refine be rfl ?_ | refine br ?_ | refine ct rfl ?_ | refine cf rfl ?_))
    first | refine sw_seq_region ?_ | refine sw_region ?_
    refine lo (lop_assign (E rfl)) rfl ?_
    apply le; (repeat (first | (apply KeepIs.take; rfl) | (apply KeepIs.skip; rfl) | exact KeepIs.nil))
    (repeat (first | refine cs ?_ | refine cb ?_ | refine ck ?_ | refine cx ?_ | refine cr ?_ | refine an ?_ | refine ae ?_ | refine ar ?_ | refine bn ?_ | refine bh ?_ | refine be rfl ?_ | refine br ?_ | refine ct rfl ?_ | refine cf rfl ?_))
    (apply aend; (repeat (first | exact ResL.nil | (apply ResL.tmp; rfl) | (apply ResL.cell; rfl; infer_instance; rfl; (repeat (first | exact sget_here | (apply sget_next; (first | assumption | (apply Nq.en; assumption) | omega | (simp only [Nq] at *; omega))))); rfl) | (apply ResL.cells; rfl; infer_instance; infer_instance; rfl; (repeat (first | exact sget_here | (apply sget_next; (first | assumption | (apply Nq.en; assumption) | omega | (simp only [Nq] at *; omega))))); exact Nat.le_of_ble_eq_true rfl))))
    · exact rfl
    · (first | exact no_mem | (apply StLe.mem; (repeat (first | exact StLe.nil | (apply StLe.cons; (repeat (first | exact List.mem_cons_self | apply List.mem_cons_of_mem)); first | rfl | focus (congr 1; done) | focus (simp; done) | (simp; rfl))))))
  simp at h
  obtain ⟨A, rfl⟩ := Int.eq_ofNat_of_zero_le (show 0 ≤ a by omega)
  obtain ⟨N, rfl⟩ := Int.eq_ofNat_of_zero_le (show 0 ≤ n by omega)
  have hnew : newF A N = List.replicate N true ∧ newA A N = A := by
    have : newX A N = false := by simp [newX]; omega
    simp [newF, newA, this]
  (repeat (first | refine cs ?_ | refine cb ?_ | refine ck ?_ | refine cx ?_ | refine cr ?_ | refine an ?_ | refine ae ?_ | refine ar ?_ | refine bn ?_ | refine bh ?_ | refine be rfl ?_ | refine br ?_ | refine ct rfl ?_ | refine cf rfl ?_))
  first | refine sw_seq_region ?_ | refine sw_region ?_
  refine lo (lop_move (E rfl)) rfl ?_
  refine lo (lop_move (E rfl)) rfl ?_
  refine cw [] Try.call24 (extent_new A N) rfl ?_ ?_ ?_
  · (repeat (first | exact ArgsLe.nil | (apply ArgsLe.cons; rfl; first | exact VLe.refl _ | exact VLe.when rfl | exact VLe.any | exact VLe.empty | exact VLe.of_eq (by simp))))
  · (first | exact no_mem | (apply StLe.mem; (repeat (first | exact StLe.nil | (apply StLe.cons; (repeat (first | exact List.mem_cons_self | apply List.mem_cons_of_mem)); first | rfl | focus (congr 1; done) | focus (simp; done) | (simp; rfl))))))
  rintro x σ' ⟨s, q, hq, rfl, rfl⟩ -
  rw [hnew.1, hnew.2]
  (apply rs_sto; (first | (simp (disch := (first | (simp only [List.mem_cons, List.not_mem_nil, true_or, or_true, or_false]; done) | (focus (simp only [List.mem_cons, List.not_mem_nil, or_false, not_or]; (repeat' (first | apply And.intro | (first | assumption | (apply Nq.en; assumption) | omega | (simp only [Nq] at *; omega)))); done)) | omega)) only [↓put_σ, ↓mk_σ, AV.cells, sset, sdrop_none, sdrop_nil, sdrop_in, sdrop_out, List.nil_append, List.cons_append, List.append_nil, List.map_nil, List.map_cons, List.take_succ_cons, List.take_zero, List.drop_succ_cons, List.drop_zero, take_len', take_map_len, Nat.zero_add, Nat.add_zero, ofCell, ofConst]; rfl) | rfl))
  refine lo (lop_assign (E rfl)) rfl ?_
  apply le; (repeat (first | (apply KeepIs.take; rfl) | (apply KeepIs.skip; rfl) | exact KeepIs.nil))
  (repeat (first | refine cs ?_ | refine cb ?_ | refine ck ?_ | refine cx ?_ | refine cr ?_ | refine an ?_ | refine ae ?_ | refine ar ?_ | refine bn ?_ | refine bh ?_ | refine be rfl ?_ | refine br ?_ | refine ct rfl ?_ | refine cf rfl ?_))
  first | refine sw_seq_region ?_ | refine sw_region ?_
  apply mk; rfl; rfl; exact (rfl : (130 : Int) = ((130 : Nat) : Int)); rfl; decide; decide; (first | (simp only [Value.cells, AV.cells, List.map_cons, List.map_nil, ofConst, ofCell]; rfl) | rfl); rfl; intro r45 h45; simp only [fresh_cons, fresh_nil, and_true] at h45; (repeat (rcases h45 with ⟨_, h45⟩))
  refine lo (lop_assign (E rfl)) rfl ?_
  apply le; (repeat (first | (apply KeepIs.take; rfl) | (apply KeepIs.skip; rfl) | exact KeepIs.nil))
  (repeat (first | refine cs ?_ | refine cb ?_ | refine ck ?_ | refine cx ?_ | refine cr ?_ | refine an ?_ | refine ae ?_ | refine ar ?_ | refine bn ?_ | refine bh ?_ | refine be rfl ?_ | refine br ?_ | refine ct rfl ?_ | refine cf rfl ?_))
  first | refine sw_seq_region ?_ | refine sw_region ?_
  refine lo (lop_move (E rfl)) rfl ?_
  refine lo (lop_assign (E rfl)) rfl ?_
  apply le; (repeat (first | (apply KeepIs.take; rfl) | (apply KeepIs.skip; rfl) | exact KeepIs.nil))
  (repeat (first | refine cs ?_ | refine cb ?_ | refine ck ?_ | refine cx ?_ | refine cr ?_ | refine an ?_ | refine ae ?_ | refine ar ?_ | refine bn ?_ | refine bh ?_ | refine be rfl ?_ | refine br ?_ | refine ct rfl ?_ | refine cf rfl ?_))
  have hr1 : Nq r45 s := by (first | assumption | (apply Nq.en; assumption) | omega | (simp only [Nq] at *; omega))
  have hr2 : Nq r45 q := by (first | assumption | (apply Nq.en; assumption) | omega | (simp only [Nq] at *; omega))
  have hrep : List.replicate 130 [AV.bool false] = (longF A (fillR (List.replicate N false) 0 0 true) (130 - A - N)).map encB := by
    have : longF A (fillR (List.replicate N false) 0 0 true) (130 - A - N) = List.replicate 130 false := by
      simp only [longF, fillR, List.take_zero, List.replicate_zero, List.nil_append, Nat.add_zero, List.drop_zero, List.replicate_append_replicate]
      congr 1; omega
    rw [this]; simp [encB]
  refine lp (β := Nat) (fun j => ⟨[(0, .int .i64 A), (1, .int .i64 N), (2, .ro 3 (ops.map encX) .any), (8, .ptr s 0), (9, .own r45 0 130), (10, .int .i64 ((A : Int) + j))], [(s, .box 83 [.int .i64 A, .own q 0 (List.replicate N true).length]), (q, .arr 4 1 ((List.replicate N true).map encB)), (r45, .arr 4 1 ((longF A (fillR (List.replicate N false) 0 j true) (130 - A - N)).map encB))]⟩) (fun j => j ≤ N) (fun j => N - j) 0 ?_ (Nat.zero_le _) ?_
  · have e0 : (A : Int) + ((0 : Nat) : Int) = A := by omega
    simp only [e0]
    rw [hrep]
    (refine sgo_st ?_ ?_ <;> (repeat (first | exact FrLe.nil | (apply FrLe.cons; rfl; first | exact VLe.refl _ | exact VLe.any | exact VLe.empty | exact VLe.of_eq (by simp) | exact VLe.of_eq (by congr 1; omega)) | exact StLe.nil | (apply StLe.cons; (repeat (first | exact List.mem_cons_self | apply List.mem_cons_of_mem)); first | rfl | focus (congr 1; done) | focus (simp; done) | (simp; rfl)))))
  rintro j hj
  (repeat (first | refine cs ?_ | refine cb ?_ | refine ck ?_ | refine cx ?_ | refine cr ?_ | refine an ?_ | refine ae ?_ | refine ar ?_ | refine bn ?_ | refine bh ?_ | refine be rfl ?_ | refine br ?_ | refine ct rfl ?_ | refine cf rfl ?_))
  first | refine sw_seq_region ?_ | refine sw_region ?_
  refine lo (lop_move (E rfl)) rfl ?_
  refine lo (lop_move (E rfl)) rfl ?_
  refine lo (lop_move (E rfl)) rfl ?_
  first | refine lo (lop_add64 (E rfl) (E rfl) (by omega) (by omega)) rfl ?_ | refine lo (lop_add (E rfl) (E rfl)) rfl ?_
  refine lo (lop_lss (E rfl) (E rfl)) rfl ?_
  apply le; (repeat (first | (apply KeepIs.take; rfl) | (apply KeepIs.skip; rfl) | exact KeepIs.nil))
  (repeat (first | refine cs ?_ | refine cb ?_ | refine ck ?_ | refine cx ?_ | refine cr ?_ | refine an ?_ | refine ae ?_ | refine ar ?_ | refine bn ?_ | refine bh ?_ | refine be rfl ?_ | refine br ?_ | refine ct rfl ?_ | refine cf rfl ?_))
  refine sw_cond rfl (fun h2 => ?_) (fun h2 => ?_)
  · have hlt : j < N := by simp at h2; omega
    have hln := fillR_len (fr := List.replicate N false) (o := 0) (k := j) (v := true) (by simp; omega)
    rw [List.length_replicate] at hln
    have hll := long_len (a := A) (fr := fillR (List.replicate N false) 0 j true) (z := 130 - A - N)
    obtain ⟨z, hz⟩ : ∃ z, (longF A (fillR (List.replicate N false) 0 j true) (130 - A - N))[((A : Int) + (j : Int)).toNat]? = some z := ⟨_, List.getElem?_eq_getElem (by omega)⟩
    (repeat (first | refine cs ?_ | refine cb ?_ | refine ck ?_ | refine cx ?_ | refine cr ?_ | refine an ?_ | refine ae ?_ | refine ar ?_ | refine bn ?_ | refine bh ?_ | refine be rfl ?_ | refine br ?_ | refine ct rfl ?_ | refine cf rfl ?_))
    first | refine sw_seq_region ?_ | refine sw_region ?_
    refine lo (lop_move (E rfl)) rfl ?_
    refine lo (lop_move (E rfl)) rfl ?_
    first | refine lo (lop_index_ro (E rfl) (E rfl) (fun hc => by (simp only [List.length_map]; omega))) rfl ?_ | refine lo (lop_index_own0 (E rfl) (by repeat (first | exact sget_here | refine sget_next (by (first | assumption | (apply Nq.en; assumption) | omega | (simp only [Nq] at *; omega))) ?_)) (E rfl) (fun hc => by omega)) rfl ?_ | refine lo (lop_index_own (E rfl) (by repeat (first | exact sget_here | refine sget_next (by (first | assumption | (apply Nq.en; assumption) | omega | (simp only [Nq] at *; omega))) ?_)) (E rfl) (fun hc => by omega)) rfl ?_
    apply sto; rfl; rfl; rfl; rfl; (repeat (first | (apply SSet.here; (repeat (first | exact Fresh.nil | (apply Fresh.cons; (first | assumption | (apply Nq.en; assumption) | omega | (simp only [Nq] at *; omega)))))) | (apply SSet.next; (first | assumption | (apply Nq.en; assumption) | omega | (simp only [Nq] at *; omega))))); (first | rfl | exact get_map (by assumption) | assumption); (repeat (first | exact Put.done | apply Put.put | apply Put.skip)); rfl
    apply le; (repeat (first | (apply KeepIs.take; rfl) | (apply KeepIs.skip; rfl) | exact KeepIs.nil))
    (repeat (first | refine cs ?_ | refine cb ?_ | refine ck ?_ | refine cx ?_ | refine cr ?_ | refine an ?_ | refine ae ?_ | refine ar ?_ | refine bn ?_ | refine bh ?_ | refine be rfl ?_ | refine br ?_ | refine ct rfl ?_ | refine cf rfl ?_))
    first | refine sw_seq_region ?_ | refine sw_region ?_
    refine lo (lop_move (E rfl)) rfl ?_
    first | refine lo (lop_add64 (E rfl) (E rfl) (by omega) (by omega)) rfl ?_ | refine lo (lop_add (E rfl) (E rfl)) rfl ?_
    refine lo (lop_assign (E rfl)) rfl ?_
    apply le; (repeat (first | (apply KeepIs.take; rfl) | (apply KeepIs.skip; rfl) | exact KeepIs.nil))
    (repeat (first | refine cs ?_ | refine cb ?_ | refine ck ?_ | refine cx ?_ | refine cr ?_ | refine an ?_ | refine ae ?_ | refine ar ?_ | refine bn ?_ | refine bh ?_ | refine be rfl ?_ | refine br ?_ | refine ct rfl ?_ | refine cf rfl ?_))
    refine ⟨j + 1, hlt, by show N - (j + 1) < N - j; omega, ?_⟩
    have hfs := fillR_step (fr := List.replicate N false) (o := 0) (k := j) (v := true) (by simp; omega)
    rw [Nat.zero_add] at hfs
    rw [set_encB', long_set' (by omega) (by omega), show ((A : Int) + (j : Int) - A).toNat = j by omega, hfs, show (A : Int) + (j : Int) + 1 = (A : Int) + ((j + 1 : Nat) : Int) by omega]
    (refine sgo_st ?_ ?_ <;> (repeat (first | exact FrLe.nil | (apply FrLe.cons; rfl; first | exact VLe.refl _ | exact VLe.any | exact VLe.empty | exact VLe.of_eq (by simp) | exact VLe.of_eq (by congr 1; omega)) | exact StLe.nil | (apply StLe.cons; (repeat (first | exact List.mem_cons_self | apply List.mem_cons_of_mem)); first | rfl | focus (congr 1; done) | focus (simp; done) | (simp; rfl)))))
  obtain rfl : j = N := by simp at h2; omega
  have hfin : fillR (List.replicate j false) 0 j true = List.replicate j true := by simp [fillR]
  rw [hfin]
  obtain ⟨N, hN⟩ : ∃ N, N = j := ⟨_, rfl⟩
  subst hN
  (repeat (first | refine cs ?_ | refine cb ?_ | refine ck ?_ | refine cx ?_ | refine cr ?_ | refine an ?_ | refine ae ?_ | refine ar ?_ | refine bn ?_ | refine bh ?_ | refine be rfl ?_ | refine br ?_ | refine ct rfl ?_ | refine cf rfl ?_))
  first | refine sw_seq_region ?_ | refine sw_region ?_
  refine lo (lop_assign (E rfl)) rfl ?_
  apply le; (repeat (first | (apply KeepIs.take; rfl) | (apply KeepIs.skip; rfl) | exact KeepIs.nil))
  (repeat (first | refine cs ?_ | refine cb ?_ | refine ck ?_ | refine cx ?_ | refine cr ?_ | refine an ?_ | refine ae ?_ | refine ar ?_ | refine bn ?_ | refine bh ?_ | refine be rfl ?_ | refine br ?_ | refine ct rfl ?_ | refine cf rfl ?_))
  refine lp (β := BX) (fun b => ⟨[(0, .int .i64 A), (1, .int .i64 N), (2, .ro 3 (ops.map encX) .any), (8, .ptr s 0), (9, .own r45 0 130), (11, .int .i64 b.i)], [(s, .box 83 [.int .i64 A, .own q 0 (b.fr).length]), (q, .arr 4 1 ((b.fr).map encB)), (r45, .arr 4 1 ((longF A (b.fr) (130 - A - N)).map encB))]⟩) (fun b => b.i ≤ 60 ∧ b.i ≤ ops.length ∧ b.fr.length = N) (fun b => 60 - b.i) ⟨0, List.replicate N true⟩ ?_ ⟨Nat.zero_le _, Nat.zero_le _, by simp⟩ ?_
  · (refine sgo_st ?_ ?_ <;> (repeat (first | exact FrLe.nil | (apply FrLe.cons; rfl; first | exact VLe.refl _ | exact VLe.any | exact VLe.empty | exact VLe.of_eq (by simp) | exact VLe.of_eq (by congr 1; omega)) | exact StLe.nil | (apply StLe.cons; (repeat (first | exact List.mem_cons_self | apply List.mem_cons_of_mem)); first | rfl | focus (congr 1; done) | focus (simp; done) | (simp; rfl)))))
  rintro ⟨i, fr⟩ ⟨hi, hil, hfr⟩
  simp only at hi hil hfr ⊢
  (repeat (first | refine cs ?_ | refine cb ?_ | refine ck ?_ | refine cx ?_ | refine cr ?_ | refine an ?_ | refine ae ?_ | refine ar ?_ | refine bn ?_ | refine bh ?_ | refine be rfl ?_ | refine br ?_ | refine ct rfl ?_ | refine cf rfl ?_))
  first | refine sw_seq_region ?_ | refine sw_region ?_
  refine lo (lop_move (E rfl)) rfl ?_
  refine lo (lop_move (E rfl)) rfl ?_
  first | refine lo (lop_len_map (E rfl)) rfl ?_ | refine lo (lop_len_ro (E rfl)) rfl ?_ | refine lo (lop_len_own (E rfl)) rfl ?_
  refine lo (lop_lss (E rfl) (E rfl)) rfl ?_
  refine lo (lop_move (E rfl)) rfl ?_
  first | refine ln rfl rfl rfl rfl ?_ | refine lg rfl rfl (lop_move (E rfl)) rfl ?_
  first | refine ln rfl rfl rfl rfl ?_ | refine lg rfl rfl (lop_lss (W rfl id) (E rfl)) rfl ?_
  first | refine lo (lop_pick_t (E rfl) (W rfl (by simp))) rfl ?_ | refine lo (lop_pick_f (E rfl) (E rfl)) rfl ?_ | refine lo (lop_pick (E rfl) (W rfl (by simp)) (E rfl)) rfl ?_
  apply le; (repeat (first | (apply KeepIs.take; rfl) | (apply KeepIs.skip; rfl) | exact KeepIs.nil))
  (repeat (first | refine cs ?_ | refine cb ?_ | refine ck ?_ | refine cx ?_ | refine cr ?_ | refine an ?_ | refine ae ?_ | refine ar ?_ | refine bn ?_ | refine bh ?_ | refine be rfl ?_ | refine br ?_ | refine ct rfl ?_ | refine cf rfl ?_))
  refine sw_cond rfl (fun h2 => ?_) (fun h2 => ?_)
  · have hlt : i < ops.length ∧ i < 60 := by simp at h2; omega
    obtain ⟨o, ho⟩ : ∃ o, ops[i]? = some o := ⟨_, List.getElem?_eq_getElem hlt.1⟩
    obtain ⟨ho1, ho2⟩ := hops o (List.mem_of_getElem? ho)
    (repeat (first | refine cs ?_ | refine cb ?_ | refine ck ?_ | refine cx ?_ | refine cr ?_ | refine an ?_ | refine ae ?_ | refine ar ?_ | refine bn ?_ | refine bh ?_ | refine be rfl ?_ | refine br ?_ | refine ct rfl ?_ | refine cf rfl ?_))
    first | refine sw_seq_region ?_ | refine sw_region ?_
    refine lo (lop_move (E rfl)) rfl ?_
    refine lo (lop_move (E rfl)) rfl ?_
    first | refine lo (lop_index_ro (E rfl) (E rfl) (fun hc => by (simp only [List.length_map]; omega))) rfl ?_ | refine lo (lop_index_own0 (E rfl) (by repeat (first | exact sget_here | refine sget_next (by (first | assumption | (apply Nq.en; assumption) | omega | (simp only [Nq] at *; omega))) ?_)) (E rfl) (fun hc => by omega)) rfl ?_ | refine lo (lop_index_own (E rfl) (by repeat (first | exact sget_here | refine sget_next (by (first | assumption | (apply Nq.en; assumption) | omega | (simp only [Nq] at *; omega))) ?_)) (E rfl) (fun hc => by omega)) rfl ?_
    first | refine lo (lop_load_el_agg (E rfl) rfl (fun hc => by first | rfl | exact get_map (by assumption) | assumption | exact get_map (at_bang (by omega))) (fun _ => Nat.le_of_ble_eq_true rfl)) rfl ?_ | refine lo (lop_load_ow_agg (E rfl) rfl (by repeat (first | exact sget_here | refine sget_next (by (first | assumption | (apply Nq.en; assumption) | omega | (simp only [Nq] at *; omega))) ?_)) (fun hc => by first | rfl | exact get_map (by assumption) | assumption | exact get_map (at_bang (by omega))) (fun _ => Nat.le_of_ble_eq_true rfl)) rfl ?_
    apply al; rfl; (first | (simp only [Value.cells, AV.cells, List.map_cons, List.map_nil, ofConst, ofCell]; rfl) | rfl); intro r12 h12; simp only [fresh_cons, fresh_nil, and_true] at h12; (repeat (rcases h12 with ⟨_, h12⟩))
    apply stp; rfl; rfl; rfl; rfl; (repeat (first | (apply SPut.here; (repeat (first | exact Put.done | apply Put.put | apply Put.skip)); (repeat (first | exact Fresh.nil | (apply Fresh.cons; (first | assumption | (apply Nq.en; assumption) | omega | (simp only [Nq] at *; omega)))))) | (apply SPut.next; (first | assumption | (apply Nq.en; assumption) | omega | (simp only [Nq] at *; omega)))))
    apply le; (repeat (first | (apply KeepIs.take; rfl) | (apply KeepIs.skip; rfl) | exact KeepIs.nil))
    (repeat (first | refine cs ?_ | refine cb ?_ | refine ck ?_ | refine cx ?_ | refine cr ?_ | refine an ?_ | refine ae ?_ | refine ar ?_ | refine bn ?_ | refine bh ?_ | refine be rfl ?_ | refine br ?_ | refine ct rfl ?_ | refine cf rfl ?_))
    first | refine sw_seq_drawn [(0, true), (1, true), (2, true), (3, true), (4, true), (5, true), (6, true), (7, true), (8, true), (9, true), (10, true), (11, true), (12, true), (13, true), (14, true), (15, true), (16, true), (17, true), (18, true), (19, true), (20, true), (21, true), (22, true), (23, true), (24, true), (25, true), (26, true), (27, true), (28, true), (29, true), (30, true), (31, true), (32, true), (33, true), (34, true), (35, true), (36, true), (37, true), (38, true), (39, true), (40, true), (41, true)] mixed (by kernel_rfl) (by kernel_rfl) ?_ | refine sw_region_drawn [(0, true), (1, true), (2, true), (3, true), (4, true), (5, true), (6, true), (7, true), (8, true), (9, true), (10, true), (11, true), (12, true), (13, true), (14, true), (15, true), (16, true), (17, true), (18, true), (19, true), (20, true), (21, true), (22, true), (23, true), (24, true), (25, true), (26, true), (27, true), (28, true), (29, true), (30, true), (31, true), (32, true), (33, true), (34, true), (35, true), (36, true), (37, true), (38, true), (39, true), (40, true), (41, true)] mixed (by kernel_rfl) (by kernel_rfl) ?_
    refine dlo rfl (lop_field_ptr (E rfl) rfl (by decide)) rfl ?_
    refine dlo rfl (lop_load_ptr (E rfl) rfl (by repeat (first | exact sget_here | refine sget_next (by (first | assumption | (apply Nq.en; assumption) | omega | (simp only [Nq] at *; omega))) ?_)) (fun _ => rfl)) rfl ?_
    refine dlo rfl (lop_geq (E rfl) (E rfl)) rfl ?_
    refine dlo rfl (lop_move (E rfl)) rfl ?_
    first | refine dln rfl rfl rfl rfl rfl ?_ | refine dlg rfl rfl rfl (lop_field_ptr (E rfl) rfl (by decide)) rfl ?_
    first | refine dln rfl rfl rfl rfl rfl ?_ | refine dlg rfl rfl rfl (lop_load_ptr (W rfl id) rfl (by repeat (first | exact sget_here | refine sget_next (by (first | assumption | (apply Nq.en; assumption) | omega | (simp only [Nq] at *; omega))) ?_)) (fun _ => rfl)) rfl ?_
    first | refine dln rfl rfl rfl rfl rfl ?_ | refine dlg rfl rfl rfl (lop_move (E rfl)) rfl ?_
    first | refine dln rfl rfl rfl rfl rfl ?_ | refine dlg rfl rfl rfl (lop_geq (W rfl id) (W rfl id)) rfl ?_
    first | refine dlo rfl (lop_pick_t (E rfl) (W rfl (by simp))) rfl ?_ | refine dlo rfl (lop_pick_f (E rfl) (E rfl)) rfl ?_ | refine dlo rfl (lop_pick (E rfl) (W rfl (by simp)) (E rfl)) rfl ?_
    refine dlo rfl (lop_move (E rfl)) rfl ?_
    first | refine dln rfl rfl rfl rfl rfl ?_ | refine dlg rfl rfl rfl (lop_field_ptr (E rfl) rfl (by decide)) rfl ?_
    first | refine dln rfl rfl rfl rfl rfl ?_ | refine dlg rfl rfl rfl (lop_load_ptr (W rfl id) rfl (by repeat (first | exact sget_here | refine sget_next (by (first | assumption | (apply Nq.en; assumption) | omega | (simp only [Nq] at *; omega))) ?_)) (fun _ => rfl)) rfl ?_
    first | refine dln rfl rfl rfl rfl rfl ?_ | refine dlg rfl rfl rfl (lop_move (E rfl)) rfl ?_
    first | refine dln rfl rfl rfl rfl rfl ?_ | refine dlg rfl rfl rfl (lop_move (E rfl)) rfl ?_
    first | refine dln rfl rfl rfl rfl rfl ?_ | refine dlg rfl rfl rfl (lop_add64 (W rfl id) (W rfl id) (by omega) (by omega)) rfl ?_ | refine dlg rfl rfl rfl (lop_add64c (W rfl id) (W rfl id) (fun hc => by simp at hc <;> first | omega | (have hov := hov hc; omega))) rfl ?_ | refine dlg rfl rfl rfl (lop_add (W rfl id) (W rfl id)) rfl ?_
    first | refine dln rfl rfl rfl rfl rfl ?_ | refine dlg rfl rfl rfl (lop_field_ptr (E rfl) rfl (by decide)) rfl ?_
    first | refine dln rfl rfl rfl rfl rfl ?_ | refine dlg rfl rfl rfl (lop_load_ptr (W rfl id) rfl (by repeat (first | exact sget_here | refine sget_next (by (first | assumption | (apply Nq.en; assumption) | omega | (simp only [Nq] at *; omega))) ?_)) (fun _ => rfl)) rfl ?_
    first | refine dln rfl rfl rfl rfl rfl ?_ | refine dlg rfl rfl rfl (lop_sub64 (W rfl id) (W rfl id) (by omega) (by omega)) rfl ?_ | refine dlg rfl rfl rfl (lop_sub64c (W rfl id) (W rfl id) (fun hc => by simp at hc <;> first | omega | (have hov := hov hc; omega))) rfl ?_ | refine dlg rfl rfl rfl (lop_sub (W rfl id) (W rfl id)) rfl ?_
    first | refine dln rfl rfl rfl rfl rfl ?_ | refine dlg rfl rfl rfl (lop_leq (W rfl id) (W rfl id)) rfl ?_
    first | refine dlo rfl (lop_pick_t (E rfl) (W rfl (by simp))) rfl ?_ | refine dlo rfl (lop_pick_f (E rfl) (E rfl)) rfl ?_ | refine dlo rfl (lop_pick (E rfl) (W rfl (by simp)) (E rfl)) rfl ?_
    refine dlo rfl (lop_field_ptr (E rfl) rfl (by decide)) rfl ?_
    refine dlo rfl (lop_load_ptr (E rfl) rfl (by repeat (first | exact sget_here | refine sget_next (by (first | assumption | (apply Nq.en; assumption) | omega | (simp only [Nq] at *; omega))) ?_)) (fun _ => rfl)) rfl ?_
    refine dlo rfl (lop_geq (E rfl) (E rfl)) rfl ?_
    refine dlo rfl (lop_move (E rfl)) rfl ?_
    first | refine dln rfl rfl rfl rfl rfl ?_ | refine dlg rfl rfl rfl (lop_field_ptr (E rfl) rfl (by decide)) rfl ?_
    first | refine dln rfl rfl rfl rfl rfl ?_ | refine dlg rfl rfl rfl (lop_load_ptr (W rfl id) rfl (by repeat (first | exact sget_here | refine sget_next (by (first | assumption | (apply Nq.en; assumption) | omega | (simp only [Nq] at *; omega))) ?_)) (fun _ => rfl)) rfl ?_
    first | refine dln rfl rfl rfl rfl rfl ?_ | refine dlg rfl rfl rfl (lop_move (E rfl)) rfl ?_
    first | refine dln rfl rfl rfl rfl rfl ?_ | refine dlg rfl rfl rfl (lop_geq (W rfl id) (W rfl id)) rfl ?_
    first | refine dlo rfl (lop_pick_t (E rfl) (W rfl (by simp))) rfl ?_ | refine dlo rfl (lop_pick_f (E rfl) (E rfl)) rfl ?_ | refine dlo rfl (lop_pick (E rfl) (W rfl (by simp)) (E rfl)) rfl ?_
    refine dlo rfl (lop_move (E rfl)) rfl ?_
    first | refine dln rfl rfl rfl rfl rfl ?_ | refine dlg rfl rfl rfl (lop_field_ptr (E rfl) rfl (by decide)) rfl ?_
    first | refine dln rfl rfl rfl rfl rfl ?_ | refine dlg rfl rfl rfl (lop_load_ptr (W rfl id) rfl (by repeat (first | exact sget_here | refine sget_next (by (first | assumption | (apply Nq.en; assumption) | omega | (simp only [Nq] at *; omega))) ?_)) (fun _ => rfl)) rfl ?_
    first | refine dln rfl rfl rfl rfl rfl ?_ | refine dlg rfl rfl rfl (lop_move (E rfl)) rfl ?_
    first | refine dln rfl rfl rfl rfl rfl ?_ | refine dlg rfl rfl rfl (lop_move (E rfl)) rfl ?_
    first | refine dln rfl rfl rfl rfl rfl ?_ | refine dlg rfl rfl rfl (lop_add64 (W rfl id) (W rfl id) (by omega) (by omega)) rfl ?_ | refine dlg rfl rfl rfl (lop_add64c (W rfl id) (W rfl id) (fun hc => by simp at hc <;> first | omega | (have hov := hov hc; omega))) rfl ?_ | refine dlg rfl rfl rfl (lop_add (W rfl id) (W rfl id)) rfl ?_
    first | refine dln rfl rfl rfl rfl rfl ?_ | refine dlg rfl rfl rfl (lop_field_ptr (E rfl) rfl (by decide)) rfl ?_
    first | refine dln rfl rfl rfl rfl rfl ?_ | refine dlg rfl rfl rfl (lop_load_ptr (W rfl id) rfl (by repeat (first | exact sget_here | refine sget_next (by (first | assumption | (apply Nq.en; assumption) | omega | (simp only [Nq] at *; omega))) ?_)) (fun _ => rfl)) rfl ?_
    first | refine dln rfl rfl rfl rfl rfl ?_ | refine dlg rfl rfl rfl (lop_sub64 (W rfl id) (W rfl id) (by omega) (by omega)) rfl ?_ | refine dlg rfl rfl rfl (lop_sub64c (W rfl id) (W rfl id) (fun hc => by simp at hc <;> first | omega | (have hov := hov hc; omega))) rfl ?_ | refine dlg rfl rfl rfl (lop_sub (W rfl id) (W rfl id)) rfl ?_
    first | refine dln rfl rfl rfl rfl rfl ?_ | refine dlg rfl rfl rfl (lop_leq (W rfl id) (W rfl id)) rfl ?_
    first | refine dlo rfl (lop_pick_t (E rfl) (W rfl (by simp))) rfl ?_ | refine dlo rfl (lop_pick_f (E rfl) (E rfl)) rfl ?_ | refine dlo rfl (lop_pick (E rfl) (W rfl (by simp)) (E rfl)) rfl ?_
    refine dlo rfl (lop_assign (E rfl)) rfl ?_
    refine dlo rfl (lop_assign (E rfl)) rfl ?_
    apply de; (repeat (first | (apply KeepIs.take; rfl) | (apply KeepIs.skip; rfl) | exact KeepIs.nil))
    (repeat (first | refine cs ?_ | refine cb ?_ | refine ck ?_ | refine cx ?_ | refine cr ?_ | refine an ?_ | refine ae ?_ | refine ar ?_ | refine bn ?_ | refine bh ?_ | refine be rfl ?_ | refine br ?_ | refine ct rfl ?_ | refine cf rfl ?_))
    obtain ⟨rng, hrv⟩ : ∃ rng : Bool, rng = (if (if decide (1 ≤ o.2.2) = true then decide ((A : Int) ≤ o.2.1) else false) = true then decide (o.2.2 ≤ (A : Int) + (N : Int) - o.2.1) else false) := ⟨_, rfl⟩
    rw [← hrv]
    have hrng : rng = true ↔ (1 ≤ o.2.2 ∧ (A : Int) ≤ o.2.1 ∧ o.2.1 + o.2.2 ≤ A + fr.length) := by
      rw [hrv]
      simp
      omega
    first | refine sw_seq_region ?_ | refine sw_region ?_
    refine lo (lop_field_ptr (E rfl) rfl (by decide)) rfl ?_
    refine lo (lop_load_ptr (E rfl) rfl (by repeat (first | exact sget_here | refine sget_next (by (first | assumption | (apply Nq.en; assumption) | omega | (simp only [Nq] at *; omega))) ?_)) (fun _ => rfl)) rfl ?_
    refine lo (lop_assign (E rfl)) rfl ?_
    apply le; (repeat (first | (apply KeepIs.take; rfl) | (apply KeepIs.skip; rfl) | exact KeepIs.nil))
    (repeat (first | refine cs ?_ | refine cb ?_ | refine ck ?_ | refine cx ?_ | refine cr ?_ | refine an ?_ | refine ae ?_ | refine ar ?_ | refine bn ?_ | refine bh ?_ | refine be rfl ?_ | refine br ?_ | refine ct rfl ?_ | refine cf rfl ?_))
    refine lp (β := Nat × Bool) (fun b => ⟨[(0, .int .i64 A), (1, .int .i64 N), (2, .ro 3 (ops.map encX) .any), (8, .ptr s 0), (9, .own r45 0 130), (11, .int .i64 i), (14, .bool rng), (12, .ptr r12 0), (13, .bool b.2), (15, .int .i64 (o.2.1 + b.1))], [(r12, .box 63 [.int .i64 o.1, .int .i64 o.2.1, .int .i64 o.2.2]), (s, .box 83 [.int .i64 A, .own q 0 (fr).length]), (q, .arr 4 1 ((fr).map encB)), (r45, .arr 4 1 ((longF A (fr) (130 - A - N)).map encB))]⟩) (fun b => OkA A fr true o.2.1 o.2.2 b.1 b.2) (fun b => if b.2 then (o.2.2.toNat - b.1) + 1 else 0) (0, rng) ?_ (OkA.zero hrng) ?_
    · have e0 : o.2.1 + ((0 : Nat) : Int) = o.2.1 := by omega
      simp only [e0]
      (refine sgo_st ?_ ?_ <;> (repeat (first | exact FrLe.nil | (apply FrLe.cons; rfl; first | exact VLe.refl _ | exact VLe.any | exact VLe.empty | exact VLe.of_eq (by simp) | exact VLe.of_eq (by congr 1; omega)) | exact StLe.nil | (apply StLe.cons; (repeat (first | exact List.mem_cons_self | apply List.mem_cons_of_mem)); first | rfl | focus (congr 1; done) | focus (simp; done) | (simp; rfl)))))
    rintro ⟨j, b⟩ hok
    simp only at hok ⊢
    have hov : b = true → (1 ≤ o.2.2 ∧ (A : Int) ≤ o.2.1 ∧ o.2.1 + o.2.2 ≤ A + fr.length) := fun h => ⟨(hok.1 h).1, (hok.1 h).2.1, (hok.1 h).2.2.1⟩
    (repeat (first | refine cs ?_ | refine cb ?_ | refine ck ?_ | refine cx ?_ | refine cr ?_ | refine an ?_ | refine ae ?_ | refine ar ?_ | refine bn ?_ | refine bh ?_ | refine be rfl ?_ | refine br ?_ | refine ct rfl ?_ | refine cf rfl ?_))
    first | refine sw_seq_region ?_ | refine sw_region ?_
    refine lo (lop_move (E rfl)) rfl ?_
    refine lo (lop_move (E rfl)) rfl ?_
    first | refine ln rfl rfl rfl rfl ?_ | refine lg rfl rfl (lop_move (E rfl)) rfl ?_
    first | refine ln rfl rfl rfl rfl ?_ | refine lg rfl rfl (lop_field_ptr (E rfl) rfl (by decide)) rfl ?_
    first | refine ln rfl rfl rfl rfl ?_ | refine lg rfl rfl (lop_load_ptr (W rfl id) rfl (by repeat (first | exact sget_here | refine sget_next (by (first | assumption | (apply Nq.en; assumption) | omega | (simp only [Nq] at *; omega))) ?_)) (fun _ => rfl)) rfl ?_
    first | refine ln rfl rfl rfl rfl ?_ | refine lg rfl rfl (lop_field_ptr (E rfl) rfl (by decide)) rfl ?_
    first | refine ln rfl rfl rfl rfl ?_ | refine lg rfl rfl (lop_load_ptr (W rfl id) rfl (by repeat (first | exact sget_here | refine sget_next (by (first | assumption | (apply Nq.en; assumption) | omega | (simp only [Nq] at *; omega))) ?_)) (fun _ => rfl)) rfl ?_
    first | refine ln rfl rfl rfl rfl ?_ | refine lg rfl rfl (lop_add64 (W rfl id) (W rfl id) (by omega) (by omega)) rfl ?_ | refine lg rfl rfl (lop_add64c (W rfl id) (W rfl id) (fun hc => by simp at hc <;> first | omega | (have hov := hov hc; omega))) rfl ?_ | refine lg rfl rfl (lop_add (W rfl id) (W rfl id)) rfl ?_
    first | refine ln rfl rfl rfl rfl ?_ | refine lg rfl rfl (lop_lss (W rfl id) (W rfl id)) rfl ?_
    first | refine lo (lop_pick_t (E rfl) (W rfl (by simp))) rfl ?_ | refine lo (lop_pick_f (E rfl) (E rfl)) rfl ?_ | refine lo (lop_pick (E rfl) (W rfl (by simp)) (E rfl)) rfl ?_
    apply le; (repeat (first | (apply KeepIs.take; rfl) | (apply KeepIs.skip; rfl) | exact KeepIs.nil))
    (repeat (first | refine cs ?_ | refine cb ?_ | refine ck ?_ | refine cx ?_ | refine cr ?_ | refine an ?_ | refine ae ?_ | refine ar ?_ | refine bn ?_ | refine bh ?_ | refine be rfl ?_ | refine br ?_ | refine ct rfl ?_ | refine cf rfl ?_))
    refine sw_cond rfl (fun h3 => ?_) (fun h3 => ?_)
    · cases b with
      | false => simp at h3
      | true =>
        obtain ⟨g1, g2, g3, g4, g5⟩ := hok.1 rfl
        have hlt : (j : Int) < o.2.2 := by simp at h3; omega
        obtain ⟨x, hx⟩ : ∃ x, fr[(o.2.1 + j - A).toNat]? = some x := ⟨_, List.getElem?_eq_getElem (by omega)⟩
        have hx2 : (longF A fr (130 - A - N))[(o.2.1 + (j : Int)).toNat]? = some x := by rw [long_at' (by omega) (by omega)]; exact hx
        have hll := long_len (a := A) (fr := fr) (z := 130 - A - N)
        have hst := hok.step hlt hx
        (repeat (first | refine cs ?_ | refine cb ?_ | refine ck ?_ | refine cx ?_ | refine cr ?_ | refine an ?_ | refine ae ?_ | refine ar ?_ | refine bn ?_ | refine bh ?_ | refine be rfl ?_ | refine br ?_ | refine ct rfl ?_ | refine cf rfl ?_))
        first | refine sw_seq_region ?_ | refine sw_region ?_
        refine lo (lop_move (E rfl)) rfl ?_
        refine lo (lop_move (E rfl)) rfl ?_
        first | refine lo (lop_index_ro (E rfl) (E rfl) (fun hc => by (simp only [List.length_map]; omega))) rfl ?_ | refine lo (lop_index_own0 (E rfl) (by repeat (first | exact sget_here | refine sget_next (by (first | assumption | (apply Nq.en; assumption) | omega | (simp only [Nq] at *; omega))) ?_)) (E rfl) (fun hc => by omega)) rfl ?_ | refine lo (lop_index_own (E rfl) (by repeat (first | exact sget_here | refine sget_next (by (first | assumption | (apply Nq.en; assumption) | omega | (simp only [Nq] at *; omega))) ?_)) (E rfl) (fun hc => by omega)) rfl ?_
        first | refine lo (lop_load_el (E rfl) rfl (fun hc => by first | rfl | exact get_map (by assumption) | assumption | exact get_map (at_bang (by omega))) (fun _ => rfl)) rfl ?_ | refine lo (lop_load_ow (E rfl) rfl (by repeat (first | exact sget_here | refine sget_next (by (first | assumption | (apply Nq.en; assumption) | omega | (simp only [Nq] at *; omega))) ?_)) (fun hc => by first | rfl | exact get_map (by assumption) | assumption | exact get_map (at_bang (by omega))) (fun _ => rfl)) rfl ?_
        refine lo (lop_assign (E rfl)) rfl ?_
        apply le; (repeat (first | (apply KeepIs.take; rfl) | (apply KeepIs.skip; rfl) | exact KeepIs.nil))
        (repeat (first | refine cs ?_ | refine cb ?_ | refine ck ?_ | refine cx ?_ | refine cr ?_ | refine an ?_ | refine ae ?_ | refine ar ?_ | refine bn ?_ | refine bh ?_ | refine be rfl ?_ | refine br ?_ | refine ct rfl ?_ | refine cf rfl ?_))
        first | refine sw_seq_region ?_ | refine sw_region ?_
        refine lo (lop_move (E rfl)) rfl ?_
        first | refine lo (lop_add64 (E rfl) (E rfl) (by omega) (by omega)) rfl ?_ | refine lo (lop_add (E rfl) (E rfl)) rfl ?_
        refine lo (lop_assign (E rfl)) rfl ?_
        apply le; (repeat (first | (apply KeepIs.take; rfl) | (apply KeepIs.skip; rfl) | exact KeepIs.nil))
        (repeat (first | refine cs ?_ | refine cb ?_ | refine ck ?_ | refine cx ?_ | refine cr ?_ | refine an ?_ | refine ae ?_ | refine ar ?_ | refine bn ?_ | refine bh ?_ | refine be rfl ?_ | refine br ?_ | refine ct rfl ?_ | refine cf rfl ?_))
        refine ⟨(j + 1, x == true), hst, ?_, ?_⟩
        · show (if (x == true) = true then (o.2.2.toNat - (j + 1)) + 1 else 0) < (if true = true then (o.2.2.toNat - j) + 1 else 0)
          rw [if_pos rfl]
          split <;> omega
        · rw [show (o.2.1 + (j : Int) + 1) = o.2.1 + ((j + 1 : Nat) : Int) by omega, show x = (x == true) by cases x <;> rfl]
          (refine sgo_st ?_ ?_ <;> (repeat (first | exact FrLe.nil | (apply FrLe.cons; rfl; first | exact VLe.refl _ | exact VLe.any | exact VLe.empty | exact VLe.of_eq (by simp) | exact VLe.of_eq (by congr 1; omega)) | exact StLe.nil | (apply StLe.cons; (repeat (first | exact List.mem_cons_self | apply List.mem_cons_of_mem)); first | rfl | focus (congr 1; done) | focus (simp; done) | (simp; rfl)))))
    have hb4 := hok.done (fun hb => by
      subst hb
      obtain ⟨g1, g2, g3, g4, g5⟩ := hok.1 rfl
      simp at h3
      omega)
    subst hb4
    (repeat (first | refine cs ?_ | refine cb ?_ | refine ck ?_ | refine cx ?_ | refine cr ?_ | refine an ?_ | refine ae ?_ | refine ar ?_ | refine bn ?_ | refine bh ?_ | refine be rfl ?_ | refine br ?_ | refine ct rfl ?_ | refine cf rfl ?_))
    first | refine sw_seq_region ?_ | refine sw_region ?_
    refine lo (lop_field_ptr (E rfl) rfl (by decide)) rfl ?_
    refine lo (lop_load_ptr (E rfl) rfl (by repeat (first | exact sget_here | refine sget_next (by (first | assumption | (apply Nq.en; assumption) | omega | (simp only [Nq] at *; omega))) ?_)) (fun _ => rfl)) rfl ?_
    refine lo (lop_assign (E rfl)) rfl ?_
    apply le; (repeat (first | (apply KeepIs.take; rfl) | (apply KeepIs.skip; rfl) | exact KeepIs.nil))
    (repeat (first | refine cs ?_ | refine cb ?_ | refine ck ?_ | refine cx ?_ | refine cr ?_ | refine an ?_ | refine ae ?_ | refine ar ?_ | refine bn ?_ | refine bh ?_ | refine be rfl ?_ | refine br ?_ | refine ct rfl ?_ | refine cf rfl ?_))
    refine lp (β := Nat × Bool) (fun b => ⟨[(0, .int .i64 A), (1, .int .i64 N), (2, .ro 3 (ops.map encX) .any), (8, .ptr s 0), (9, .own r45 0 130), (11, .int .i64 i), (13, .bool (allB A fr o.2.1 o.2.2 true)), (12, .ptr r12 0), (14, .bool b.2), (16, .int .i64 (o.2.1 + b.1))], [(r12, .box 63 [.int .i64 o.1, .int .i64 o.2.1, .int .i64 o.2.2]), (s, .box 83 [.int .i64 A, .own q 0 (fr).length]), (q, .arr 4 1 ((fr).map encB)), (r45, .arr 4 1 ((longF A (fr) (130 - A - N)).map encB))]⟩) (fun b => OkA A fr false o.2.1 o.2.2 b.1 b.2) (fun b => if b.2 then (o.2.2.toNat - b.1) + 1 else 0) (0, rng) ?_ (OkA.zero hrng) ?_
    · have e0 : o.2.1 + ((0 : Nat) : Int) = o.2.1 := by omega
      simp only [e0]
      (refine sgo_st ?_ ?_ <;> (repeat (first | exact FrLe.nil | (apply FrLe.cons; rfl; first | exact VLe.refl _ | exact VLe.any | exact VLe.empty | exact VLe.of_eq (by simp) | exact VLe.of_eq (by congr 1; omega)) | exact StLe.nil | (apply StLe.cons; (repeat (first | exact List.mem_cons_self | apply List.mem_cons_of_mem)); first | rfl | focus (congr 1; done) | focus (simp; done) | (simp; rfl)))))
    rintro ⟨j, b⟩ hok
    simp only at hok ⊢
    have hov : b = true → (1 ≤ o.2.2 ∧ (A : Int) ≤ o.2.1 ∧ o.2.1 + o.2.2 ≤ A + fr.length) := fun h => ⟨(hok.1 h).1, (hok.1 h).2.1, (hok.1 h).2.2.1⟩
    (repeat (first | refine cs ?_ | refine cb ?_ | refine ck ?_ | refine cx ?_ | refine cr ?_ | refine an ?_ | refine ae ?_ | refine ar ?_ | refine bn ?_ | refine bh ?_ | refine be rfl ?_ | refine br ?_ | refine ct rfl ?_ | refine cf rfl ?_))
    first | refine sw_seq_region ?_ | refine sw_region ?_
    refine lo (lop_move (E rfl)) rfl ?_
    refine lo (lop_move (E rfl)) rfl ?_
    first | refine ln rfl rfl rfl rfl ?_ | refine lg rfl rfl (lop_move (E rfl)) rfl ?_
    first | refine ln rfl rfl rfl rfl ?_ | refine lg rfl rfl (lop_field_ptr (E rfl) rfl (by decide)) rfl ?_
    first | refine ln rfl rfl rfl rfl ?_ | refine lg rfl rfl (lop_load_ptr (W rfl id) rfl (by repeat (first | exact sget_here | refine sget_next (by (first | assumption | (apply Nq.en; assumption) | omega | (simp only [Nq] at *; omega))) ?_)) (fun _ => rfl)) rfl ?_
    first | refine ln rfl rfl rfl rfl ?_ | refine lg rfl rfl (lop_field_ptr (E rfl) rfl (by decide)) rfl ?_
    first | refine ln rfl rfl rfl rfl ?_ | refine lg rfl rfl (lop_load_ptr (W rfl id) rfl (by repeat (first | exact sget_here | refine sget_next (by (first | assumption | (apply Nq.en; assumption) | omega | (simp only [Nq] at *; omega))) ?_)) (fun _ => rfl)) rfl ?_
    first | refine ln rfl rfl rfl rfl ?_ | refine lg rfl rfl (lop_add64 (W rfl id) (W rfl id) (by omega) (by omega)) rfl ?_ | refine lg rfl rfl (lop_add64c (W rfl id) (W rfl id) (fun hc => by simp at hc <;> first | omega | (have hov := hov hc; omega))) rfl ?_ | refine lg rfl rfl (lop_add (W rfl id) (W rfl id)) rfl ?_
    first | refine ln rfl rfl rfl rfl ?_ | refine lg rfl rfl (lop_lss (W rfl id) (W rfl id)) rfl ?_
    first | refine lo (lop_pick_t (E rfl) (W rfl (by simp))) rfl ?_ | refine lo (lop_pick_f (E rfl) (E rfl)) rfl ?_ | refine lo (lop_pick (E rfl) (W rfl (by simp)) (E rfl)) rfl ?_
    apply le; (repeat (first | (apply KeepIs.take; rfl) | (apply KeepIs.skip; rfl) | exact KeepIs.nil))
    (repeat (first | refine cs ?_ | refine cb ?_ | refine ck ?_ | refine cx ?_ | refine cr ?_ | refine an ?_ | refine ae ?_ | refine ar ?_ | refine bn ?_ | refine bh ?_ | refine be rfl ?_ | refine br ?_ | refine ct rfl ?_ | refine cf rfl ?_))
    refine sw_cond rfl (fun h3 => ?_) (fun h3 => ?_)
    · cases b with
      | false => simp at h3
      | true =>
        obtain ⟨g1, g2, g3, g4, g5⟩ := hok.1 rfl
        have hlt : (j : Int) < o.2.2 := by simp at h3; omega
        obtain ⟨x, hx⟩ : ∃ x, fr[(o.2.1 + j - A).toNat]? = some x := ⟨_, List.getElem?_eq_getElem (by omega)⟩
        have hx2 : (longF A fr (130 - A - N))[(o.2.1 + (j : Int)).toNat]? = some x := by rw [long_at' (by omega) (by omega)]; exact hx
        have hll := long_len (a := A) (fr := fr) (z := 130 - A - N)
        have hst := hok.step hlt hx
        (repeat (first | refine cs ?_ | refine cb ?_ | refine ck ?_ | refine cx ?_ | refine cr ?_ | refine an ?_ | refine ae ?_ | refine ar ?_ | refine bn ?_ | refine bh ?_ | refine be rfl ?_ | refine br ?_ | refine ct rfl ?_ | refine cf rfl ?_))
        first | refine sw_seq_region ?_ | refine sw_region ?_
        refine lo (lop_move (E rfl)) rfl ?_
        refine lo (lop_move (E rfl)) rfl ?_
        first | refine lo (lop_index_ro (E rfl) (E rfl) (fun hc => by (simp only [List.length_map]; omega))) rfl ?_ | refine lo (lop_index_own0 (E rfl) (by repeat (first | exact sget_here | refine sget_next (by (first | assumption | (apply Nq.en; assumption) | omega | (simp only [Nq] at *; omega))) ?_)) (E rfl) (fun hc => by omega)) rfl ?_ | refine lo (lop_index_own (E rfl) (by repeat (first | exact sget_here | refine sget_next (by (first | assumption | (apply Nq.en; assumption) | omega | (simp only [Nq] at *; omega))) ?_)) (E rfl) (fun hc => by omega)) rfl ?_
        first | refine lo (lop_load_el (E rfl) rfl (fun hc => by first | rfl | exact get_map (by assumption) | assumption | exact get_map (at_bang (by omega))) (fun _ => rfl)) rfl ?_ | refine lo (lop_load_ow (E rfl) rfl (by repeat (first | exact sget_here | refine sget_next (by (first | assumption | (apply Nq.en; assumption) | omega | (simp only [Nq] at *; omega))) ?_)) (fun hc => by first | rfl | exact get_map (by assumption) | assumption | exact get_map (at_bang (by omega))) (fun _ => rfl)) rfl ?_
        refine lo (lop_not (E rfl)) rfl ?_
        refine lo (lop_assign (E rfl)) rfl ?_
        apply le; (repeat (first | (apply KeepIs.take; rfl) | (apply KeepIs.skip; rfl) | exact KeepIs.nil))
        (repeat (first | refine cs ?_ | refine cb ?_ | refine ck ?_ | refine cx ?_ | refine cr ?_ | refine an ?_ | refine ae ?_ | refine ar ?_ | refine bn ?_ | refine bh ?_ | refine be rfl ?_ | refine br ?_ | refine ct rfl ?_ | refine cf rfl ?_))
        first | refine sw_seq_region ?_ | refine sw_region ?_
        refine lo (lop_move (E rfl)) rfl ?_
        first | refine lo (lop_add64 (E rfl) (E rfl) (by omega) (by omega)) rfl ?_ | refine lo (lop_add (E rfl) (E rfl)) rfl ?_
        refine lo (lop_assign (E rfl)) rfl ?_
        apply le; (repeat (first | (apply KeepIs.take; rfl) | (apply KeepIs.skip; rfl) | exact KeepIs.nil))
        (repeat (first | refine cs ?_ | refine cb ?_ | refine ck ?_ | refine cx ?_ | refine cr ?_ | refine an ?_ | refine ae ?_ | refine ar ?_ | refine bn ?_ | refine bh ?_ | refine be rfl ?_ | refine br ?_ | refine ct rfl ?_ | refine cf rfl ?_))
        refine ⟨(j + 1, x == false), hst, ?_, ?_⟩
        · show (if (x == false) = true then (o.2.2.toNat - (j + 1)) + 1 else 0) < (if true = true then (o.2.2.toNat - j) + 1 else 0)
          rw [if_pos rfl]
          split <;> omega
        · rw [show (o.2.1 + (j : Int) + 1) = o.2.1 + ((j + 1 : Nat) : Int) by omega, show (!x) = (x == false) by cases x <;> rfl]
          (refine sgo_st ?_ ?_ <;> (repeat (first | exact FrLe.nil | (apply FrLe.cons; rfl; first | exact VLe.refl _ | exact VLe.any | exact VLe.empty | exact VLe.of_eq (by simp) | exact VLe.of_eq (by congr 1; omega)) | exact StLe.nil | (apply StLe.cons; (repeat (first | exact List.mem_cons_self | apply List.mem_cons_of_mem)); first | rfl | focus (congr 1; done) | focus (simp; done) | (simp; rfl)))))
    have hb6 := hok.done (fun hb => by
      subst hb
      obtain ⟨g1, g2, g3, g4, g5⟩ := hok.1 rfl
      simp at h3
      omega)
    subst hb6
    (repeat (first | refine cs ?_ | refine cb ?_ | refine ck ?_ | refine cx ?_ | refine cr ?_ | refine an ?_ | refine ae ?_ | refine ar ?_ | refine bn ?_ | refine bh ?_ | refine be rfl ?_ | refine br ?_ | refine ct rfl ?_ | refine cf rfl ?_))
    first | refine sw_seq_region ?_ | refine sw_region ?_
    refine lo (lop_field_ptr (E rfl) rfl (by decide)) rfl ?_
    refine lo (lop_load_ptr (E rfl) rfl (by repeat (first | exact sget_here | refine sget_next (by (first | assumption | (apply Nq.en; assumption) | omega | (simp only [Nq] at *; omega))) ?_)) (fun _ => rfl)) rfl ?_
    apply le; (repeat (first | (apply KeepIs.take; rfl) | (apply KeepIs.skip; rfl) | exact KeepIs.nil))
    (repeat (first | refine cs ?_ | refine cb ?_ | refine ck ?_ | refine cx ?_ | refine cr ?_ | refine an ?_ | refine ae ?_ | refine ar ?_ | refine bn ?_ | refine bh ?_ | refine be rfl ?_ | refine br ?_ | refine ct rfl ?_ | refine cf rfl ?_))
    first | refine sw_seq_region ?_ | refine sw_region ?_
    refine lo (lop_eql (E rfl) (E rfl)) rfl ?_
    refine lo (lop_assign (E rfl)) rfl ?_
    apply le; (repeat (first | (apply KeepIs.take; rfl) | (apply KeepIs.skip; rfl) | exact KeepIs.nil))
    (repeat (first | refine cs ?_ | refine cb ?_ | refine ck ?_ | refine cx ?_ | refine cr ?_ | refine an ?_ | refine ae ?_ | refine ar ?_ | refine bn ?_ | refine bh ?_ | refine be rfl ?_ | refine br ?_ | refine ct rfl ?_ | refine cf rfl ?_))
    refine sw_cond rfl (fun h4 => ?_) (fun h4 => ?_)
    · (repeat (first | refine cs ?_ | refine cb ?_ | refine ck ?_ | refine cx ?_ | refine cr ?_ | refine an ?_ | refine ae ?_ | refine ar ?_ | refine bn ?_ | refine bh ?_ | refine be rfl ?_ | refine br ?_ | refine ct rfl ?_ | refine cf rfl ?_))
      first | refine sw_seq_region ?_ | refine sw_region ?_
      refine lo (lop_assign (E rfl)) rfl ?_
      apply le; (repeat (first | (apply KeepIs.take; rfl) | (apply KeepIs.skip; rfl) | exact KeepIs.nil))
      (repeat (first | refine cs ?_ | refine cb ?_ | refine ck ?_ | refine cx ?_ | refine cr ?_ | refine an ?_ | refine ae ?_ | refine ar ?_ | refine bn ?_ | refine bh ?_ | refine be rfl ?_ | refine br ?_ | refine ct rfl ?_ | refine cf rfl ?_))
      first | refine sw_seq_region ?_ | refine sw_region ?_
      refine lo (lop_move (E rfl)) rfl ?_
      refine lo (lop_assign (E rfl)) rfl ?_
      apply le; (repeat (first | (apply KeepIs.take; rfl) | (apply KeepIs.skip; rfl) | exact KeepIs.nil))
      (repeat (first | refine cs ?_ | refine cb ?_ | refine ck ?_ | refine cx ?_ | refine cr ?_ | refine an ?_ | refine ae ?_ | refine ar ?_ | refine bn ?_ | refine bh ?_ | refine be rfl ?_ | refine br ?_ | refine ct rfl ?_ | refine cf rfl ?_))
      refine lp (β := Nat × Int) (fun b => ⟨[(0, .int .i64 A), (1, .int .i64 N), (2, .ro 3 (ops.map encX) .any), (8, .ptr s 0), (9, .own r45 0 130), (11, .int .i64 i), (12, .ptr r12 0), (17, .int .i64 b.2), (18, .int .i64 ((A : Int) + b.1))], [(r12, .box 63 [.int .i64 o.1, .int .i64 o.2.1, .int .i64 o.2.2]), (s, .box 83 [.int .i64 A, .own q 0 (fr).length]), (q, .arr 4 1 ((fr).map encB)), (r45, .arr 4 1 ((longF A (fr) (130 - A - N)).map encB))]⟩) (fun b => OkW A fr o.2.2.toNat b.1 b.2 ∧ b.1 ≤ N + 1 ∧ -1 ≤ b.2) (fun b => N + 1 - b.1) (0, -1) ?_ ⟨.inl ⟨rfl, fun i hi => absurd hi (by omega)⟩, by show 0 ≤ N + 1; omega, by show (-1 : Int) ≤ -1; omega⟩ ?_
      · have e0 : (A : Int) + ((0 : Nat) : Int) = A := by omega
        simp only [e0]
        (refine sgo_st ?_ ?_ <;> (repeat (first | exact FrLe.nil | (apply FrLe.cons; rfl; first | exact VLe.refl _ | exact VLe.any | exact VLe.empty | exact VLe.of_eq (by simp) | exact VLe.of_eq (by congr 1; omega)) | exact StLe.nil | (apply StLe.cons; (repeat (first | exact List.mem_cons_self | apply List.mem_cons_of_mem)); first | rfl | focus (congr 1; done) | focus (simp; done) | (simp; rfl)))))
      rintro ⟨j, V⟩ ⟨hok, hjN, hV1⟩
      simp only at hok hjN hV1 ⊢
      (repeat (first | refine cs ?_ | refine cb ?_ | refine ck ?_ | refine cx ?_ | refine cr ?_ | refine an ?_ | refine ae ?_ | refine ar ?_ | refine bn ?_ | refine bh ?_ | refine be rfl ?_ | refine br ?_ | refine ct rfl ?_ | refine cf rfl ?_))
      first | refine sw_seq_region ?_ | refine sw_region ?_
      refine lo (lop_field_ptr (E rfl) rfl (by decide)) rfl ?_
      refine lo (lop_load_ptr (E rfl) rfl (by repeat (first | exact sget_here | refine sget_next (by (first | assumption | (apply Nq.en; assumption) | omega | (simp only [Nq] at *; omega))) ?_)) (fun _ => rfl)) rfl ?_
      refine lo (lop_geq (E rfl) (E rfl)) rfl ?_
      refine lo (lop_move (E rfl)) rfl ?_
      first | refine ln rfl rfl rfl rfl ?_ | refine lg rfl rfl (lop_move (E rfl)) rfl ?_
      first | refine ln rfl rfl rfl rfl ?_ | refine lg rfl rfl (lop_lss (W rfl id) (E rfl)) rfl ?_
      first | refine lo (lop_pick_t (E rfl) (W rfl (by simp))) rfl ?_ | refine lo (lop_pick_f (E rfl) (E rfl)) rfl ?_ | refine lo (lop_pick (E rfl) (W rfl (by simp)) (E rfl)) rfl ?_
      refine lo (lop_move (E rfl)) rfl ?_
      first | refine ln rfl rfl rfl rfl ?_ | refine lg rfl rfl (lop_field_ptr (E rfl) rfl (by decide)) rfl ?_
      first | refine ln rfl rfl rfl rfl ?_ | refine lg rfl rfl (lop_load_ptr (W rfl id) rfl (by repeat (first | exact sget_here | refine sget_next (by (first | assumption | (apply Nq.en; assumption) | omega | (simp only [Nq] at *; omega))) ?_)) (fun _ => rfl)) rfl ?_
      first | refine ln rfl rfl rfl rfl ?_ | refine lg rfl rfl (lop_move (E rfl)) rfl ?_
      first | refine ln rfl rfl rfl rfl ?_ | refine lg rfl rfl (lop_leq (W rfl id) (W rfl id)) rfl ?_
      first | refine lo (lop_pick_t (E rfl) (W rfl (by simp))) rfl ?_ | refine lo (lop_pick_f (E rfl) (E rfl)) rfl ?_ | refine lo (lop_pick (E rfl) (W rfl (by simp)) (E rfl)) rfl ?_
      refine lo (lop_move (E rfl)) rfl ?_
      first | refine ln rfl rfl rfl rfl ?_ | refine lg rfl rfl (lop_move (E rfl)) rfl ?_
      first | refine ln rfl rfl rfl rfl ?_ | refine lg rfl rfl (lop_move (E rfl)) rfl ?_
      first | refine ln rfl rfl rfl rfl ?_ | refine lg rfl rfl (lop_move (E rfl)) rfl ?_
      first | refine ln rfl rfl rfl rfl ?_ | refine lg rfl rfl (lop_add64 (W rfl id) (W rfl id) (by omega) (by omega)) rfl ?_ | refine lg rfl rfl (lop_add64c (W rfl id) (W rfl id) (fun hc => by simp at hc <;> first | omega | (have hov := hov hc; omega))) rfl ?_ | refine lg rfl rfl (lop_add (W rfl id) (W rfl id)) rfl ?_
      first | refine ln rfl rfl rfl rfl ?_ | refine lg rfl rfl (lop_field_ptr (E rfl) rfl (by decide)) rfl ?_
      first | refine ln rfl rfl rfl rfl ?_ | refine lg rfl rfl (lop_load_ptr (W rfl id) rfl (by repeat (first | exact sget_here | refine sget_next (by (first | assumption | (apply Nq.en; assumption) | omega | (simp only [Nq] at *; omega))) ?_)) (fun _ => rfl)) rfl ?_
      first | refine ln rfl rfl rfl rfl ?_ | refine lg rfl rfl (lop_sub64 (W rfl id) (W rfl id) (by omega) (by omega)) rfl ?_ | refine lg rfl rfl (lop_sub64c (W rfl id) (W rfl id) (fun hc => by simp at hc <;> first | omega | (have hov := hov hc; omega))) rfl ?_ | refine lg rfl rfl (lop_sub (W rfl id) (W rfl id)) rfl ?_
      first | refine ln rfl rfl rfl rfl ?_ | refine lg rfl rfl (lop_leq (W rfl id) (W rfl id)) rfl ?_
      first | refine lo (lop_pick_t (E rfl) (W rfl (by simp))) rfl ?_ | refine lo (lop_pick_f (E rfl) (E rfl)) rfl ?_ | refine lo (lop_pick (E rfl) (W rfl (by simp)) (E rfl)) rfl ?_
      apply le; (repeat (first | (apply KeepIs.take; rfl) | (apply KeepIs.skip; rfl) | exact KeepIs.nil))
      (repeat (first | refine cs ?_ | refine cb ?_ | refine ck ?_ | refine cx ?_ | refine cr ?_ | refine an ?_ | refine ae ?_ | refine ar ?_ | refine bn ?_ | refine bh ?_ | refine be rfl ?_ | refine br ?_ | refine ct rfl ?_ | refine cf rfl ?_))
      refine sw_cond rfl (fun h5 => ?_) (fun h5 => ?_)
      · have g : 1 ≤ o.2.2 ∧ V < 0 ∧ o.2.2 ≤ N ∧ (j : Int) + o.2.2 ≤ N := by simp at h5; omega
        obtain ⟨g1, g2, g3, g4⟩ := g
        obtain ⟨rfl, hno⟩ : V = -1 ∧ ∀ i, i < j → ¬ Win fr i o.2.2.toNat := by
          rcases hok with h | ⟨_, _, h, _⟩
          · exact h
          · omega
        (repeat (first | refine cs ?_ | refine cb ?_ | refine ck ?_ | refine cx ?_ | refine cr ?_ | refine an ?_ | refine ae ?_ | refine ar ?_ | refine bn ?_ | refine bh ?_ | refine be rfl ?_ | refine br ?_ | refine ct rfl ?_ | refine cf rfl ?_))
        first | refine sw_seq_region ?_ | refine sw_region ?_
        refine lo (lop_assign (E rfl)) rfl ?_
        apply le; (repeat (first | (apply KeepIs.take; rfl) | (apply KeepIs.skip; rfl) | exact KeepIs.nil))
        (repeat (first | refine cs ?_ | refine cb ?_ | refine ck ?_ | refine cx ?_ | refine cr ?_ | refine an ?_ | refine ae ?_ | refine ar ?_ | refine bn ?_ | refine bh ?_ | refine be rfl ?_ | refine br ?_ | refine ct rfl ?_ | refine cf rfl ?_))
        first | refine sw_seq_region ?_ | refine sw_region ?_
        refine lo (lop_move (E rfl)) rfl ?_
        refine lo (lop_assign (E rfl)) rfl ?_
        apply le; (repeat (first | (apply KeepIs.take; rfl) | (apply KeepIs.skip; rfl) | exact KeepIs.nil))
        (repeat (first | refine cs ?_ | refine cb ?_ | refine ck ?_ | refine cx ?_ | refine cr ?_ | refine an ?_ | refine ae ?_ | refine ar ?_ | refine bn ?_ | refine bh ?_ | refine be rfl ?_ | refine br ?_ | refine ct rfl ?_ | refine cf rfl ?_))
        refine lp (β := Nat × Bool) (fun b => ⟨[(0, .int .i64 A), (1, .int .i64 N), (2, .ro 3 (ops.map encX) .any), (8, .ptr s 0), (9, .own r45 0 130), (11, .int .i64 i), (12, .ptr r12 0), (17, .int .i64 (-1)), (18, .int .i64 ((A : Int) + (j : Int))), (19, .bool b.2), (20, .int .i64 ((A : Int) + (j : Int) + (b.1 : Int)))], [(r12, .box 63 [.int .i64 o.1, .int .i64 o.2.1, .int .i64 o.2.2]), (s, .box 83 [.int .i64 A, .own q 0 (fr).length]), (q, .arr 4 1 ((fr).map encB)), (r45, .arr 4 1 ((longF A (fr) (130 - A - N)).map encB))]⟩) (fun b => (b.1 : Int) ≤ o.2.2 ∧ (b.2 = true ↔ Win fr j b.1)) (fun b => o.2.2.toNat - b.1) (0, true) ?_ ⟨by show ((0 : Nat) : Int) ≤ o.2.2; omega, ⟨fun _ i h6 h7 => absurd h7 (by simp only; omega), fun _ => rfl⟩⟩ ?_
        · have e0 : (A : Int) + (j : Int) + ((0 : Nat) : Int) = (A : Int) + j := by omega
          simp only [e0]
          (refine sgo_st ?_ ?_ <;> (repeat (first | exact FrLe.nil | (apply FrLe.cons; rfl; first | exact VLe.refl _ | exact VLe.any | exact VLe.empty | exact VLe.of_eq (by simp) | exact VLe.of_eq (by congr 1; omega)) | exact StLe.nil | (apply StLe.cons; (repeat (first | exact List.mem_cons_self | apply List.mem_cons_of_mem)); first | rfl | focus (congr 1; done) | focus (simp; done) | (simp; rfl)))))
        rintro ⟨t, S⟩ ⟨hto, hS⟩
        simp only at hto hS ⊢
        (repeat (first | refine cs ?_ | refine cb ?_ | refine ck ?_ | refine cx ?_ | refine cr ?_ | refine an ?_ | refine ae ?_ | refine ar ?_ | refine bn ?_ | refine bh ?_ | refine be rfl ?_ | refine br ?_ | refine ct rfl ?_ | refine cf rfl ?_))
        first | refine sw_seq_region ?_ | refine sw_region ?_
        refine lo (lop_move (E rfl)) rfl ?_
        refine lo (lop_move (E rfl)) rfl ?_
        refine lo (lop_field_ptr (E rfl) rfl (by decide)) rfl ?_
        refine lo (lop_load_ptr (E rfl) rfl (by repeat (first | exact sget_here | refine sget_next (by (first | assumption | (apply Nq.en; assumption) | omega | (simp only [Nq] at *; omega))) ?_)) (fun _ => rfl)) rfl ?_
        first | refine lo (lop_add64 (E rfl) (E rfl) (by omega) (by omega)) rfl ?_ | refine lo (lop_add (E rfl) (E rfl)) rfl ?_
        refine lo (lop_lss (E rfl) (E rfl)) rfl ?_
        apply le; (repeat (first | (apply KeepIs.take; rfl) | (apply KeepIs.skip; rfl) | exact KeepIs.nil))
        (repeat (first | refine cs ?_ | refine cb ?_ | refine ck ?_ | refine cx ?_ | refine cr ?_ | refine an ?_ | refine ae ?_ | refine ar ?_ | refine bn ?_ | refine bh ?_ | refine be rfl ?_ | refine br ?_ | refine ct rfl ?_ | refine cf rfl ?_))
        refine sw_cond rfl (fun h6 => ?_) (fun h6 => ?_)
        · have hlt2 : (t : Int) < o.2.2 := by simp at h6; omega
          obtain ⟨x, hx⟩ : ∃ x, fr[j + t]? = some x := ⟨_, List.getElem?_eq_getElem (by omega)⟩
          have hx2 : (longF A fr (130 - A - N))[((A : Int) + (j : Int) + (t : Int)).toNat]? = some x := by rw [long_at' (by omega) (by omega), show ((A : Int) + (j : Int) + (t : Int) - A).toNat = j + t by omega]; exact hx
          have hll := long_len (a := A) (fr := fr) (z := 130 - A - N)
          (repeat (first | refine cs ?_ | refine cb ?_ | refine ck ?_ | refine cx ?_ | refine cr ?_ | refine an ?_ | refine ae ?_ | refine ar ?_ | refine bn ?_ | refine bh ?_ | refine be rfl ?_ | refine br ?_ | refine ct rfl ?_ | refine cf rfl ?_))
          first | refine sw_seq_region ?_ | refine sw_region ?_
          refine lo (lop_move (E rfl)) rfl ?_
          refine lo (lop_move (E rfl)) rfl ?_
          first | refine ln rfl rfl rfl rfl ?_ | refine lg rfl rfl (lop_move (E rfl)) rfl ?_
          first | refine ln rfl rfl rfl rfl ?_ | refine lg rfl rfl (lop_move (E rfl)) rfl ?_
          first | refine ln rfl rfl rfl rfl ?_ | refine lg rfl rfl (lop_index_ro (W rfl id) (W rfl id) (fun hc => by (try simp at hc) <;> (simp only [List.length_map]; omega))) rfl ?_ | refine lg rfl rfl (lop_index_own0 (W rfl id) (by repeat (first | exact sget_here | refine sget_next (by (first | assumption | (apply Nq.en; assumption) | omega | (simp only [Nq] at *; omega))) ?_)) (W rfl id) (fun hc => by (try simp at hc) <;> omega)) rfl ?_ | refine lg rfl rfl (lop_index_own (W rfl id) (by repeat (first | exact sget_here | refine sget_next (by (first | assumption | (apply Nq.en; assumption) | omega | (simp only [Nq] at *; omega))) ?_)) (W rfl id) (fun hc => by (try simp at hc) <;> omega)) rfl ?_
          first | refine ln rfl rfl rfl rfl ?_ | refine lg rfl rfl (lop_load_el (W rfl id) rfl (fun hc => by first | rfl | exact get_map (by assumption) | assumption | exact get_map (at_bang (by (try simp at hc) <;> omega))) (fun _ => rfl)) rfl ?_ | refine lg rfl rfl (lop_load_ow (W rfl id) rfl (by repeat (first | exact sget_here | refine sget_next (by (first | assumption | (apply Nq.en; assumption) | omega | (simp only [Nq] at *; omega))) ?_)) (fun hc => by first | rfl | exact get_map (by assumption) | assumption | exact get_map (at_bang (by (try simp at hc) <;> omega))) (fun _ => rfl)) rfl ?_
          first | refine lo (lop_pick_t (E rfl) (W rfl (by simp))) rfl ?_ | refine lo (lop_pick_f (E rfl) (E rfl)) rfl ?_ | refine lo (lop_pick (E rfl) (W rfl (by simp)) (E rfl)) rfl ?_
          refine lo (lop_assign (E rfl)) rfl ?_
          apply le; (repeat (first | (apply KeepIs.take; rfl) | (apply KeepIs.skip; rfl) | exact KeepIs.nil))
          (repeat (first | refine cs ?_ | refine cb ?_ | refine ck ?_ | refine cx ?_ | refine cr ?_ | refine an ?_ | refine ae ?_ | refine ar ?_ | refine bn ?_ | refine bh ?_ | refine be rfl ?_ | refine br ?_ | refine ct rfl ?_ | refine cf rfl ?_))
          first | refine sw_seq_region ?_ | refine sw_region ?_
          refine lo (lop_move (E rfl)) rfl ?_
          first | refine lo (lop_add64 (E rfl) (E rfl) (by omega) (by omega)) rfl ?_ | refine lo (lop_add (E rfl) (E rfl)) rfl ?_
          refine lo (lop_assign (E rfl)) rfl ?_
          apply le; (repeat (first | (apply KeepIs.take; rfl) | (apply KeepIs.skip; rfl) | exact KeepIs.nil))
          (repeat (first | refine cs ?_ | refine cb ?_ | refine ck ?_ | refine cx ?_ | refine cr ?_ | refine an ?_ | refine ae ?_ | refine ar ?_ | refine bn ?_ | refine bh ?_ | refine be rfl ?_ | refine br ?_ | refine ct rfl ?_ | refine cf rfl ?_))
          refine ⟨(t + 1, if S then x else false), ⟨by show ((t + 1 : Nat) : Int) ≤ o.2.2; omega, Win.snoc hx hS⟩, by show o.2.2.toNat - (t + 1) < o.2.2.toNat - t; omega, ?_⟩
          rw [show (A : Int) + (j : Int) + (t : Int) + 1 = (A : Int) + (j : Int) + ((t + 1 : Nat) : Int) by omega]
          (refine sgo_st ?_ ?_ <;> (repeat (first | exact FrLe.nil | (apply FrLe.cons; rfl; first | exact VLe.refl _ | exact VLe.any | exact VLe.empty | exact VLe.of_eq (by simp) | exact VLe.of_eq (by congr 1; omega)) | exact StLe.nil | (apply StLe.cons; (repeat (first | exact List.mem_cons_self | apply List.mem_cons_of_mem)); first | rfl | focus (congr 1; done) | focus (simp; done) | (simp; rfl)))))
        have ht2 : t = o.2.2.toNat := by simp at h6; omega
        subst ht2
        (repeat (first | refine cs ?_ | refine cb ?_ | refine ck ?_ | refine cx ?_ | refine cr ?_ | refine an ?_ | refine ae ?_ | refine ar ?_ | refine bn ?_ | refine bh ?_ | refine be rfl ?_ | refine br ?_ | refine ct rfl ?_ | refine cf rfl ?_))
        first | refine sw_seq_region ?_ | refine sw_region ?_
        refine lo (lop_move (E rfl)) rfl ?_
        apply le; (repeat (first | (apply KeepIs.take; rfl) | (apply KeepIs.skip; rfl) | exact KeepIs.nil))
        (repeat (first | refine cs ?_ | refine cb ?_ | refine ck ?_ | refine cx ?_ | refine cr ?_ | refine an ?_ | refine ae ?_ | refine ar ?_ | refine bn ?_ | refine bh ?_ | refine be rfl ?_ | refine br ?_ | refine ct rfl ?_ | refine cf rfl ?_))
        refine sw_cond rfl (fun h7 => ?_) (fun h7 => ?_)
        · (repeat (first | refine cs ?_ | refine cb ?_ | refine ck ?_ | refine cx ?_ | refine cr ?_ | refine an ?_ | refine ae ?_ | refine ar ?_ | refine bn ?_ | refine bh ?_ | refine be rfl ?_ | refine br ?_ | refine ct rfl ?_ | refine cf rfl ?_))
          first | refine sw_seq_region ?_ | refine sw_region ?_
          refine lo (lop_move (E rfl)) rfl ?_
          refine lo (lop_assign (E rfl)) rfl ?_
          apply le; (repeat (first | (apply KeepIs.take; rfl) | (apply KeepIs.skip; rfl) | exact KeepIs.nil))
          (repeat (first | refine cs ?_ | refine cb ?_ | refine ck ?_ | refine cx ?_ | refine cr ?_ | refine an ?_ | refine ae ?_ | refine ar ?_ | refine bn ?_ | refine bh ?_ | refine be rfl ?_ | refine br ?_ | refine ct rfl ?_ | refine cf rfl ?_))
          first | refine sw_seq_region ?_ | refine sw_region ?_
          refine lo (lop_move (E rfl)) rfl ?_
          first | refine lo (lop_add64 (E rfl) (E rfl) (by omega) (by omega)) rfl ?_ | refine lo (lop_add (E rfl) (E rfl)) rfl ?_
          refine lo (lop_assign (E rfl)) rfl ?_
          apply le; (repeat (first | (apply KeepIs.take; rfl) | (apply KeepIs.skip; rfl) | exact KeepIs.nil))
          (repeat (first | refine cs ?_ | refine cb ?_ | refine ck ?_ | refine cx ?_ | refine cr ?_ | refine an ?_ | refine ae ?_ | refine ar ?_ | refine bn ?_ | refine bh ?_ | refine be rfl ?_ | refine br ?_ | refine ct rfl ?_ | refine cf rfl ?_))
          refine ⟨(j + 1, (A : Int) + j), ⟨.inr ⟨by omega, by simp only; omega, by simp only [Nat.add_sub_cancel], hS.1 h7, hno⟩, by show j + 1 ≤ N + 1; omega, by show (-1 : Int) ≤ (A : Int) + j; omega⟩, by show N + 1 - (j + 1) < N + 1 - j; omega, ?_⟩
          rw [show (A : Int) + (j : Int) + 1 = (A : Int) + ((j + 1 : Nat) : Int) by omega]
          (refine sgo_st ?_ ?_ <;> (repeat (first | exact FrLe.nil | (apply FrLe.cons; rfl; first | exact VLe.refl _ | exact VLe.any | exact VLe.empty | exact VLe.of_eq (by simp) | exact VLe.of_eq (by congr 1; omega)) | exact StLe.nil | (apply StLe.cons; (repeat (first | exact List.mem_cons_self | apply List.mem_cons_of_mem)); first | rfl | focus (congr 1; done) | focus (simp; done) | (simp; rfl)))))
        · (repeat (first | refine cs ?_ | refine cb ?_ | refine ck ?_ | refine cx ?_ | refine cr ?_ | refine an ?_ | refine ae ?_ | refine ar ?_ | refine bn ?_ | refine bh ?_ | refine be rfl ?_ | refine br ?_ | refine ct rfl ?_ | refine cf rfl ?_))
          first | refine sw_seq_region ?_ | refine sw_region ?_
          refine lo (lop_move (E rfl)) rfl ?_
          first | refine lo (lop_add64 (E rfl) (E rfl) (by omega) (by omega)) rfl ?_ | refine lo (lop_add (E rfl) (E rfl)) rfl ?_
          refine lo (lop_assign (E rfl)) rfl ?_
          apply le; (repeat (first | (apply KeepIs.take; rfl) | (apply KeepIs.skip; rfl) | exact KeepIs.nil))
          (repeat (first | refine cs ?_ | refine cb ?_ | refine ck ?_ | refine cx ?_ | refine cr ?_ | refine an ?_ | refine ae ?_ | refine ar ?_ | refine bn ?_ | refine bh ?_ | refine be rfl ?_ | refine br ?_ | refine ct rfl ?_ | refine cf rfl ?_))
          refine ⟨(j + 1, -1), ⟨.inl ⟨rfl, fun i hi hw => ?_⟩, by show j + 1 ≤ N + 1; omega, by show (-1 : Int) ≤ -1; omega⟩, by show N + 1 - (j + 1) < N + 1 - j; omega, ?_⟩
          · by_cases hij : i < j
            · exact hno i hij hw
            · obtain rfl : i = j := by simp only at hi; omega
              rw [hS.2 hw] at h7
              cases h7
          · rw [show (A : Int) + (j : Int) + 1 = (A : Int) + ((j + 1 : Nat) : Int) by omega]
            (refine sgo_st ?_ ?_ <;> (repeat (first | exact FrLe.nil | (apply FrLe.cons; rfl; first | exact VLe.refl _ | exact VLe.any | exact VLe.empty | exact VLe.of_eq (by simp) | exact VLe.of_eq (by congr 1; omega)) | exact StLe.nil | (apply StLe.cons; (repeat (first | exact List.mem_cons_self | apply List.mem_cons_of_mem)); first | rfl | focus (congr 1; done) | focus (simp; done) | (simp; rfl)))))
      have hW := hok.done (fun g1 g2 g3 => by
        have g3' : o.2.2 ≤ (N : Int) := by omega
        simp [g1, g2, g3'] at h5
        omega)
      rcases hW with ⟨hW, rfl⟩ | ⟨p, hW, rfl⟩
      · have tv := takV_none hW
        have tf : takF A fr o.2.2 = fr := by unfold takF; rw [hW]
        (repeat (first | refine cs ?_ | refine cb ?_ | refine ck ?_ | refine cx ?_ | refine cr ?_ | refine an ?_ | refine ae ?_ | refine ar ?_ | refine bn ?_ | refine bh ?_ | refine be rfl ?_ | refine br ?_ | refine ct rfl ?_ | refine cf rfl ?_))
        first | refine sw_seq_region ?_ | refine sw_region ?_
        refine lo (lop_move (E rfl)) rfl ?_
        refine lo (lop_field_ptr (E rfl) rfl (by decide)) rfl ?_
        refine lo (lop_load_ptr (E rfl) rfl (by repeat (first | exact sget_here | refine sget_next (by (first | assumption | (apply Nq.en; assumption) | omega | (simp only [Nq] at *; omega))) ?_)) (fun _ => rfl)) rfl ?_
        refine cw [(s, .box 83 [.int .i64 A, .own q 0 (fr).length]), (q, .arr 4 1 ((fr).map encB))] Try.call25 (extent_take hq A fr (by omega) (by omega) (by omega) o.2.2) rfl ?_ ?_ ?_
        · (repeat (first | exact ArgsLe.nil | (apply ArgsLe.cons; rfl; first | exact VLe.refl _ | exact VLe.when rfl | exact VLe.any | exact VLe.empty | exact VLe.of_eq (by simp))))
        · (first | exact no_mem | (apply StLe.mem; (repeat (first | exact StLe.nil | (apply StLe.cons; (repeat (first | exact List.mem_cons_self | apply List.mem_cons_of_mem)); first | rfl | focus (congr 1; done) | focus (simp; done) | (simp; rfl))))))
        rintro x σ' ⟨rfl, rfl⟩ -
        rw [tv, tf]
        (apply rs_sto; (first | (simp (disch := (first | (simp only [List.mem_cons, List.not_mem_nil, true_or, or_true, or_false]; done) | (focus (simp only [List.mem_cons, List.not_mem_nil, or_false, not_or]; (repeat' (first | apply And.intro | (first | assumption | (apply Nq.en; assumption) | omega | (simp only [Nq] at *; omega)))); done)) | omega)) only [↓put_σ, ↓mk_σ, AV.cells, sset, sdrop_none, sdrop_nil, sdrop_in, sdrop_out, List.nil_append, List.cons_append, List.append_nil, List.map_nil, List.map_cons, List.take_succ_cons, List.take_zero, List.drop_succ_cons, List.drop_zero, take_len', take_map_len, Nat.zero_add, Nat.add_zero, ofCell, ofConst]; rfl) | rfl))
        refine lo (lop_move (E rfl)) rfl ?_
        refine lo (lop_extract (E rfl) rfl) rfl ?_
        refine lo (lop_extract (E rfl) rfl) rfl ?_
        apply al; rfl; (first | (simp only [Value.cells, AV.cells, List.map_cons, List.map_nil, ofConst, ofCell]; rfl) | rfl); intro r21 h21; simp only [fresh_cons, fresh_nil, and_true] at h21; (repeat (rcases h21 with ⟨_, h21⟩))
        apply stp; rfl; rfl; rfl; rfl; (repeat (first | (apply SPut.here; (repeat (first | exact Put.done | apply Put.put | apply Put.skip)); (repeat (first | exact Fresh.nil | (apply Fresh.cons; (first | assumption | (apply Nq.en; assumption) | omega | (simp only [Nq] at *; omega)))))) | (apply SPut.next; (first | assumption | (apply Nq.en; assumption) | omega | (simp only [Nq] at *; omega)))))
        refine lo (lop_assign (E rfl)) rfl ?_
        apply le; (repeat (first | (apply KeepIs.take; rfl) | (apply KeepIs.skip; rfl) | exact KeepIs.nil))
        (repeat (first | refine cs ?_ | refine cb ?_ | refine ck ?_ | refine cx ?_ | refine cr ?_ | refine an ?_ | refine ae ?_ | refine ar ?_ | refine bn ?_ | refine bh ?_ | refine be rfl ?_ | refine br ?_ | refine ct rfl ?_ | refine cf rfl ?_))
        first | refine sw_seq_region ?_ | refine sw_region ?_
        refine lo (lop_move (E rfl)) rfl ?_
        refine lo (lop_move (E rfl)) rfl ?_
        refine lo (lop_geq (E rfl) (E rfl)) rfl ?_
        refine lo (lop_bneq (E rfl) (E rfl)) rfl ?_
        refine lo (lop_move (E rfl)) rfl ?_
        first | refine ln rfl rfl rfl rfl ?_ | refine lg rfl rfl (lop_move (E rfl)) rfl ?_
        first | refine ln rfl rfl rfl rfl ?_ | refine lg rfl rfl (lop_move (W rfl id)) rfl ?_
        first | refine ln rfl rfl rfl rfl ?_ | refine lg rfl rfl (lop_field_ptr (E rfl) rfl (by decide)) rfl ?_ | refine lw rfl rfl (lop_field_ptr (E rfl) rfl (by decide)) rfl ?_
        first | refine ln rfl rfl rfl rfl ?_ | refine lg rfl rfl (lop_load_ptr (W rfl (by first | exact id | simp)) rfl (by repeat (first | exact sget_here | refine sget_next (by (first | assumption | (apply Nq.en; assumption) | omega | (simp only [Nq] at *; omega))) ?_)) (fun _ => rfl)) rfl ?_ | refine lw rfl rfl (lop_load_ptr (W rfl (by first | exact id | simp)) rfl (by repeat (first | exact sget_here | refine sget_next (by (first | assumption | (apply Nq.en; assumption) | omega | (simp only [Nq] at *; omega))) ?_)) (fun _ => rfl)) rfl ?_
        first | refine ln rfl rfl rfl rfl ?_ | refine lg rfl rfl (lop_move (E rfl)) rfl ?_ | refine lw rfl rfl (lop_move (E rfl)) rfl ?_
        first | refine ln rfl rfl rfl rfl ?_ | refine lg rfl rfl (lop_neq (W rfl (by first | exact id | simp)) (W rfl (by first | exact id | simp))) rfl ?_ | refine lw rfl rfl (lop_neq (W rfl (by first | exact id | simp)) (W rfl (by first | exact id | simp))) rfl ?_
        first | refine ln rfl rfl rfl rfl ?_ | refine lg rfl rfl (lop_move (W rfl (by first | exact id | simp))) rfl ?_ | refine lw rfl rfl (lop_move (W rfl (by first | exact id | simp))) rfl ?_
        first | refine ln rfl rfl rfl rfl ?_ | refine lg rfl rfl (lop_field_ptr (E rfl) rfl (by decide)) rfl ?_ | refine lw rfl rfl (lop_field_ptr (E rfl) rfl (by decide)) rfl ?_
        first | refine ln rfl rfl rfl rfl ?_ | refine lg rfl rfl (lop_load_ptr (W rfl (by first | exact id | simp)) rfl (by repeat (first | exact sget_here | refine sget_next (by (first | assumption | (apply Nq.en; assumption) | omega | (simp only [Nq] at *; omega))) ?_)) (fun _ => rfl)) rfl ?_ | refine lw rfl rfl (lop_load_ptr (W rfl (by first | exact id | simp)) rfl (by repeat (first | exact sget_here | refine sget_next (by (first | assumption | (apply Nq.en; assumption) | omega | (simp only [Nq] at *; omega))) ?_)) (fun _ => rfl)) rfl ?_
        first | refine ln rfl rfl rfl rfl ?_ | refine lg rfl rfl (lop_field_ptr (E rfl) rfl (by decide)) rfl ?_ | refine lw rfl rfl (lop_field_ptr (E rfl) rfl (by decide)) rfl ?_
        first | refine ln rfl rfl rfl rfl ?_ | refine lg rfl rfl (lop_load_ptr (W rfl (by first | exact id | simp)) rfl (by repeat (first | exact sget_here | refine sget_next (by (first | assumption | (apply Nq.en; assumption) | omega | (simp only [Nq] at *; omega))) ?_)) (fun _ => rfl)) rfl ?_ | refine lw rfl rfl (lop_load_ptr (W rfl (by first | exact id | simp)) rfl (by repeat (first | exact sget_here | refine sget_next (by (first | assumption | (apply Nq.en; assumption) | omega | (simp only [Nq] at *; omega))) ?_)) (fun _ => rfl)) rfl ?_
        first | refine ln rfl rfl rfl rfl ?_ | refine lg rfl rfl (lop_neq (W rfl (by first | exact id | simp)) (W rfl (by first | exact id | simp))) rfl ?_ | refine lw rfl rfl (lop_neq (W rfl (by first | exact id | simp)) (W rfl (by first | exact id | simp))) rfl ?_
        first | refine ln rfl rfl rfl rfl ?_ | refine lg rfl rfl (lop_pick_t (W rfl (by first | exact id | simp)) (E rfl)) rfl ?_ | refine lg rfl rfl (lop_pick_f (W rfl (by first | exact id | simp)) (W rfl (by simp))) rfl ?_ | refine lg rfl rfl (lop_pick (W rfl (by first | exact id | simp)) (E rfl) (W rfl (by simp))) rfl ?_ | refine lw rfl rfl (lop_pick_t (W rfl (by first | exact id | simp)) (E rfl)) rfl ?_ | refine lw rfl rfl (lop_pick_f (W rfl (by first | exact id | simp)) (W rfl (by simp))) rfl ?_ | refine lw rfl rfl (lop_pick (W rfl (by first | exact id | simp)) (E rfl) (W rfl (by simp))) rfl ?_
        first | refine ln rfl rfl rfl rfl ?_ | refine lg rfl rfl (lop_pick_t (W rfl id) (W rfl (by simp))) rfl ?_ | refine lg rfl rfl (lop_pick_f (W rfl id) (E rfl)) rfl ?_ | refine lg rfl rfl (lop_pick (W rfl id) (W rfl (by simp)) (E rfl)) rfl ?_
        first | refine lo (lop_pick_t (E rfl) (E rfl)) rfl ?_ | refine lo (lop_pick_f (E rfl) (W rfl (by simp))) rfl ?_ | refine lo (lop_pick (E rfl) (E rfl) (W rfl (by simp))) rfl ?_
        refine lo (lop_move (E rfl)) rfl ?_
        first | refine ln rfl rfl rfl rfl ?_ | refine lg rfl rfl (lop_move (E rfl)) rfl ?_
        first | refine ln rfl rfl rfl rfl ?_ | refine lg rfl rfl (lop_not (W rfl id)) rfl ?_
        first | refine ln rfl rfl rfl rfl ?_ | refine lg rfl rfl (lop_move (W rfl id)) rfl ?_
        first | refine ln rfl rfl rfl rfl ?_ | refine lg rfl rfl (lop_field_ptr (E rfl) rfl (by decide)) rfl ?_ | refine lw rfl rfl (lop_field_ptr (E rfl) rfl (by decide)) rfl ?_
        first | refine ln rfl rfl rfl rfl ?_ | refine lg rfl rfl (lop_load_ptr (W rfl (by first | exact id | simp)) rfl (by repeat (first | exact sget_here | refine sget_next (by (first | assumption | (apply Nq.en; assumption) | omega | (simp only [Nq] at *; omega))) ?_)) (fun _ => rfl)) rfl ?_ | refine lw rfl rfl (lop_load_ptr (W rfl (by first | exact id | simp)) rfl (by repeat (first | exact sget_here | refine sget_next (by (first | assumption | (apply Nq.en; assumption) | omega | (simp only [Nq] at *; omega))) ?_)) (fun _ => rfl)) rfl ?_
        first | refine ln rfl rfl rfl rfl ?_ | refine lg rfl rfl (lop_neq (W rfl (by first | exact id | simp)) (E rfl)) rfl ?_ | refine lw rfl rfl (lop_neq (W rfl (by first | exact id | simp)) (E rfl)) rfl ?_
        first | refine ln rfl rfl rfl rfl ?_ | refine lg rfl rfl (lop_move (W rfl (by first | exact id | simp))) rfl ?_ | refine lw rfl rfl (lop_move (W rfl (by first | exact id | simp))) rfl ?_
        first | refine ln rfl rfl rfl rfl ?_ | refine lg rfl rfl (lop_field_ptr (E rfl) rfl (by decide)) rfl ?_ | refine lw rfl rfl (lop_field_ptr (E rfl) rfl (by decide)) rfl ?_
        first | refine ln rfl rfl rfl rfl ?_ | refine lg rfl rfl (lop_load_ptr (W rfl (by first | exact id | simp)) rfl (by repeat (first | exact sget_here | refine sget_next (by (first | assumption | (apply Nq.en; assumption) | omega | (simp only [Nq] at *; omega))) ?_)) (fun _ => rfl)) rfl ?_ | refine lw rfl rfl (lop_load_ptr (W rfl (by first | exact id | simp)) rfl (by repeat (first | exact sget_here | refine sget_next (by (first | assumption | (apply Nq.en; assumption) | omega | (simp only [Nq] at *; omega))) ?_)) (fun _ => rfl)) rfl ?_
        first | refine ln rfl rfl rfl rfl ?_ | refine lg rfl rfl (lop_neq (W rfl (by first | exact id | simp)) (E rfl)) rfl ?_ | refine lw rfl rfl (lop_neq (W rfl (by first | exact id | simp)) (E rfl)) rfl ?_
        first | refine ln rfl rfl rfl rfl ?_ | refine lg rfl rfl (lop_pick_t (W rfl (by first | exact id | simp)) (E rfl)) rfl ?_ | refine lg rfl rfl (lop_pick_f (W rfl (by first | exact id | simp)) (W rfl (by simp))) rfl ?_ | refine lg rfl rfl (lop_pick (W rfl (by first | exact id | simp)) (E rfl) (W rfl (by simp))) rfl ?_ | refine lw rfl rfl (lop_pick_t (W rfl (by first | exact id | simp)) (E rfl)) rfl ?_ | refine lw rfl rfl (lop_pick_f (W rfl (by first | exact id | simp)) (W rfl (by simp))) rfl ?_ | refine lw rfl rfl (lop_pick (W rfl (by first | exact id | simp)) (E rfl) (W rfl (by simp))) rfl ?_
        first | refine ln rfl rfl rfl rfl ?_ | refine lg rfl rfl (lop_pick_t (W rfl id) (W rfl (by simp))) rfl ?_ | refine lg rfl rfl (lop_pick_f (W rfl id) (E rfl)) rfl ?_ | refine lg rfl rfl (lop_pick (W rfl id) (W rfl (by simp)) (E rfl)) rfl ?_
        first | refine lo (lop_pick_t (E rfl) (E rfl)) rfl ?_ | refine lo (lop_pick_f (E rfl) (W rfl (by simp))) rfl ?_ | refine lo (lop_pick (E rfl) (E rfl) (W rfl (by simp))) rfl ?_
        apply le; (repeat (first | (apply KeepIs.take; rfl) | (apply KeepIs.skip; rfl) | exact KeepIs.nil))
        (repeat (first | refine cs ?_ | refine cb ?_ | refine ck ?_ | refine cx ?_ | refine cr ?_ | refine an ?_ | refine ae ?_ | refine ar ?_ | refine bn ?_ | refine bh ?_ | refine be rfl ?_ | refine br ?_ | refine ct rfl ?_ | refine cf rfl ?_))
        first | refine sw_seq_region ?_ | refine sw_region ?_
        refine lo (lop_assign (E rfl)) rfl ?_
        apply le; (repeat (first | (apply KeepIs.take; rfl) | (apply KeepIs.skip; rfl) | exact KeepIs.nil))
        (repeat (first | refine cs ?_ | refine cb ?_ | refine ck ?_ | refine cx ?_ | refine cr ?_ | refine an ?_ | refine ae ?_ | refine ar ?_ | refine bn ?_ | refine bh ?_ | refine be rfl ?_ | refine br ?_ | refine ct rfl ?_ | refine cf rfl ?_))
        refine lp (β := Unit) (fun _ => ⟨[(0, .int .i64 A), (1, .int .i64 N), (2, .ro 3 (ops.map encX) .any), (8, .ptr s 0), (9, .own r45 0 130), (11, .int .i64 i), (12, .ptr r12 0), (22, .bool false), (23, .int .i64 0)], [(r12, .box 63 [.int .i64 o.1, .int .i64 o.2.1, .int .i64 o.2.2]), (s, .box 83 [.int .i64 A, .own q 0 (fr).length]), (q, .arr 4 1 ((fr).map encB)), (r45, .arr 4 1 ((longF A (fr) (130 - A - N)).map encB))]⟩) (fun _ => True) (fun _ => 0) () ?_ trivial ?_
        · (refine sgo_st ?_ ?_ <;> (repeat (first | exact FrLe.nil | (apply FrLe.cons; rfl; first | exact VLe.refl _ | exact VLe.any | exact VLe.empty | exact VLe.of_eq (by simp) | exact VLe.of_eq (by congr 1; omega)) | exact StLe.nil | (apply StLe.cons; (repeat (first | exact List.mem_cons_self | apply List.mem_cons_of_mem)); first | rfl | focus (congr 1; done) | focus (simp; done) | (simp; rfl)))))
        rintro _ _
        (repeat (first | refine cs ?_ | refine cb ?_ | refine ck ?_ | refine cx ?_ | refine cr ?_ | refine an ?_ | refine ae ?_ | refine ar ?_ | refine bn ?_ | refine bh ?_ | refine be rfl ?_ | refine br ?_ | refine ct rfl ?_ | refine cf rfl ?_))
        first | refine sw_seq_region ?_ | refine sw_region ?_
        refine lo (lop_move (E rfl)) rfl ?_
        refine lo (lop_move (E rfl)) rfl ?_
        first | refine ln rfl rfl rfl rfl ?_ | refine lg rfl rfl (lop_move (E rfl)) rfl ?_
        first | refine ln rfl rfl rfl rfl ?_ | refine lg rfl rfl (lop_field_ptr (E rfl) rfl (by decide)) rfl ?_
        first | refine ln rfl rfl rfl rfl ?_ | refine lg rfl rfl (lop_load_ptr (W rfl id) rfl (by repeat (first | exact sget_here | refine sget_next (by (first | assumption | (apply Nq.en; assumption) | omega | (simp only [Nq] at *; omega))) ?_)) (fun _ => rfl)) rfl ?_
        first | refine ln rfl rfl rfl rfl ?_ | refine lg rfl rfl (lop_lss (W rfl id) (W rfl id)) rfl ?_
        first | refine lo (lop_pick_t (E rfl) (W rfl (by simp))) rfl ?_ | refine lo (lop_pick_f (E rfl) (E rfl)) rfl ?_ | refine lo (lop_pick (E rfl) (W rfl (by simp)) (E rfl)) rfl ?_
        apply le; (repeat (first | (apply KeepIs.take; rfl) | (apply KeepIs.skip; rfl) | exact KeepIs.nil))
        (repeat (first | refine cs ?_ | refine cb ?_ | refine ck ?_ | refine cx ?_ | refine cr ?_ | refine an ?_ | refine ae ?_ | refine ar ?_ | refine bn ?_ | refine bh ?_ | refine be rfl ?_ | refine br ?_ | refine ct rfl ?_ | refine cf rfl ?_))
        have hFl : (fr).length = N := by first | exact hfr | (rw [setF_len]; exact hfr) | (rw [fillR_len (by omega)]; exact hfr)
        first | refine sw_seq_region ?_ | refine sw_region ?_
        refine lo (lop_move (E rfl)) rfl ?_
        refine lo (lop_move (E rfl)) rfl ?_
        refine cw [(s, .box 83 [.int .i64 A, .own q 0 (fr).length]), (q, .arr 4 1 ((fr).map encB)), (r45, .arr 4 1 ((longF A (fr) (130 - A - N)).map encB))] Try.call28 (law_same19 hq hr1 hr2 A (fr) (longF A (fr) (130 - A - N)) (by omega) (by omega) (by omega) (by rw [long_len]; omega) spans_long.symm count_long.symm 130 (by rw [long_len]; omega)) rfl ?_ ?_ ?_
        · (repeat (first | exact ArgsLe.nil | (apply ArgsLe.cons; rfl; first | exact VLe.refl _ | exact VLe.when rfl | exact VLe.any | exact VLe.empty | exact VLe.of_eq (by simp))))
        · (first | exact no_mem | (apply StLe.mem; (repeat (first | exact StLe.nil | (apply StLe.cons; (repeat (first | exact List.mem_cons_self | apply List.mem_cons_of_mem)); first | rfl | focus (congr 1; done) | focus (simp; done) | (simp; rfl))))))
        rintro x σ' ⟨rfl, rfl⟩ -
        (apply rs_sto; (first | (simp (disch := (first | (simp only [List.mem_cons, List.not_mem_nil, true_or, or_true, or_false]; done) | (focus (simp only [List.mem_cons, List.not_mem_nil, or_false, not_or]; (repeat' (first | apply And.intro | (first | assumption | (apply Nq.en; assumption) | omega | (simp only [Nq] at *; omega)))); done)) | omega)) only [↓put_σ, ↓mk_σ, AV.cells, sset, sdrop_none, sdrop_nil, sdrop_in, sdrop_out, List.nil_append, List.cons_append, List.append_nil, List.map_nil, List.map_cons, List.take_succ_cons, List.take_zero, List.drop_succ_cons, List.drop_zero, take_len', take_map_len, Nat.zero_add, Nat.add_zero, ofCell, ofConst]; rfl) | rfl))
        refine lo (lop_not (E rfl)) rfl ?_
        apply le; (repeat (first | (apply KeepIs.take; rfl) | (apply KeepIs.skip; rfl) | exact KeepIs.nil))
        (repeat (first | refine cs ?_ | refine cb ?_ | refine ck ?_ | refine cx ?_ | refine cr ?_ | refine an ?_ | refine ae ?_ | refine ar ?_ | refine bn ?_ | refine bh ?_ | refine be rfl ?_ | refine br ?_ | refine ct rfl ?_ | refine cf rfl ?_))
        first | refine sw_seq_region ?_ | refine sw_region ?_
        refine lo (lop_move (E rfl)) rfl ?_
        first | refine lo (lop_add64 (E rfl) (E rfl) (by omega) (by omega)) rfl ?_ | refine lo (lop_add (E rfl) (E rfl)) rfl ?_
        refine lo (lop_assign (E rfl)) rfl ?_
        apply le; (repeat (first | (apply KeepIs.take; rfl) | (apply KeepIs.skip; rfl) | exact KeepIs.nil))
        (repeat (first | refine cs ?_ | refine cb ?_ | refine ck ?_ | refine cx ?_ | refine cr ?_ | refine an ?_ | refine ae ?_ | refine ar ?_ | refine bn ?_ | refine bh ?_ | refine be rfl ?_ | refine br ?_ | refine ct rfl ?_ | refine cf rfl ?_))
        refine ⟨⟨i + 1, fr⟩, ⟨by show i + 1 ≤ 60; omega, by show i + 1 ≤ ops.length; omega, hFl⟩, by show 60 - (i + 1) < 60 - i; omega, ?_⟩
        (refine sgo_st ?_ ?_ <;> (repeat (first | exact FrLe.nil | (apply FrLe.cons; rfl; first | exact VLe.refl _ | exact VLe.any | exact VLe.empty | exact VLe.of_eq (by simp) | exact VLe.of_eq (by congr 1; omega)) | exact StLe.nil | (apply StLe.cons; (repeat (first | exact List.mem_cons_self | apply List.mem_cons_of_mem)); first | rfl | focus (congr 1; done) | focus (simp; done) | (simp; rfl)))))
      · have tv := takV_some hW
        have hpm := takP_mem hW
        have tf : takF A fr o.2.2 = setF A fr p.1 o.2.2 false := by unfold takF; rw [hW]
        (repeat (first | refine cs ?_ | refine cb ?_ | refine ck ?_ | refine cx ?_ | refine cr ?_ | refine an ?_ | refine ae ?_ | refine ar ?_ | refine bn ?_ | refine bh ?_ | refine be rfl ?_ | refine br ?_ | refine ct rfl ?_ | refine cf rfl ?_))
        first | refine sw_seq_region ?_ | refine sw_region ?_
        refine lo (lop_move (E rfl)) rfl ?_
        refine lo (lop_field_ptr (E rfl) rfl (by decide)) rfl ?_
        refine lo (lop_load_ptr (E rfl) rfl (by repeat (first | exact sget_here | refine sget_next (by (first | assumption | (apply Nq.en; assumption) | omega | (simp only [Nq] at *; omega))) ?_)) (fun _ => rfl)) rfl ?_
        refine cw [(s, .box 83 [.int .i64 A, .own q 0 (fr).length]), (q, .arr 4 1 ((fr).map encB))] Try.call25 (extent_take hq A fr (by omega) (by omega) (by omega) o.2.2) rfl ?_ ?_ ?_
        · (repeat (first | exact ArgsLe.nil | (apply ArgsLe.cons; rfl; first | exact VLe.refl _ | exact VLe.when rfl | exact VLe.any | exact VLe.empty | exact VLe.of_eq (by simp))))
        · (first | exact no_mem | (apply StLe.mem; (repeat (first | exact StLe.nil | (apply StLe.cons; (repeat (first | exact List.mem_cons_self | apply List.mem_cons_of_mem)); first | rfl | focus (congr 1; done) | focus (simp; done) | (simp; rfl))))))
        rintro x σ' ⟨rfl, rfl⟩ -
        rw [tv, tf]
        (apply rs_sto; (first | (simp (disch := (first | (simp only [List.mem_cons, List.not_mem_nil, true_or, or_true, or_false]; done) | (focus (simp only [List.mem_cons, List.not_mem_nil, or_false, not_or]; (repeat' (first | apply And.intro | (first | assumption | (apply Nq.en; assumption) | omega | (simp only [Nq] at *; omega)))); done)) | omega)) only [↓put_σ, ↓mk_σ, AV.cells, sset, sdrop_none, sdrop_nil, sdrop_in, sdrop_out, List.nil_append, List.cons_append, List.append_nil, List.map_nil, List.map_cons, List.take_succ_cons, List.take_zero, List.drop_succ_cons, List.drop_zero, take_len', take_map_len, Nat.zero_add, Nat.add_zero, ofCell, ofConst]; rfl) | rfl))
        refine lo (lop_move (E rfl)) rfl ?_
        refine lo (lop_extract (E rfl) rfl) rfl ?_
        refine lo (lop_extract (E rfl) rfl) rfl ?_
        apply al; rfl; (first | (simp only [Value.cells, AV.cells, List.map_cons, List.map_nil, ofConst, ofCell]; rfl) | rfl); intro r21 h21; simp only [fresh_cons, fresh_nil, and_true] at h21; (repeat (rcases h21 with ⟨_, h21⟩))
        apply stp; rfl; rfl; rfl; rfl; (repeat (first | (apply SPut.here; (repeat (first | exact Put.done | apply Put.put | apply Put.skip)); (repeat (first | exact Fresh.nil | (apply Fresh.cons; (first | assumption | (apply Nq.en; assumption) | omega | (simp only [Nq] at *; omega)))))) | (apply SPut.next; (first | assumption | (apply Nq.en; assumption) | omega | (simp only [Nq] at *; omega)))))
        refine lo (lop_assign (E rfl)) rfl ?_
        apply le; (repeat (first | (apply KeepIs.take; rfl) | (apply KeepIs.skip; rfl) | exact KeepIs.nil))
        (repeat (first | refine cs ?_ | refine cb ?_ | refine ck ?_ | refine cx ?_ | refine cr ?_ | refine an ?_ | refine ae ?_ | refine ar ?_ | refine bn ?_ | refine bh ?_ | refine be rfl ?_ | refine br ?_ | refine ct rfl ?_ | refine cf rfl ?_))
        first | refine sw_seq_region ?_ | refine sw_region ?_
        refine lo (lop_move (E rfl)) rfl ?_
        refine lo (lop_move (E rfl)) rfl ?_
        refine lo (lop_geq (E rfl) (E rfl)) rfl ?_
        refine lo (lop_bneq (E rfl) (E rfl)) rfl ?_
        refine lo (lop_move (E rfl)) rfl ?_
        first | refine ln rfl rfl rfl rfl ?_ | refine lg rfl rfl (lop_move (E rfl)) rfl ?_
        first | refine ln rfl rfl rfl rfl ?_ | refine lg rfl rfl (lop_move (W rfl id)) rfl ?_
        first | refine ln rfl rfl rfl rfl ?_ | refine lg rfl rfl (lop_field_ptr (E rfl) rfl (by decide)) rfl ?_ | refine lw rfl rfl (lop_field_ptr (E rfl) rfl (by decide)) rfl ?_
        first | refine ln rfl rfl rfl rfl ?_ | refine lg rfl rfl (lop_load_ptr (W rfl (by first | exact id | simp)) rfl (by repeat (first | exact sget_here | refine sget_next (by (first | assumption | (apply Nq.en; assumption) | omega | (simp only [Nq] at *; omega))) ?_)) (fun _ => rfl)) rfl ?_ | refine lw rfl rfl (lop_load_ptr (W rfl (by first | exact id | simp)) rfl (by repeat (first | exact sget_here | refine sget_next (by (first | assumption | (apply Nq.en; assumption) | omega | (simp only [Nq] at *; omega))) ?_)) (fun _ => rfl)) rfl ?_
        first | refine ln rfl rfl rfl rfl ?_ | refine lg rfl rfl (lop_move (E rfl)) rfl ?_ | refine lw rfl rfl (lop_move (E rfl)) rfl ?_
        first | refine ln rfl rfl rfl rfl ?_ | refine lg rfl rfl (lop_neq (W rfl (by first | exact id | simp)) (W rfl (by first | exact id | simp))) rfl ?_ | refine lw rfl rfl (lop_neq (W rfl (by first | exact id | simp)) (W rfl (by first | exact id | simp))) rfl ?_
        first | refine ln rfl rfl rfl rfl ?_ | refine lg rfl rfl (lop_move (W rfl (by first | exact id | simp))) rfl ?_ | refine lw rfl rfl (lop_move (W rfl (by first | exact id | simp))) rfl ?_
        first | refine ln rfl rfl rfl rfl ?_ | refine lg rfl rfl (lop_field_ptr (E rfl) rfl (by decide)) rfl ?_ | refine lw rfl rfl (lop_field_ptr (E rfl) rfl (by decide)) rfl ?_
        first | refine ln rfl rfl rfl rfl ?_ | refine lg rfl rfl (lop_load_ptr (W rfl (by first | exact id | simp)) rfl (by repeat (first | exact sget_here | refine sget_next (by (first | assumption | (apply Nq.en; assumption) | omega | (simp only [Nq] at *; omega))) ?_)) (fun _ => rfl)) rfl ?_ | refine lw rfl rfl (lop_load_ptr (W rfl (by first | exact id | simp)) rfl (by repeat (first | exact sget_here | refine sget_next (by (first | assumption | (apply Nq.en; assumption) | omega | (simp only [Nq] at *; omega))) ?_)) (fun _ => rfl)) rfl ?_
        first | refine ln rfl rfl rfl rfl ?_ | refine lg rfl rfl (lop_field_ptr (E rfl) rfl (by decide)) rfl ?_ | refine lw rfl rfl (lop_field_ptr (E rfl) rfl (by decide)) rfl ?_
        first | refine ln rfl rfl rfl rfl ?_ | refine lg rfl rfl (lop_load_ptr (W rfl (by first | exact id | simp)) rfl (by repeat (first | exact sget_here | refine sget_next (by (first | assumption | (apply Nq.en; assumption) | omega | (simp only [Nq] at *; omega))) ?_)) (fun _ => rfl)) rfl ?_ | refine lw rfl rfl (lop_load_ptr (W rfl (by first | exact id | simp)) rfl (by repeat (first | exact sget_here | refine sget_next (by (first | assumption | (apply Nq.en; assumption) | omega | (simp only [Nq] at *; omega))) ?_)) (fun _ => rfl)) rfl ?_
        first | refine ln rfl rfl rfl rfl ?_ | refine lg rfl rfl (lop_neq (W rfl (by first | exact id | simp)) (W rfl (by first | exact id | simp))) rfl ?_ | refine lw rfl rfl (lop_neq (W rfl (by first | exact id | simp)) (W rfl (by first | exact id | simp))) rfl ?_
        first | refine ln rfl rfl rfl rfl ?_ | refine lg rfl rfl (lop_pick_t (W rfl (by first | exact id | simp)) (E rfl)) rfl ?_ | refine lg rfl rfl (lop_pick_f (W rfl (by first | exact id | simp)) (W rfl (by simp))) rfl ?_ | refine lg rfl rfl (lop_pick (W rfl (by first | exact id | simp)) (E rfl) (W rfl (by simp))) rfl ?_ | refine lw rfl rfl (lop_pick_t (W rfl (by first | exact id | simp)) (E rfl)) rfl ?_ | refine lw rfl rfl (lop_pick_f (W rfl (by first | exact id | simp)) (W rfl (by simp))) rfl ?_ | refine lw rfl rfl (lop_pick (W rfl (by first | exact id | simp)) (E rfl) (W rfl (by simp))) rfl ?_
        first | refine ln rfl rfl rfl rfl ?_ | refine lg rfl rfl (lop_pick_t (W rfl id) (W rfl (by simp))) rfl ?_ | refine lg rfl rfl (lop_pick_f (W rfl id) (E rfl)) rfl ?_ | refine lg rfl rfl (lop_pick (W rfl id) (W rfl (by simp)) (E rfl)) rfl ?_
        first | refine lo (lop_pick_t (E rfl) (E rfl)) rfl ?_ | refine lo (lop_pick_f (E rfl) (W rfl (by simp))) rfl ?_ | refine lo (lop_pick (E rfl) (E rfl) (W rfl (by simp))) rfl ?_
        refine lo (lop_move (E rfl)) rfl ?_
        first | refine ln rfl rfl rfl rfl ?_ | refine lg rfl rfl (lop_move (E rfl)) rfl ?_
        first | refine ln rfl rfl rfl rfl ?_ | refine lg rfl rfl (lop_not (W rfl id)) rfl ?_
        first | refine ln rfl rfl rfl rfl ?_ | refine lg rfl rfl (lop_move (W rfl id)) rfl ?_
        first | refine ln rfl rfl rfl rfl ?_ | refine lg rfl rfl (lop_field_ptr (E rfl) rfl (by decide)) rfl ?_ | refine lw rfl rfl (lop_field_ptr (E rfl) rfl (by decide)) rfl ?_
        first | refine ln rfl rfl rfl rfl ?_ | refine lg rfl rfl (lop_load_ptr (W rfl (by first | exact id | simp)) rfl (by repeat (first | exact sget_here | refine sget_next (by (first | assumption | (apply Nq.en; assumption) | omega | (simp only [Nq] at *; omega))) ?_)) (fun _ => rfl)) rfl ?_ | refine lw rfl rfl (lop_load_ptr (W rfl (by first | exact id | simp)) rfl (by repeat (first | exact sget_here | refine sget_next (by (first | assumption | (apply Nq.en; assumption) | omega | (simp only [Nq] at *; omega))) ?_)) (fun _ => rfl)) rfl ?_
        first | refine ln rfl rfl rfl rfl ?_ | refine lg rfl rfl (lop_neq (W rfl (by first | exact id | simp)) (E rfl)) rfl ?_ | refine lw rfl rfl (lop_neq (W rfl (by first | exact id | simp)) (E rfl)) rfl ?_
        first | refine ln rfl rfl rfl rfl ?_ | refine lg rfl rfl (lop_move (W rfl (by first | exact id | simp))) rfl ?_ | refine lw rfl rfl (lop_move (W rfl (by first | exact id | simp))) rfl ?_
        first | refine ln rfl rfl rfl rfl ?_ | refine lg rfl rfl (lop_field_ptr (E rfl) rfl (by decide)) rfl ?_ | refine lw rfl rfl (lop_field_ptr (E rfl) rfl (by decide)) rfl ?_
        first | refine ln rfl rfl rfl rfl ?_ | refine lg rfl rfl (lop_load_ptr (W rfl (by first | exact id | simp)) rfl (by repeat (first | exact sget_here | refine sget_next (by (first | assumption | (apply Nq.en; assumption) | omega | (simp only [Nq] at *; omega))) ?_)) (fun _ => rfl)) rfl ?_ | refine lw rfl rfl (lop_load_ptr (W rfl (by first | exact id | simp)) rfl (by repeat (first | exact sget_here | refine sget_next (by (first | assumption | (apply Nq.en; assumption) | omega | (simp only [Nq] at *; omega))) ?_)) (fun _ => rfl)) rfl ?_
        first | refine ln rfl rfl rfl rfl ?_ | refine lg rfl rfl (lop_neq (W rfl (by first | exact id | simp)) (E rfl)) rfl ?_ | refine lw rfl rfl (lop_neq (W rfl (by first | exact id | simp)) (E rfl)) rfl ?_
        first | refine ln rfl rfl rfl rfl ?_ | refine lg rfl rfl (lop_pick_t (W rfl (by first | exact id | simp)) (E rfl)) rfl ?_ | refine lg rfl rfl (lop_pick_f (W rfl (by first | exact id | simp)) (W rfl (by simp))) rfl ?_ | refine lg rfl rfl (lop_pick (W rfl (by first | exact id | simp)) (E rfl) (W rfl (by simp))) rfl ?_ | refine lw rfl rfl (lop_pick_t (W rfl (by first | exact id | simp)) (E rfl)) rfl ?_ | refine lw rfl rfl (lop_pick_f (W rfl (by first | exact id | simp)) (W rfl (by simp))) rfl ?_ | refine lw rfl rfl (lop_pick (W rfl (by first | exact id | simp)) (E rfl) (W rfl (by simp))) rfl ?_
        first | refine ln rfl rfl rfl rfl ?_ | refine lg rfl rfl (lop_pick_t (W rfl id) (W rfl (by simp))) rfl ?_ | refine lg rfl rfl (lop_pick_f (W rfl id) (E rfl)) rfl ?_ | refine lg rfl rfl (lop_pick (W rfl id) (W rfl (by simp)) (E rfl)) rfl ?_
        first | refine lo (lop_pick_t (E rfl) (E rfl)) rfl ?_ | refine lo (lop_pick_f (E rfl) (W rfl (by simp))) rfl ?_ | refine lo (lop_pick (E rfl) (E rfl) (W rfl (by simp))) rfl ?_
        apply le; (repeat (first | (apply KeepIs.take; rfl) | (apply KeepIs.skip; rfl) | exact KeepIs.nil))
        (repeat (first | refine cs ?_ | refine cb ?_ | refine ck ?_ | refine cx ?_ | refine cr ?_ | refine an ?_ | refine ae ?_ | refine ar ?_ | refine bn ?_ | refine bh ?_ | refine be rfl ?_ | refine br ?_ | refine ct rfl ?_ | refine cf rfl ?_))
        obtain ⟨hp0, hA⟩ := takP_all hW
        have hbd := allB_bd hA
        rw [decide_eq_true (show 0 ≤ p.1 by omega)]
        simp only [beq_self_eq_true, Bool.not_true, bne_self_eq_false, Bool.false_eq_true, if_false]
        refine sw_cond rfl (fun h6 => ?_) (fun _ => ?_)
        · simp at h6
        rw [setF_yes (v := false) hA]
        (repeat (first | refine cs ?_ | refine cb ?_ | refine ck ?_ | refine cx ?_ | refine cr ?_ | refine an ?_ | refine ae ?_ | refine ar ?_ | refine bn ?_ | refine bh ?_ | refine be rfl ?_ | refine br ?_ | refine ct rfl ?_ | refine cf rfl ?_))
        first | refine sw_seq_region ?_ | refine sw_region ?_
        refine lo (lop_assign (E rfl)) rfl ?_
        apply le; (repeat (first | (apply KeepIs.take; rfl) | (apply KeepIs.skip; rfl) | exact KeepIs.nil))
        (repeat (first | refine cs ?_ | refine cb ?_ | refine ck ?_ | refine cx ?_ | refine cr ?_ | refine an ?_ | refine ae ?_ | refine ar ?_ | refine bn ?_ | refine bh ?_ | refine be rfl ?_ | refine br ?_ | refine ct rfl ?_ | refine cf rfl ?_))
        refine lp (β := Nat) (fun k => ⟨[(0, .int .i64 A), (1, .int .i64 N), (2, .ro 3 (ops.map encX) .any), (8, .ptr s 0), (9, .own r45 0 130), (11, .int .i64 i), (12, .ptr r12 0), (17, .int .i64 p.1), (22, .bool true), (23, .int .i64 k)], [(r12, .box 63 [.int .i64 o.1, .int .i64 o.2.1, .int .i64 o.2.2]), (s, .box 83 [.int .i64 A, .own q 0 (fillR fr (p.1 - A).toNat o.2.2.toNat false).length]), (q, .arr 4 1 ((fillR fr (p.1 - A).toNat o.2.2.toNat false).map encB)), (r45, .arr 4 1 ((longF A (fillR fr ((p.1 - A).toNat) k false) (130 - A - N)).map encB))]⟩) (fun k => (k : Int) ≤ o.2.2) (fun k => o.2.2.toNat - k) 0 ?_ (by show ((0 : Nat) : Int) ≤ o.2.2; omega) ?_
        · rw [show longF A fr (130 - A - N) = longF A (fillR fr ((p.1 - A).toNat) 0 false) (130 - A - N) by rw [show fillR fr ((p.1 - A).toNat) 0 false = fr by simp [fillR]]]
          (refine sgo_st ?_ ?_ <;> (repeat (first | exact FrLe.nil | (apply FrLe.cons; rfl; first | exact VLe.refl _ | exact VLe.any | exact VLe.empty | exact VLe.of_eq (by simp) | exact VLe.of_eq (by congr 1; omega)) | exact StLe.nil | (apply StLe.cons; (repeat (first | exact List.mem_cons_self | apply List.mem_cons_of_mem)); first | rfl | focus (congr 1; done) | focus (simp; done) | (simp; rfl)))))
        rintro k hk
        (repeat (first | refine cs ?_ | refine cb ?_ | refine ck ?_ | refine cx ?_ | refine cr ?_ | refine an ?_ | refine ae ?_ | refine ar ?_ | refine bn ?_ | refine bh ?_ | refine be rfl ?_ | refine br ?_ | refine ct rfl ?_ | refine cf rfl ?_))
        first | refine sw_seq_region ?_ | refine sw_region ?_
        refine lo (lop_move (E rfl)) rfl ?_
        refine lo (lop_move (E rfl)) rfl ?_
        first | refine ln rfl rfl rfl rfl ?_ | refine lg rfl rfl (lop_move (E rfl)) rfl ?_
        first | refine ln rfl rfl rfl rfl ?_ | refine lg rfl rfl (lop_field_ptr (E rfl) rfl (by decide)) rfl ?_
        first | refine ln rfl rfl rfl rfl ?_ | refine lg rfl rfl (lop_load_ptr (W rfl id) rfl (by repeat (first | exact sget_here | refine sget_next (by (first | assumption | (apply Nq.en; assumption) | omega | (simp only [Nq] at *; omega))) ?_)) (fun _ => rfl)) rfl ?_
        first | refine ln rfl rfl rfl rfl ?_ | refine lg rfl rfl (lop_lss (W rfl id) (W rfl id)) rfl ?_
        first | refine lo (lop_pick_t (E rfl) (W rfl (by simp))) rfl ?_ | refine lo (lop_pick_f (E rfl) (E rfl)) rfl ?_ | refine lo (lop_pick (E rfl) (W rfl (by simp)) (E rfl)) rfl ?_
        apply le; (repeat (first | (apply KeepIs.take; rfl) | (apply KeepIs.skip; rfl) | exact KeepIs.nil))
        (repeat (first | refine cs ?_ | refine cb ?_ | refine ck ?_ | refine cx ?_ | refine cr ?_ | refine an ?_ | refine ae ?_ | refine ar ?_ | refine bn ?_ | refine bh ?_ | refine be rfl ?_ | refine br ?_ | refine ct rfl ?_ | refine cf rfl ?_))
        refine sw_cond rfl (fun h5 => ?_) (fun h5 => ?_)
        · have hlt : (k : Int) < o.2.2 := by simpa using h5
          have hln := fillR_len (fr := fr) (o := (p.1 - A).toNat) (k := k) (v := false) (by omega)
          have hll := long_len (a := A) (fr := fillR fr ((p.1 - A).toNat) k false) (z := 130 - A - N)
          obtain ⟨z, hz⟩ : ∃ z, (longF A (fillR fr ((p.1 - A).toNat) k false) (130 - A - N))[(p.1 + (k : Int)).toNat]? = some z := ⟨_, List.getElem?_eq_getElem (by omega)⟩
          (repeat (first | refine cs ?_ | refine cb ?_ | refine ck ?_ | refine cx ?_ | refine cr ?_ | refine an ?_ | refine ae ?_ | refine ar ?_ | refine bn ?_ | refine bh ?_ | refine be rfl ?_ | refine br ?_ | refine ct rfl ?_ | refine cf rfl ?_))
          first | refine sw_seq_region ?_ | refine sw_region ?_
          refine lo (lop_move (E rfl)) rfl ?_
          refine lo (lop_move (E rfl)) rfl ?_
          refine lo (lop_move (E rfl)) rfl ?_
          first | refine lo (lop_add64 (E rfl) (E rfl) (by omega) (by omega)) rfl ?_ | refine lo (lop_add (E rfl) (E rfl)) rfl ?_
          first | refine lo (lop_index_ro (E rfl) (E rfl) (fun hc => by (simp only [List.length_map]; omega))) rfl ?_ | refine lo (lop_index_own0 (E rfl) (by repeat (first | exact sget_here | refine sget_next (by (first | assumption | (apply Nq.en; assumption) | omega | (simp only [Nq] at *; omega))) ?_)) (E rfl) (fun hc => by omega)) rfl ?_ | refine lo (lop_index_own (E rfl) (by repeat (first | exact sget_here | refine sget_next (by (first | assumption | (apply Nq.en; assumption) | omega | (simp only [Nq] at *; omega))) ?_)) (E rfl) (fun hc => by omega)) rfl ?_
          apply sto; rfl; rfl; rfl; rfl; (repeat (first | (apply SSet.here; (repeat (first | exact Fresh.nil | (apply Fresh.cons; (first | assumption | (apply Nq.en; assumption) | omega | (simp only [Nq] at *; omega)))))) | (apply SSet.next; (first | assumption | (apply Nq.en; assumption) | omega | (simp only [Nq] at *; omega))))); (first | rfl | exact get_map (by assumption) | assumption); (repeat (first | exact Put.done | apply Put.put | apply Put.skip)); rfl
          apply le; (repeat (first | (apply KeepIs.take; rfl) | (apply KeepIs.skip; rfl) | exact KeepIs.nil))
          (repeat (first | refine cs ?_ | refine cb ?_ | refine ck ?_ | refine cx ?_ | refine cr ?_ | refine an ?_ | refine ae ?_ | refine ar ?_ | refine bn ?_ | refine bh ?_ | refine be rfl ?_ | refine br ?_ | refine ct rfl ?_ | refine cf rfl ?_))
          first | refine sw_seq_region ?_ | refine sw_region ?_
          refine lo (lop_move (E rfl)) rfl ?_
          first | refine lo (lop_add64 (E rfl) (E rfl) (by omega) (by omega)) rfl ?_ | refine lo (lop_add (E rfl) (E rfl)) rfl ?_
          refine lo (lop_assign (E rfl)) rfl ?_
          apply le; (repeat (first | (apply KeepIs.take; rfl) | (apply KeepIs.skip; rfl) | exact KeepIs.nil))
          (repeat (first | refine cs ?_ | refine cb ?_ | refine ck ?_ | refine cx ?_ | refine cr ?_ | refine an ?_ | refine ae ?_ | refine ar ?_ | refine bn ?_ | refine bh ?_ | refine be rfl ?_ | refine br ?_ | refine ct rfl ?_ | refine cf rfl ?_))
          refine ⟨k + 1, by show ((k + 1 : Nat) : Int) ≤ o.2.2; omega, by show o.2.2.toNat - (k + 1) < o.2.2.toNat - k; omega, ?_⟩
          rw [set_encB', long_set' (by omega) (by omega), show (p.1 + (k : Int) - A).toNat = (p.1 - A).toNat + k by omega, fillR_step (by omega)]
          (refine sgo_st ?_ ?_ <;> (repeat (first | exact FrLe.nil | (apply FrLe.cons; rfl; first | exact VLe.refl _ | exact VLe.any | exact VLe.empty | exact VLe.of_eq (by simp) | exact VLe.of_eq (by congr 1; omega)) | exact StLe.nil | (apply StLe.cons; (repeat (first | exact List.mem_cons_self | apply List.mem_cons_of_mem)); first | rfl | focus (congr 1; done) | focus (simp; done) | (simp; rfl)))))
        have hk2 : k = o.2.2.toNat := by simp at h5; omega
        subst hk2
        (repeat (first | refine cs ?_ | refine cb ?_ | refine ck ?_ | refine cx ?_ | refine cr ?_ | refine an ?_ | refine ae ?_ | refine ar ?_ | refine bn ?_ | refine bh ?_ | refine be rfl ?_ | refine br ?_ | refine ct rfl ?_ | refine cf rfl ?_))
        have hFl : (fillR fr (p.1 - A).toNat o.2.2.toNat false).length = N := by first | exact hfr | (rw [setF_len]; exact hfr) | (rw [fillR_len (by omega)]; exact hfr)
        first | refine sw_seq_region ?_ | refine sw_region ?_
        refine lo (lop_move (E rfl)) rfl ?_
        refine lo (lop_move (E rfl)) rfl ?_
        refine cw [(s, .box 83 [.int .i64 A, .own q 0 (fillR fr (p.1 - A).toNat o.2.2.toNat false).length]), (q, .arr 4 1 ((fillR fr (p.1 - A).toNat o.2.2.toNat false).map encB)), (r45, .arr 4 1 ((longF A (fillR fr (p.1 - A).toNat o.2.2.toNat false) (130 - A - N)).map encB))] Try.call28 (law_same19 hq hr1 hr2 A (fillR fr (p.1 - A).toNat o.2.2.toNat false) (longF A (fillR fr (p.1 - A).toNat o.2.2.toNat false) (130 - A - N)) (by omega) (by omega) (by omega) (by rw [long_len]; omega) spans_long.symm count_long.symm 130 (by rw [long_len]; omega)) rfl ?_ ?_ ?_
        · (repeat (first | exact ArgsLe.nil | (apply ArgsLe.cons; rfl; first | exact VLe.refl _ | exact VLe.when rfl | exact VLe.any | exact VLe.empty | exact VLe.of_eq (by simp))))
        · (first | exact no_mem | (apply StLe.mem; (repeat (first | exact StLe.nil | (apply StLe.cons; (repeat (first | exact List.mem_cons_self | apply List.mem_cons_of_mem)); first | rfl | focus (congr 1; done) | focus (simp; done) | (simp; rfl))))))
        rintro x σ' ⟨rfl, rfl⟩ -
        (apply rs_sto; (first | (simp (disch := (first | (simp only [List.mem_cons, List.not_mem_nil, true_or, or_true, or_false]; done) | (focus (simp only [List.mem_cons, List.not_mem_nil, or_false, not_or]; (repeat' (first | apply And.intro | (first | assumption | (apply Nq.en; assumption) | omega | (simp only [Nq] at *; omega)))); done)) | omega)) only [↓put_σ, ↓mk_σ, AV.cells, sset, sdrop_none, sdrop_nil, sdrop_in, sdrop_out, List.nil_append, List.cons_append, List.append_nil, List.map_nil, List.map_cons, List.take_succ_cons, List.take_zero, List.drop_succ_cons, List.drop_zero, take_len', take_map_len, Nat.zero_add, Nat.add_zero, ofCell, ofConst]; rfl) | rfl))
        refine lo (lop_not (E rfl)) rfl ?_
        apply le; (repeat (first | (apply KeepIs.take; rfl) | (apply KeepIs.skip; rfl) | exact KeepIs.nil))
        (repeat (first | refine cs ?_ | refine cb ?_ | refine ck ?_ | refine cx ?_ | refine cr ?_ | refine an ?_ | refine ae ?_ | refine ar ?_ | refine bn ?_ | refine bh ?_ | refine be rfl ?_ | refine br ?_ | refine ct rfl ?_ | refine cf rfl ?_))
        first | refine sw_seq_region ?_ | refine sw_region ?_
        refine lo (lop_move (E rfl)) rfl ?_
        first | refine lo (lop_add64 (E rfl) (E rfl) (by omega) (by omega)) rfl ?_ | refine lo (lop_add (E rfl) (E rfl)) rfl ?_
        refine lo (lop_assign (E rfl)) rfl ?_
        apply le; (repeat (first | (apply KeepIs.take; rfl) | (apply KeepIs.skip; rfl) | exact KeepIs.nil))
        (repeat (first | refine cs ?_ | refine cb ?_ | refine ck ?_ | refine cx ?_ | refine cr ?_ | refine an ?_ | refine ae ?_ | refine ar ?_ | refine bn ?_ | refine bh ?_ | refine be rfl ?_ | refine br ?_ | refine ct rfl ?_ | refine cf rfl ?_))
        refine ⟨⟨i + 1, fillR fr (p.1 - A).toNat o.2.2.toNat false⟩, ⟨by show i + 1 ≤ 60; omega, by show i + 1 ≤ ops.length; omega, hFl⟩, by show 60 - (i + 1) < 60 - i; omega, ?_⟩
        (refine sgo_st ?_ ?_ <;> (repeat (first | exact FrLe.nil | (apply FrLe.cons; rfl; first | exact VLe.refl _ | exact VLe.any | exact VLe.empty | exact VLe.of_eq (by simp) | exact VLe.of_eq (by congr 1; omega)) | exact StLe.nil | (apply StLe.cons; (repeat (first | exact List.mem_cons_self | apply List.mem_cons_of_mem)); first | rfl | focus (congr 1; done) | focus (simp; done) | (simp; rfl)))))
    · (repeat (first | refine cs ?_ | refine cb ?_ | refine ck ?_ | refine cx ?_ | refine cr ?_ | refine an ?_ | refine ae ?_ | refine ar ?_ | refine bn ?_ | refine bh ?_ | refine be rfl ?_ | refine br ?_ | refine ct rfl ?_ | refine cf rfl ?_))
      first | refine sw_seq_region ?_ | refine sw_region ?_
      refine lo (lop_eql (E rfl) (E rfl)) rfl ?_
      refine lo (lop_assign (E rfl)) rfl ?_
      apply le; (repeat (first | (apply KeepIs.take; rfl) | (apply KeepIs.skip; rfl) | exact KeepIs.nil))
      (repeat (first | refine cs ?_ | refine cb ?_ | refine ck ?_ | refine cx ?_ | refine cr ?_ | refine an ?_ | refine ae ?_ | refine ar ?_ | refine bn ?_ | refine bh ?_ | refine be rfl ?_ | refine br ?_ | refine ct rfl ?_ | refine cf rfl ?_))
      refine sw_cond rfl (fun h4 => ?_) (fun h4 => ?_)
      · (repeat (first | refine cs ?_ | refine cb ?_ | refine ck ?_ | refine cx ?_ | refine cr ?_ | refine an ?_ | refine ae ?_ | refine ar ?_ | refine bn ?_ | refine bh ?_ | refine be rfl ?_ | refine br ?_ | refine ct rfl ?_ | refine cf rfl ?_))
        first | refine sw_seq_region ?_ | refine sw_region ?_
        refine lo (lop_move (E rfl)) rfl ?_
        refine lo (lop_field_ptr (E rfl) rfl (by decide)) rfl ?_
        refine lo (lop_load_ptr (E rfl) rfl (by repeat (first | exact sget_here | refine sget_next (by (first | assumption | (apply Nq.en; assumption) | omega | (simp only [Nq] at *; omega))) ?_)) (fun _ => rfl)) rfl ?_
        refine lo (lop_field_ptr (E rfl) rfl (by decide)) rfl ?_
        refine lo (lop_load_ptr (E rfl) rfl (by repeat (first | exact sget_here | refine sget_next (by (first | assumption | (apply Nq.en; assumption) | omega | (simp only [Nq] at *; omega))) ?_)) (fun _ => rfl)) rfl ?_
        refine lo (lop_str (by repeat (first | exact PEvs.nil | (apply PEvs.cons; first | exact W rfl id | exact E rfl))) (by (first | (simp only [Value.cells, AV.cells, List.map_cons, List.map_nil, ofConst, ofCell]; rfl) | rfl)) (by repeat (first | exact Fill.nil | (apply Fill.cons; rfl; rfl; rfl; (repeat (first | exact Put.done | apply Put.put | apply Put.skip)))))) rfl ?_
        refine cw [(s, .box 83 [.int .i64 A, .own q 0 (fr).length]), (q, .arr 4 1 ((fr).map encB))] Try.call26 (extent_Use hq A fr (by omega) (by omega) o.2.1 o.2.2 (by omega) (by omega)) rfl ?_ ?_ ?_
        · (repeat (first | exact ArgsLe.nil | (apply ArgsLe.cons; rfl; first | exact VLe.refl _ | exact VLe.when rfl | exact VLe.any | exact VLe.empty | exact VLe.of_eq (by simp))))
        · (first | exact no_mem | (apply StLe.mem; (repeat (first | exact StLe.nil | (apply StLe.cons; (repeat (first | exact List.mem_cons_self | apply List.mem_cons_of_mem)); first | rfl | focus (congr 1; done) | focus (simp; done) | (simp; rfl))))))
        rintro x σ' ⟨rfl, rfl⟩ -
        (apply rs_sto; (first | (simp (disch := (first | (simp only [List.mem_cons, List.not_mem_nil, true_or, or_true, or_false]; done) | (focus (simp only [List.mem_cons, List.not_mem_nil, or_false, not_or]; (repeat' (first | apply And.intro | (first | assumption | (apply Nq.en; assumption) | omega | (simp only [Nq] at *; omega)))); done)) | omega)) only [↓put_σ, ↓mk_σ, AV.cells, sset, sdrop_none, sdrop_nil, sdrop_in, sdrop_out, List.nil_append, List.cons_append, List.append_nil, List.map_nil, List.map_cons, List.take_succ_cons, List.take_zero, List.drop_succ_cons, List.drop_zero, take_len', take_map_len, Nat.zero_add, Nat.add_zero, ofCell, ofConst]; rfl) | rfl))
        refine lo (lop_move (E rfl)) rfl ?_
        refine lo (lop_bneq (E rfl) (E rfl)) rfl ?_
        apply le; (repeat (first | (apply KeepIs.take; rfl) | (apply KeepIs.skip; rfl) | exact KeepIs.nil))
        (repeat (first | refine cs ?_ | refine cb ?_ | refine ck ?_ | refine cx ?_ | refine cr ?_ | refine an ?_ | refine ae ?_ | refine ar ?_ | refine bn ?_ | refine bh ?_ | refine be rfl ?_ | refine br ?_ | refine ct rfl ?_ | refine cf rfl ?_))
        refine sw_cond rfl (fun h5 => ?_) (fun _ => ?_)
        · simp at h5
        (repeat (first | refine cs ?_ | refine cb ?_ | refine ck ?_ | refine cx ?_ | refine cr ?_ | refine an ?_ | refine ae ?_ | refine ar ?_ | refine bn ?_ | refine bh ?_ | refine be rfl ?_ | refine br ?_ | refine ct rfl ?_ | refine cf rfl ?_))
        first | refine sw_seq_region ?_ | refine sw_region ?_
        refine lo (lop_assign (E rfl)) rfl ?_
        apply le; (repeat (first | (apply KeepIs.take; rfl) | (apply KeepIs.skip; rfl) | exact KeepIs.nil))
        (repeat (first | refine cs ?_ | refine cb ?_ | refine ck ?_ | refine cx ?_ | refine cr ?_ | refine an ?_ | refine ae ?_ | refine ar ?_ | refine bn ?_ | refine bh ?_ | refine be rfl ?_ | refine br ?_ | refine ct rfl ?_ | refine cf rfl ?_))
        cases hA : allB A fr o.2.1 o.2.2 true with
        | true =>
          have hbd := allB_bd hA
          rw [setF_yes (v := false) hA]
          refine lp (β := Nat) (fun k => ⟨[(0, .int .i64 A), (1, .int .i64 N), (2, .ro 3 (ops.map encX) .any), (8, .ptr s 0), (9, .own r45 0 130), (11, .int .i64 i), (12, .ptr r12 0), (13, .bool true), (24, .int .i64 k)], [(r12, .box 63 [.int .i64 o.1, .int .i64 o.2.1, .int .i64 o.2.2]), (s, .box 83 [.int .i64 A, .own q 0 (fillR fr (o.2.1 - A).toNat o.2.2.toNat false).length]), (q, .arr 4 1 ((fillR fr (o.2.1 - A).toNat o.2.2.toNat false).map encB)), (r45, .arr 4 1 ((longF A (fillR fr ((o.2.1 - A).toNat) k false) (130 - A - N)).map encB))]⟩) (fun k => (k : Int) ≤ o.2.2) (fun k => o.2.2.toNat - k) 0 ?_ (by show ((0 : Nat) : Int) ≤ o.2.2; omega) ?_
          · rw [show longF A fr (130 - A - N) = longF A (fillR fr ((o.2.1 - A).toNat) 0 false) (130 - A - N) by rw [show fillR fr ((o.2.1 - A).toNat) 0 false = fr by simp [fillR]]]
            (refine sgo_st ?_ ?_ <;> (repeat (first | exact FrLe.nil | (apply FrLe.cons; rfl; first | exact VLe.refl _ | exact VLe.any | exact VLe.empty | exact VLe.of_eq (by simp) | exact VLe.of_eq (by congr 1; omega)) | exact StLe.nil | (apply StLe.cons; (repeat (first | exact List.mem_cons_self | apply List.mem_cons_of_mem)); first | rfl | focus (congr 1; done) | focus (simp; done) | (simp; rfl)))))
          rintro k hk
          (repeat (first | refine cs ?_ | refine cb ?_ | refine ck ?_ | refine cx ?_ | refine cr ?_ | refine an ?_ | refine ae ?_ | refine ar ?_ | refine bn ?_ | refine bh ?_ | refine be rfl ?_ | refine br ?_ | refine ct rfl ?_ | refine cf rfl ?_))
          first | refine sw_seq_region ?_ | refine sw_region ?_
          refine lo (lop_move (E rfl)) rfl ?_
          refine lo (lop_move (E rfl)) rfl ?_
          first | refine ln rfl rfl rfl rfl ?_ | refine lg rfl rfl (lop_move (E rfl)) rfl ?_
          first | refine ln rfl rfl rfl rfl ?_ | refine lg rfl rfl (lop_field_ptr (E rfl) rfl (by decide)) rfl ?_
          first | refine ln rfl rfl rfl rfl ?_ | refine lg rfl rfl (lop_load_ptr (W rfl id) rfl (by repeat (first | exact sget_here | refine sget_next (by (first | assumption | (apply Nq.en; assumption) | omega | (simp only [Nq] at *; omega))) ?_)) (fun _ => rfl)) rfl ?_
          first | refine ln rfl rfl rfl rfl ?_ | refine lg rfl rfl (lop_lss (W rfl id) (W rfl id)) rfl ?_
          first | refine lo (lop_pick_t (E rfl) (W rfl (by simp))) rfl ?_ | refine lo (lop_pick_f (E rfl) (E rfl)) rfl ?_ | refine lo (lop_pick (E rfl) (W rfl (by simp)) (E rfl)) rfl ?_
          apply le; (repeat (first | (apply KeepIs.take; rfl) | (apply KeepIs.skip; rfl) | exact KeepIs.nil))
          (repeat (first | refine cs ?_ | refine cb ?_ | refine ck ?_ | refine cx ?_ | refine cr ?_ | refine an ?_ | refine ae ?_ | refine ar ?_ | refine bn ?_ | refine bh ?_ | refine be rfl ?_ | refine br ?_ | refine ct rfl ?_ | refine cf rfl ?_))
          refine sw_cond rfl (fun h5 => ?_) (fun h5 => ?_)
          · have hlt : (k : Int) < o.2.2 := by simpa using h5
            have hln := fillR_len (fr := fr) (o := (o.2.1 - A).toNat) (k := k) (v := false) (by omega)
            have hll := long_len (a := A) (fr := fillR fr ((o.2.1 - A).toNat) k false) (z := 130 - A - N)
            obtain ⟨z, hz⟩ : ∃ z, (longF A (fillR fr ((o.2.1 - A).toNat) k false) (130 - A - N))[(o.2.1 + (k : Int)).toNat]? = some z := ⟨_, List.getElem?_eq_getElem (by omega)⟩
            (repeat (first | refine cs ?_ | refine cb ?_ | refine ck ?_ | refine cx ?_ | refine cr ?_ | refine an ?_ | refine ae ?_ | refine ar ?_ | refine bn ?_ | refine bh ?_ | refine be rfl ?_ | refine br ?_ | refine ct rfl ?_ | refine cf rfl ?_))
            first | refine sw_seq_region ?_ | refine sw_region ?_
            refine lo (lop_move (E rfl)) rfl ?_
            refine lo (lop_field_ptr (E rfl) rfl (by decide)) rfl ?_
            refine lo (lop_load_ptr (E rfl) rfl (by repeat (first | exact sget_here | refine sget_next (by (first | assumption | (apply Nq.en; assumption) | omega | (simp only [Nq] at *; omega))) ?_)) (fun _ => rfl)) rfl ?_
            refine lo (lop_move (E rfl)) rfl ?_
            first | refine lo (lop_add64 (E rfl) (E rfl) (by omega) (by omega)) rfl ?_ | refine lo (lop_add (E rfl) (E rfl)) rfl ?_
            first | refine lo (lop_index_ro (E rfl) (E rfl) (fun hc => by (simp only [List.length_map]; omega))) rfl ?_ | refine lo (lop_index_own0 (E rfl) (by repeat (first | exact sget_here | refine sget_next (by (first | assumption | (apply Nq.en; assumption) | omega | (simp only [Nq] at *; omega))) ?_)) (E rfl) (fun hc => by omega)) rfl ?_ | refine lo (lop_index_own (E rfl) (by repeat (first | exact sget_here | refine sget_next (by (first | assumption | (apply Nq.en; assumption) | omega | (simp only [Nq] at *; omega))) ?_)) (E rfl) (fun hc => by omega)) rfl ?_
            apply sto; rfl; rfl; rfl; rfl; (repeat (first | (apply SSet.here; (repeat (first | exact Fresh.nil | (apply Fresh.cons; (first | assumption | (apply Nq.en; assumption) | omega | (simp only [Nq] at *; omega)))))) | (apply SSet.next; (first | assumption | (apply Nq.en; assumption) | omega | (simp only [Nq] at *; omega))))); (first | rfl | exact get_map (by assumption) | assumption); (repeat (first | exact Put.done | apply Put.put | apply Put.skip)); rfl
            apply le; (repeat (first | (apply KeepIs.take; rfl) | (apply KeepIs.skip; rfl) | exact KeepIs.nil))
            (repeat (first | refine cs ?_ | refine cb ?_ | refine ck ?_ | refine cx ?_ | refine cr ?_ | refine an ?_ | refine ae ?_ | refine ar ?_ | refine bn ?_ | refine bh ?_ | refine be rfl ?_ | refine br ?_ | refine ct rfl ?_ | refine cf rfl ?_))
            first | refine sw_seq_region ?_ | refine sw_region ?_
            refine lo (lop_move (E rfl)) rfl ?_
            first | refine lo (lop_add64 (E rfl) (E rfl) (by omega) (by omega)) rfl ?_ | refine lo (lop_add (E rfl) (E rfl)) rfl ?_
            refine lo (lop_assign (E rfl)) rfl ?_
            apply le; (repeat (first | (apply KeepIs.take; rfl) | (apply KeepIs.skip; rfl) | exact KeepIs.nil))
            (repeat (first | refine cs ?_ | refine cb ?_ | refine ck ?_ | refine cx ?_ | refine cr ?_ | refine an ?_ | refine ae ?_ | refine ar ?_ | refine bn ?_ | refine bh ?_ | refine be rfl ?_ | refine br ?_ | refine ct rfl ?_ | refine cf rfl ?_))
            refine ⟨k + 1, by show ((k + 1 : Nat) : Int) ≤ o.2.2; omega, by show o.2.2.toNat - (k + 1) < o.2.2.toNat - k; omega, ?_⟩
            rw [set_encB', long_set' (by omega) (by omega), show (o.2.1 + (k : Int) - A).toNat = (o.2.1 - A).toNat + k by omega, fillR_step (by omega)]
            (refine sgo_st ?_ ?_ <;> (repeat (first | exact FrLe.nil | (apply FrLe.cons; rfl; first | exact VLe.refl _ | exact VLe.any | exact VLe.empty | exact VLe.of_eq (by simp) | exact VLe.of_eq (by congr 1; omega)) | exact StLe.nil | (apply StLe.cons; (repeat (first | exact List.mem_cons_self | apply List.mem_cons_of_mem)); first | rfl | focus (congr 1; done) | focus (simp; done) | (simp; rfl)))))
          have hk2 : k = o.2.2.toNat := by simp at h5; omega
          subst hk2
          (repeat (first | refine cs ?_ | refine cb ?_ | refine ck ?_ | refine cx ?_ | refine cr ?_ | refine an ?_ | refine ae ?_ | refine ar ?_ | refine bn ?_ | refine bh ?_ | refine be rfl ?_ | refine br ?_ | refine ct rfl ?_ | refine cf rfl ?_))
          have hFl : (fillR fr (o.2.1 - A).toNat o.2.2.toNat false).length = N := by first | exact hfr | (rw [setF_len]; exact hfr) | (rw [fillR_len (by omega)]; exact hfr)
          first | refine sw_seq_region ?_ | refine sw_region ?_
          refine lo (lop_move (E rfl)) rfl ?_
          refine lo (lop_move (E rfl)) rfl ?_
          refine cw [(s, .box 83 [.int .i64 A, .own q 0 (fillR fr (o.2.1 - A).toNat o.2.2.toNat false).length]), (q, .arr 4 1 ((fillR fr (o.2.1 - A).toNat o.2.2.toNat false).map encB)), (r45, .arr 4 1 ((longF A (fillR fr (o.2.1 - A).toNat o.2.2.toNat false) (130 - A - N)).map encB))] Try.call28 (law_same19 hq hr1 hr2 A (fillR fr (o.2.1 - A).toNat o.2.2.toNat false) (longF A (fillR fr (o.2.1 - A).toNat o.2.2.toNat false) (130 - A - N)) (by omega) (by omega) (by omega) (by rw [long_len]; omega) spans_long.symm count_long.symm 130 (by rw [long_len]; omega)) rfl ?_ ?_ ?_
          · (repeat (first | exact ArgsLe.nil | (apply ArgsLe.cons; rfl; first | exact VLe.refl _ | exact VLe.when rfl | exact VLe.any | exact VLe.empty | exact VLe.of_eq (by simp))))
          · (first | exact no_mem | (apply StLe.mem; (repeat (first | exact StLe.nil | (apply StLe.cons; (repeat (first | exact List.mem_cons_self | apply List.mem_cons_of_mem)); first | rfl | focus (congr 1; done) | focus (simp; done) | (simp; rfl))))))
          rintro x σ' ⟨rfl, rfl⟩ -
          (apply rs_sto; (first | (simp (disch := (first | (simp only [List.mem_cons, List.not_mem_nil, true_or, or_true, or_false]; done) | (focus (simp only [List.mem_cons, List.not_mem_nil, or_false, not_or]; (repeat' (first | apply And.intro | (first | assumption | (apply Nq.en; assumption) | omega | (simp only [Nq] at *; omega)))); done)) | omega)) only [↓put_σ, ↓mk_σ, AV.cells, sset, sdrop_none, sdrop_nil, sdrop_in, sdrop_out, List.nil_append, List.cons_append, List.append_nil, List.map_nil, List.map_cons, List.take_succ_cons, List.take_zero, List.drop_succ_cons, List.drop_zero, take_len', take_map_len, Nat.zero_add, Nat.add_zero, ofCell, ofConst]; rfl) | rfl))
          refine lo (lop_not (E rfl)) rfl ?_
          apply le; (repeat (first | (apply KeepIs.take; rfl) | (apply KeepIs.skip; rfl) | exact KeepIs.nil))
          (repeat (first | refine cs ?_ | refine cb ?_ | refine ck ?_ | refine cx ?_ | refine cr ?_ | refine an ?_ | refine ae ?_ | refine ar ?_ | refine bn ?_ | refine bh ?_ | refine be rfl ?_ | refine br ?_ | refine ct rfl ?_ | refine cf rfl ?_))
          first | refine sw_seq_region ?_ | refine sw_region ?_
          refine lo (lop_move (E rfl)) rfl ?_
          first | refine lo (lop_add64 (E rfl) (E rfl) (by omega) (by omega)) rfl ?_ | refine lo (lop_add (E rfl) (E rfl)) rfl ?_
          refine lo (lop_assign (E rfl)) rfl ?_
          apply le; (repeat (first | (apply KeepIs.take; rfl) | (apply KeepIs.skip; rfl) | exact KeepIs.nil))
          (repeat (first | refine cs ?_ | refine cb ?_ | refine ck ?_ | refine cx ?_ | refine cr ?_ | refine an ?_ | refine ae ?_ | refine ar ?_ | refine bn ?_ | refine bh ?_ | refine be rfl ?_ | refine br ?_ | refine ct rfl ?_ | refine cf rfl ?_))
          refine ⟨⟨i + 1, fillR fr (o.2.1 - A).toNat o.2.2.toNat false⟩, ⟨by show i + 1 ≤ 60; omega, by show i + 1 ≤ ops.length; omega, hFl⟩, by show 60 - (i + 1) < 60 - i; omega, ?_⟩
          (refine sgo_st ?_ ?_ <;> (repeat (first | exact FrLe.nil | (apply FrLe.cons; rfl; first | exact VLe.refl _ | exact VLe.any | exact VLe.empty | exact VLe.of_eq (by simp) | exact VLe.of_eq (by congr 1; omega)) | exact StLe.nil | (apply StLe.cons; (repeat (first | exact List.mem_cons_self | apply List.mem_cons_of_mem)); first | rfl | focus (congr 1; done) | focus (simp; done) | (simp; rfl)))))
        | false =>
          rw [setF_no (v := false) hA]
          refine lp (β := Unit) (fun _ => ⟨[(0, .int .i64 A), (1, .int .i64 N), (2, .ro 3 (ops.map encX) .any), (8, .ptr s 0), (9, .own r45 0 130), (11, .int .i64 i), (12, .ptr r12 0), (13, .bool false), (24, .int .i64 0)], [(r12, .box 63 [.int .i64 o.1, .int .i64 o.2.1, .int .i64 o.2.2]), (s, .box 83 [.int .i64 A, .own q 0 (fr).length]), (q, .arr 4 1 ((fr).map encB)), (r45, .arr 4 1 ((longF A (fr) (130 - A - N)).map encB))]⟩) (fun _ => True) (fun _ => 0) () ?_ trivial ?_
          · (refine sgo_st ?_ ?_ <;> (repeat (first | exact FrLe.nil | (apply FrLe.cons; rfl; first | exact VLe.refl _ | exact VLe.any | exact VLe.empty | exact VLe.of_eq (by simp) | exact VLe.of_eq (by congr 1; omega)) | exact StLe.nil | (apply StLe.cons; (repeat (first | exact List.mem_cons_self | apply List.mem_cons_of_mem)); first | rfl | focus (congr 1; done) | focus (simp; done) | (simp; rfl)))))
          rintro _ _
          (repeat (first | refine cs ?_ | refine cb ?_ | refine ck ?_ | refine cx ?_ | refine cr ?_ | refine an ?_ | refine ae ?_ | refine ar ?_ | refine bn ?_ | refine bh ?_ | refine be rfl ?_ | refine br ?_ | refine ct rfl ?_ | refine cf rfl ?_))
          first | refine sw_seq_region ?_ | refine sw_region ?_
          refine lo (lop_move (E rfl)) rfl ?_
          refine lo (lop_move (E rfl)) rfl ?_
          first | refine ln rfl rfl rfl rfl ?_ | refine lg rfl rfl (lop_move (E rfl)) rfl ?_
          first | refine ln rfl rfl rfl rfl ?_ | refine lg rfl rfl (lop_field_ptr (E rfl) rfl (by decide)) rfl ?_
          first | refine ln rfl rfl rfl rfl ?_ | refine lg rfl rfl (lop_load_ptr (W rfl id) rfl (by repeat (first | exact sget_here | refine sget_next (by (first | assumption | (apply Nq.en; assumption) | omega | (simp only [Nq] at *; omega))) ?_)) (fun _ => rfl)) rfl ?_
          first | refine ln rfl rfl rfl rfl ?_ | refine lg rfl rfl (lop_lss (W rfl id) (W rfl id)) rfl ?_
          first | refine lo (lop_pick_t (E rfl) (W rfl (by simp))) rfl ?_ | refine lo (lop_pick_f (E rfl) (E rfl)) rfl ?_ | refine lo (lop_pick (E rfl) (W rfl (by simp)) (E rfl)) rfl ?_
          apply le; (repeat (first | (apply KeepIs.take; rfl) | (apply KeepIs.skip; rfl) | exact KeepIs.nil))
          (repeat (first | refine cs ?_ | refine cb ?_ | refine ck ?_ | refine cx ?_ | refine cr ?_ | refine an ?_ | refine ae ?_ | refine ar ?_ | refine bn ?_ | refine bh ?_ | refine be rfl ?_ | refine br ?_ | refine ct rfl ?_ | refine cf rfl ?_))
          have hFl : (fr).length = N := by first | exact hfr | (rw [setF_len]; exact hfr) | (rw [fillR_len (by omega)]; exact hfr)
          first | refine sw_seq_region ?_ | refine sw_region ?_
          refine lo (lop_move (E rfl)) rfl ?_
          refine lo (lop_move (E rfl)) rfl ?_
          refine cw [(s, .box 83 [.int .i64 A, .own q 0 (fr).length]), (q, .arr 4 1 ((fr).map encB)), (r45, .arr 4 1 ((longF A (fr) (130 - A - N)).map encB))] Try.call28 (law_same19 hq hr1 hr2 A (fr) (longF A (fr) (130 - A - N)) (by omega) (by omega) (by omega) (by rw [long_len]; omega) spans_long.symm count_long.symm 130 (by rw [long_len]; omega)) rfl ?_ ?_ ?_
          · (repeat (first | exact ArgsLe.nil | (apply ArgsLe.cons; rfl; first | exact VLe.refl _ | exact VLe.when rfl | exact VLe.any | exact VLe.empty | exact VLe.of_eq (by simp))))
          · (first | exact no_mem | (apply StLe.mem; (repeat (first | exact StLe.nil | (apply StLe.cons; (repeat (first | exact List.mem_cons_self | apply List.mem_cons_of_mem)); first | rfl | focus (congr 1; done) | focus (simp; done) | (simp; rfl))))))
          rintro x σ' ⟨rfl, rfl⟩ -
          (apply rs_sto; (first | (simp (disch := (first | (simp only [List.mem_cons, List.not_mem_nil, true_or, or_true, or_false]; done) | (focus (simp only [List.mem_cons, List.not_mem_nil, or_false, not_or]; (repeat' (first | apply And.intro | (first | assumption | (apply Nq.en; assumption) | omega | (simp only [Nq] at *; omega)))); done)) | omega)) only [↓put_σ, ↓mk_σ, AV.cells, sset, sdrop_none, sdrop_nil, sdrop_in, sdrop_out, List.nil_append, List.cons_append, List.append_nil, List.map_nil, List.map_cons, List.take_succ_cons, List.take_zero, List.drop_succ_cons, List.drop_zero, take_len', take_map_len, Nat.zero_add, Nat.add_zero, ofCell, ofConst]; rfl) | rfl))
          refine lo (lop_not (E rfl)) rfl ?_
          apply le; (repeat (first | (apply KeepIs.take; rfl) | (apply KeepIs.skip; rfl) | exact KeepIs.nil))
          (repeat (first | refine cs ?_ | refine cb ?_ | refine ck ?_ | refine cx ?_ | refine cr ?_ | refine an ?_ | refine ae ?_ | refine ar ?_ | refine bn ?_ | refine bh ?_ | refine be rfl ?_ | refine br ?_ | refine ct rfl ?_ | refine cf rfl ?_))
          first | refine sw_seq_region ?_ | refine sw_region ?_
          refine lo (lop_move (E rfl)) rfl ?_
          first | refine lo (lop_add64 (E rfl) (E rfl) (by omega) (by omega)) rfl ?_ | refine lo (lop_add (E rfl) (E rfl)) rfl ?_
          refine lo (lop_assign (E rfl)) rfl ?_
          apply le; (repeat (first | (apply KeepIs.take; rfl) | (apply KeepIs.skip; rfl) | exact KeepIs.nil))
          (repeat (first | refine cs ?_ | refine cb ?_ | refine ck ?_ | refine cx ?_ | refine cr ?_ | refine an ?_ | refine ae ?_ | refine ar ?_ | refine bn ?_ | refine bh ?_ | refine be rfl ?_ | refine br ?_ | refine ct rfl ?_ | refine cf rfl ?_))
          refine ⟨⟨i + 1, fr⟩, ⟨by show i + 1 ≤ 60; omega, by show i + 1 ≤ ops.length; omega, hFl⟩, by show 60 - (i + 1) < 60 - i; omega, ?_⟩
          (refine sgo_st ?_ ?_ <;> (repeat (first | exact FrLe.nil | (apply FrLe.cons; rfl; first | exact VLe.refl _ | exact VLe.any | exact VLe.empty | exact VLe.of_eq (by simp) | exact VLe.of_eq (by congr 1; omega)) | exact StLe.nil | (apply StLe.cons; (repeat (first | exact List.mem_cons_self | apply List.mem_cons_of_mem)); first | rfl | focus (congr 1; done) | focus (simp; done) | (simp; rfl)))))
      · (repeat (first | refine cs ?_ | refine cb ?_ | refine ck ?_ | refine cx ?_ | refine cr ?_ | refine an ?_ | refine ae ?_ | refine ar ?_ | refine bn ?_ | refine bh ?_ | refine be rfl ?_ | refine br ?_ | refine ct rfl ?_ | refine cf rfl ?_))
        first | refine sw_seq_region ?_ | refine sw_region ?_
        refine lo (lop_move (E rfl)) rfl ?_
        refine lo (lop_field_ptr (E rfl) rfl (by decide)) rfl ?_
        refine lo (lop_load_ptr (E rfl) rfl (by repeat (first | exact sget_here | refine sget_next (by (first | assumption | (apply Nq.en; assumption) | omega | (simp only [Nq] at *; omega))) ?_)) (fun _ => rfl)) rfl ?_
        refine lo (lop_field_ptr (E rfl) rfl (by decide)) rfl ?_
        refine lo (lop_load_ptr (E rfl) rfl (by repeat (first | exact sget_here | refine sget_next (by (first | assumption | (apply Nq.en; assumption) | omega | (simp only [Nq] at *; omega))) ?_)) (fun _ => rfl)) rfl ?_
        refine lo (lop_str (by repeat (first | exact PEvs.nil | (apply PEvs.cons; first | exact W rfl id | exact E rfl))) (by (first | (simp only [Value.cells, AV.cells, List.map_cons, List.map_nil, ofConst, ofCell]; rfl) | rfl)) (by repeat (first | exact Fill.nil | (apply Fill.cons; rfl; rfl; rfl; (repeat (first | exact Put.done | apply Put.put | apply Put.skip)))))) rfl ?_
        refine cw [(s, .box 83 [.int .i64 A, .own q 0 (fr).length]), (q, .arr 4 1 ((fr).map encB))] Try.call27 (extent_Give hq A fr (by omega) (by omega) o.2.1 o.2.2 (by omega) (by omega)) rfl ?_ ?_ ?_
        · (repeat (first | exact ArgsLe.nil | (apply ArgsLe.cons; rfl; first | exact VLe.refl _ | exact VLe.when rfl | exact VLe.any | exact VLe.empty | exact VLe.of_eq (by simp))))
        · (first | exact no_mem | (apply StLe.mem; (repeat (first | exact StLe.nil | (apply StLe.cons; (repeat (first | exact List.mem_cons_self | apply List.mem_cons_of_mem)); first | rfl | focus (congr 1; done) | focus (simp; done) | (simp; rfl))))))
        rintro x σ' ⟨rfl, rfl⟩ -
        (apply rs_sto; (first | (simp (disch := (first | (simp only [List.mem_cons, List.not_mem_nil, true_or, or_true, or_false]; done) | (focus (simp only [List.mem_cons, List.not_mem_nil, or_false, not_or]; (repeat' (first | apply And.intro | (first | assumption | (apply Nq.en; assumption) | omega | (simp only [Nq] at *; omega)))); done)) | omega)) only [↓put_σ, ↓mk_σ, AV.cells, sset, sdrop_none, sdrop_nil, sdrop_in, sdrop_out, List.nil_append, List.cons_append, List.append_nil, List.map_nil, List.map_cons, List.take_succ_cons, List.take_zero, List.drop_succ_cons, List.drop_zero, take_len', take_map_len, Nat.zero_add, Nat.add_zero, ofCell, ofConst]; rfl) | rfl))
        refine lo (lop_move (E rfl)) rfl ?_
        refine lo (lop_bneq (E rfl) (E rfl)) rfl ?_
        apply le; (repeat (first | (apply KeepIs.take; rfl) | (apply KeepIs.skip; rfl) | exact KeepIs.nil))
        (repeat (first | refine cs ?_ | refine cb ?_ | refine ck ?_ | refine cx ?_ | refine cr ?_ | refine an ?_ | refine ae ?_ | refine ar ?_ | refine bn ?_ | refine bh ?_ | refine be rfl ?_ | refine br ?_ | refine ct rfl ?_ | refine cf rfl ?_))
        refine sw_cond rfl (fun h5 => ?_) (fun _ => ?_)
        · simp at h5
        (repeat (first | refine cs ?_ | refine cb ?_ | refine ck ?_ | refine cx ?_ | refine cr ?_ | refine an ?_ | refine ae ?_ | refine ar ?_ | refine bn ?_ | refine bh ?_ | refine be rfl ?_ | refine br ?_ | refine ct rfl ?_ | refine cf rfl ?_))
        first | refine sw_seq_region ?_ | refine sw_region ?_
        refine lo (lop_assign (E rfl)) rfl ?_
        apply le; (repeat (first | (apply KeepIs.take; rfl) | (apply KeepIs.skip; rfl) | exact KeepIs.nil))
        (repeat (first | refine cs ?_ | refine cb ?_ | refine ck ?_ | refine cx ?_ | refine cr ?_ | refine an ?_ | refine ae ?_ | refine ar ?_ | refine bn ?_ | refine bh ?_ | refine be rfl ?_ | refine br ?_ | refine ct rfl ?_ | refine cf rfl ?_))
        cases hA : allB A fr o.2.1 o.2.2 false with
        | true =>
          have hbd := allB_bd hA
          rw [setF_yes (v := true) hA]
          refine lp (β := Nat) (fun k => ⟨[(0, .int .i64 A), (1, .int .i64 N), (2, .ro 3 (ops.map encX) .any), (8, .ptr s 0), (9, .own r45 0 130), (11, .int .i64 i), (12, .ptr r12 0), (14, .bool true), (25, .int .i64 k)], [(r12, .box 63 [.int .i64 o.1, .int .i64 o.2.1, .int .i64 o.2.2]), (s, .box 83 [.int .i64 A, .own q 0 (fillR fr (o.2.1 - A).toNat o.2.2.toNat true).length]), (q, .arr 4 1 ((fillR fr (o.2.1 - A).toNat o.2.2.toNat true).map encB)), (r45, .arr 4 1 ((longF A (fillR fr ((o.2.1 - A).toNat) k true) (130 - A - N)).map encB))]⟩) (fun k => (k : Int) ≤ o.2.2) (fun k => o.2.2.toNat - k) 0 ?_ (by show ((0 : Nat) : Int) ≤ o.2.2; omega) ?_
          · rw [show longF A fr (130 - A - N) = longF A (fillR fr ((o.2.1 - A).toNat) 0 true) (130 - A - N) by rw [show fillR fr ((o.2.1 - A).toNat) 0 true = fr by simp [fillR]]]
            (refine sgo_st ?_ ?_ <;> (repeat (first | exact FrLe.nil | (apply FrLe.cons; rfl; first | exact VLe.refl _ | exact VLe.any | exact VLe.empty | exact VLe.of_eq (by simp) | exact VLe.of_eq (by congr 1; omega)) | exact StLe.nil | (apply StLe.cons; (repeat (first | exact List.mem_cons_self | apply List.mem_cons_of_mem)); first | rfl | focus (congr 1; done) | focus (simp; done) | (simp; rfl)))))
          rintro k hk
          (repeat (first | refine cs ?_ | refine cb ?_ | refine ck ?_ | refine cx ?_ | refine cr ?_ | refine an ?_ | refine ae ?_ | refine ar ?_ | refine bn ?_ | refine bh ?_ | refine be rfl ?_ | refine br ?_ | refine ct rfl ?_ | refine cf rfl ?_))
          first | refine sw_seq_region ?_ | refine sw_region ?_
          refine lo (lop_move (E rfl)) rfl ?_
          refine lo (lop_move (E rfl)) rfl ?_
          first | refine ln rfl rfl rfl rfl ?_ | refine lg rfl rfl (lop_move (E rfl)) rfl ?_
          first | refine ln rfl rfl rfl rfl ?_ | refine lg rfl rfl (lop_field_ptr (E rfl) rfl (by decide)) rfl ?_
          first | refine ln rfl rfl rfl rfl ?_ | refine lg rfl rfl (lop_load_ptr (W rfl id) rfl (by repeat (first | exact sget_here | refine sget_next (by (first | assumption | (apply Nq.en; assumption) | omega | (simp only [Nq] at *; omega))) ?_)) (fun _ => rfl)) rfl ?_
          first | refine ln rfl rfl rfl rfl ?_ | refine lg rfl rfl (lop_lss (W rfl id) (W rfl id)) rfl ?_
          first | refine lo (lop_pick_t (E rfl) (W rfl (by simp))) rfl ?_ | refine lo (lop_pick_f (E rfl) (E rfl)) rfl ?_ | refine lo (lop_pick (E rfl) (W rfl (by simp)) (E rfl)) rfl ?_
          apply le; (repeat (first | (apply KeepIs.take; rfl) | (apply KeepIs.skip; rfl) | exact KeepIs.nil))
          (repeat (first | refine cs ?_ | refine cb ?_ | refine ck ?_ | refine cx ?_ | refine cr ?_ | refine an ?_ | refine ae ?_ | refine ar ?_ | refine bn ?_ | refine bh ?_ | refine be rfl ?_ | refine br ?_ | refine ct rfl ?_ | refine cf rfl ?_))
          refine sw_cond rfl (fun h5 => ?_) (fun h5 => ?_)
          · have hlt : (k : Int) < o.2.2 := by simpa using h5
            have hln := fillR_len (fr := fr) (o := (o.2.1 - A).toNat) (k := k) (v := true) (by omega)
            have hll := long_len (a := A) (fr := fillR fr ((o.2.1 - A).toNat) k true) (z := 130 - A - N)
            obtain ⟨z, hz⟩ : ∃ z, (longF A (fillR fr ((o.2.1 - A).toNat) k true) (130 - A - N))[(o.2.1 + (k : Int)).toNat]? = some z := ⟨_, List.getElem?_eq_getElem (by omega)⟩
            (repeat (first | refine cs ?_ | refine cb ?_ | refine ck ?_ | refine cx ?_ | refine cr ?_ | refine an ?_ | refine ae ?_ | refine ar ?_ | refine bn ?_ | refine bh ?_ | refine be rfl ?_ | refine br ?_ | refine ct rfl ?_ | refine cf rfl ?_))
            first | refine sw_seq_region ?_ | refine sw_region ?_
            refine lo (lop_move (E rfl)) rfl ?_
            refine lo (lop_field_ptr (E rfl) rfl (by decide)) rfl ?_
            refine lo (lop_load_ptr (E rfl) rfl (by repeat (first | exact sget_here | refine sget_next (by (first | assumption | (apply Nq.en; assumption) | omega | (simp only [Nq] at *; omega))) ?_)) (fun _ => rfl)) rfl ?_
            refine lo (lop_move (E rfl)) rfl ?_
            first | refine lo (lop_add64 (E rfl) (E rfl) (by omega) (by omega)) rfl ?_ | refine lo (lop_add (E rfl) (E rfl)) rfl ?_
            first | refine lo (lop_index_ro (E rfl) (E rfl) (fun hc => by (simp only [List.length_map]; omega))) rfl ?_ | refine lo (lop_index_own0 (E rfl) (by repeat (first | exact sget_here | refine sget_next (by (first | assumption | (apply Nq.en; assumption) | omega | (simp only [Nq] at *; omega))) ?_)) (E rfl) (fun hc => by omega)) rfl ?_ | refine lo (lop_index_own (E rfl) (by repeat (first | exact sget_here | refine sget_next (by (first | assumption | (apply Nq.en; assumption) | omega | (simp only [Nq] at *; omega))) ?_)) (E rfl) (fun hc => by omega)) rfl ?_
            apply sto; rfl; rfl; rfl; rfl; (repeat (first | (apply SSet.here; (repeat (first | exact Fresh.nil | (apply Fresh.cons; (first | assumption | (apply Nq.en; assumption) | omega | (simp only [Nq] at *; omega)))))) | (apply SSet.next; (first | assumption | (apply Nq.en; assumption) | omega | (simp only [Nq] at *; omega))))); (first | rfl | exact get_map (by assumption) | assumption); (repeat (first | exact Put.done | apply Put.put | apply Put.skip)); rfl
            apply le; (repeat (first | (apply KeepIs.take; rfl) | (apply KeepIs.skip; rfl) | exact KeepIs.nil))
            (repeat (first | refine cs ?_ | refine cb ?_ | refine ck ?_ | refine cx ?_ | refine cr ?_ | refine an ?_ | refine ae ?_ | refine ar ?_ | refine bn ?_ | refine bh ?_ | refine be rfl ?_ | refine br ?_ | refine ct rfl ?_ | refine cf rfl ?_))
            first | refine sw_seq_region ?_ | refine sw_region ?_
            refine lo (lop_move (E rfl)) rfl ?_
            first | refine lo (lop_add64 (E rfl) (E rfl) (by omega) (by omega)) rfl ?_ | refine lo (lop_add (E rfl) (E rfl)) rfl ?_
            refine lo (lop_assign (E rfl)) rfl ?_
            apply le; (repeat (first | (apply KeepIs.take; rfl) | (apply KeepIs.skip; rfl) | exact KeepIs.nil))
            (repeat (first | refine cs ?_ | refine cb ?_ | refine ck ?_ | refine cx ?_ | refine cr ?_ | refine an ?_ | refine ae ?_ | refine ar ?_ | refine bn ?_ | refine bh ?_ | refine be rfl ?_ | refine br ?_ | refine ct rfl ?_ | refine cf rfl ?_))
            refine ⟨k + 1, by show ((k + 1 : Nat) : Int) ≤ o.2.2; omega, by show o.2.2.toNat - (k + 1) < o.2.2.toNat - k; omega, ?_⟩
            rw [set_encB', long_set' (by omega) (by omega), show (o.2.1 + (k : Int) - A).toNat = (o.2.1 - A).toNat + k by omega, fillR_step (by omega)]
            (refine sgo_st ?_ ?_ <;> (repeat (first | exact FrLe.nil | (apply FrLe.cons; rfl; first | exact VLe.refl _ | exact VLe.any | exact VLe.empty | exact VLe.of_eq (by simp) | exact VLe.of_eq (by congr 1; omega)) | exact StLe.nil | (apply StLe.cons; (repeat (first | exact List.mem_cons_self | apply List.mem_cons_of_mem)); first | rfl | focus (congr 1; done) | focus (simp; done) | (simp; rfl)))))
          have hk2 : k = o.2.2.toNat := by simp at h5; omega
          subst hk2
          (repeat (first | refine cs ?_ | refine cb ?_ | refine ck ?_ | refine cx ?_ | refine cr ?_ | refine an ?_ | refine ae ?_ | refine ar ?_ | refine bn ?_ | refine bh ?_ | refine be rfl ?_ | refine br ?_ | refine ct rfl ?_ | refine cf rfl ?_))
          have hFl : (fillR fr (o.2.1 - A).toNat o.2.2.toNat true).length = N := by first | exact hfr | (rw [setF_len]; exact hfr) | (rw [fillR_len (by omega)]; exact hfr)
          first | refine sw_seq_region ?_ | refine sw_region ?_
          refine lo (lop_move (E rfl)) rfl ?_
          refine lo (lop_move (E rfl)) rfl ?_
          refine cw [(s, .box 83 [.int .i64 A, .own q 0 (fillR fr (o.2.1 - A).toNat o.2.2.toNat true).length]), (q, .arr 4 1 ((fillR fr (o.2.1 - A).toNat o.2.2.toNat true).map encB)), (r45, .arr 4 1 ((longF A (fillR fr (o.2.1 - A).toNat o.2.2.toNat true) (130 - A - N)).map encB))] Try.call28 (law_same19 hq hr1 hr2 A (fillR fr (o.2.1 - A).toNat o.2.2.toNat true) (longF A (fillR fr (o.2.1 - A).toNat o.2.2.toNat true) (130 - A - N)) (by omega) (by omega) (by omega) (by rw [long_len]; omega) spans_long.symm count_long.symm 130 (by rw [long_len]; omega)) rfl ?_ ?_ ?_
          · (repeat (first | exact ArgsLe.nil | (apply ArgsLe.cons; rfl; first | exact VLe.refl _ | exact VLe.when rfl | exact VLe.any | exact VLe.empty | exact VLe.of_eq (by simp))))
          · (first | exact no_mem | (apply StLe.mem; (repeat (first | exact StLe.nil | (apply StLe.cons; (repeat (first | exact List.mem_cons_self | apply List.mem_cons_of_mem)); first | rfl | focus (congr 1; done) | focus (simp; done) | (simp; rfl))))))
          rintro x σ' ⟨rfl, rfl⟩ -
          (apply rs_sto; (first | (simp (disch := (first | (simp only [List.mem_cons, List.not_mem_nil, true_or, or_true, or_false]; done) | (focus (simp only [List.mem_cons, List.not_mem_nil, or_false, not_or]; (repeat' (first | apply And.intro | (first | assumption | (apply Nq.en; assumption) | omega | (simp only [Nq] at *; omega)))); done)) | omega)) only [↓put_σ, ↓mk_σ, AV.cells, sset, sdrop_none, sdrop_nil, sdrop_in, sdrop_out, List.nil_append, List.cons_append, List.append_nil, List.map_nil, List.map_cons, List.take_succ_cons, List.take_zero, List.drop_succ_cons, List.drop_zero, take_len', take_map_len, Nat.zero_add, Nat.add_zero, ofCell, ofConst]; rfl) | rfl))
          refine lo (lop_not (E rfl)) rfl ?_
          apply le; (repeat (first | (apply KeepIs.take; rfl) | (apply KeepIs.skip; rfl) | exact KeepIs.nil))
          (repeat (first | refine cs ?_ | refine cb ?_ | refine ck ?_ | refine cx ?_ | refine cr ?_ | refine an ?_ | refine ae ?_ | refine ar ?_ | refine bn ?_ | refine bh ?_ | refine be rfl ?_ | refine br ?_ | refine ct rfl ?_ | refine cf rfl ?_))
          first | refine sw_seq_region ?_ | refine sw_region ?_
          refine lo (lop_move (E rfl)) rfl ?_
          first | refine lo (lop_add64 (E rfl) (E rfl) (by omega) (by omega)) rfl ?_ | refine lo (lop_add (E rfl) (E rfl)) rfl ?_
          refine lo (lop_assign (E rfl)) rfl ?_
          apply le; (repeat (first | (apply KeepIs.take; rfl) | (apply KeepIs.skip; rfl) | exact KeepIs.nil))
          (repeat (first | refine cs ?_ | refine cb ?_ | refine ck ?_ | refine cx ?_ | refine cr ?_ | refine an ?_ | refine ae ?_ | refine ar ?_ | refine bn ?_ | refine bh ?_ | refine be rfl ?_ | refine br ?_ | refine ct rfl ?_ | refine cf rfl ?_))
          refine ⟨⟨i + 1, fillR fr (o.2.1 - A).toNat o.2.2.toNat true⟩, ⟨by show i + 1 ≤ 60; omega, by show i + 1 ≤ ops.length; omega, hFl⟩, by show 60 - (i + 1) < 60 - i; omega, ?_⟩
          (refine sgo_st ?_ ?_ <;> (repeat (first | exact FrLe.nil | (apply FrLe.cons; rfl; first | exact VLe.refl _ | exact VLe.any | exact VLe.empty | exact VLe.of_eq (by simp) | exact VLe.of_eq (by congr 1; omega)) | exact StLe.nil | (apply StLe.cons; (repeat (first | exact List.mem_cons_self | apply List.mem_cons_of_mem)); first | rfl | focus (congr 1; done) | focus (simp; done) | (simp; rfl)))))
        | false =>
          rw [setF_no (v := true) hA]
          refine lp (β := Unit) (fun _ => ⟨[(0, .int .i64 A), (1, .int .i64 N), (2, .ro 3 (ops.map encX) .any), (8, .ptr s 0), (9, .own r45 0 130), (11, .int .i64 i), (12, .ptr r12 0), (14, .bool false), (25, .int .i64 0)], [(r12, .box 63 [.int .i64 o.1, .int .i64 o.2.1, .int .i64 o.2.2]), (s, .box 83 [.int .i64 A, .own q 0 (fr).length]), (q, .arr 4 1 ((fr).map encB)), (r45, .arr 4 1 ((longF A (fr) (130 - A - N)).map encB))]⟩) (fun _ => True) (fun _ => 0) () ?_ trivial ?_
          · (refine sgo_st ?_ ?_ <;> (repeat (first | exact FrLe.nil | (apply FrLe.cons; rfl; first | exact VLe.refl _ | exact VLe.any | exact VLe.empty | exact VLe.of_eq (by simp) | exact VLe.of_eq (by congr 1; omega)) | exact StLe.nil | (apply StLe.cons; (repeat (first | exact List.mem_cons_self | apply List.mem_cons_of_mem)); first | rfl | focus (congr 1; done) | focus (simp; done) | (simp; rfl)))))
          rintro _ _
          (repeat (first | refine cs ?_ | refine cb ?_ | refine ck ?_ | refine cx ?_ | refine cr ?_ | refine an ?_ | refine ae ?_ | refine ar ?_ | refine bn ?_ | refine bh ?_ | refine be rfl ?_ | refine br ?_ | refine ct rfl ?_ | refine cf rfl ?_))
          first | refine sw_seq_region ?_ | refine sw_region ?_
          refine lo (lop_move (E rfl)) rfl ?_
          refine lo (lop_move (E rfl)) rfl ?_
          first | refine ln rfl rfl rfl rfl ?_ | refine lg rfl rfl (lop_move (E rfl)) rfl ?_
          first | refine ln rfl rfl rfl rfl ?_ | refine lg rfl rfl (lop_field_ptr (E rfl) rfl (by decide)) rfl ?_
          first | refine ln rfl rfl rfl rfl ?_ | refine lg rfl rfl (lop_load_ptr (W rfl id) rfl (by repeat (first | exact sget_here | refine sget_next (by (first | assumption | (apply Nq.en; assumption) | omega | (simp only [Nq] at *; omega))) ?_)) (fun _ => rfl)) rfl ?_
          first | refine ln rfl rfl rfl rfl ?_ | refine lg rfl rfl (lop_lss (W rfl id) (W rfl id)) rfl ?_
          first | refine lo (lop_pick_t (E rfl) (W rfl (by simp))) rfl ?_ | refine lo (lop_pick_f (E rfl) (E rfl)) rfl ?_ | refine lo (lop_pick (E rfl) (W rfl (by simp)) (E rfl)) rfl ?_
          apply le; (repeat (first | (apply KeepIs.take; rfl) | (apply KeepIs.skip; rfl) | exact KeepIs.nil))
          (repeat (first | refine cs ?_ | refine cb ?_ | refine ck ?_ | refine cx ?_ | refine cr ?_ | refine an ?_ | refine ae ?_ | refine ar ?_ | refine bn ?_ | refine bh ?_ | refine be rfl ?_ | refine br ?_ | refine ct rfl ?_ | refine cf rfl ?_))
          have hFl : (fr).length = N := by first | exact hfr | (rw [setF_len]; exact hfr) | (rw [fillR_len (by omega)]; exact hfr)
          first | refine sw_seq_region ?_ | refine sw_region ?_
          refine lo (lop_move (E rfl)) rfl ?_
          refine lo (lop_move (E rfl)) rfl ?_
          refine cw [(s, .box 83 [.int .i64 A, .own q 0 (fr).length]), (q, .arr 4 1 ((fr).map encB)), (r45, .arr 4 1 ((longF A (fr) (130 - A - N)).map encB))] Try.call28 (law_same19 hq hr1 hr2 A (fr) (longF A (fr) (130 - A - N)) (by omega) (by omega) (by omega) (by rw [long_len]; omega) spans_long.symm count_long.symm 130 (by rw [long_len]; omega)) rfl ?_ ?_ ?_
          · (repeat (first | exact ArgsLe.nil | (apply ArgsLe.cons; rfl; first | exact VLe.refl _ | exact VLe.when rfl | exact VLe.any | exact VLe.empty | exact VLe.of_eq (by simp))))
          · (first | exact no_mem | (apply StLe.mem; (repeat (first | exact StLe.nil | (apply StLe.cons; (repeat (first | exact List.mem_cons_self | apply List.mem_cons_of_mem)); first | rfl | focus (congr 1; done) | focus (simp; done) | (simp; rfl))))))
          rintro x σ' ⟨rfl, rfl⟩ -
          (apply rs_sto; (first | (simp (disch := (first | (simp only [List.mem_cons, List.not_mem_nil, true_or, or_true, or_false]; done) | (focus (simp only [List.mem_cons, List.not_mem_nil, or_false, not_or]; (repeat' (first | apply And.intro | (first | assumption | (apply Nq.en; assumption) | omega | (simp only [Nq] at *; omega)))); done)) | omega)) only [↓put_σ, ↓mk_σ, AV.cells, sset, sdrop_none, sdrop_nil, sdrop_in, sdrop_out, List.nil_append, List.cons_append, List.append_nil, List.map_nil, List.map_cons, List.take_succ_cons, List.take_zero, List.drop_succ_cons, List.drop_zero, take_len', take_map_len, Nat.zero_add, Nat.add_zero, ofCell, ofConst]; rfl) | rfl))
          refine lo (lop_not (E rfl)) rfl ?_
          apply le; (repeat (first | (apply KeepIs.take; rfl) | (apply KeepIs.skip; rfl) | exact KeepIs.nil))
          (repeat (first | refine cs ?_ | refine cb ?_ | refine ck ?_ | refine cx ?_ | refine cr ?_ | refine an ?_ | refine ae ?_ | refine ar ?_ | refine bn ?_ | refine bh ?_ | refine be rfl ?_ | refine br ?_ | refine ct rfl ?_ | refine cf rfl ?_))
          first | refine sw_seq_region ?_ | refine sw_region ?_
          refine lo (lop_move (E rfl)) rfl ?_
          first | refine lo (lop_add64 (E rfl) (E rfl) (by omega) (by omega)) rfl ?_ | refine lo (lop_add (E rfl) (E rfl)) rfl ?_
          refine lo (lop_assign (E rfl)) rfl ?_
          apply le; (repeat (first | (apply KeepIs.take; rfl) | (apply KeepIs.skip; rfl) | exact KeepIs.nil))
          (repeat (first | refine cs ?_ | refine cb ?_ | refine ck ?_ | refine cx ?_ | refine cr ?_ | refine an ?_ | refine ae ?_ | refine ar ?_ | refine bn ?_ | refine bh ?_ | refine be rfl ?_ | refine br ?_ | refine ct rfl ?_ | refine cf rfl ?_))
          refine ⟨⟨i + 1, fr⟩, ⟨by show i + 1 ≤ 60; omega, by show i + 1 ≤ ops.length; omega, hFl⟩, by show 60 - (i + 1) < 60 - i; omega, ?_⟩
          (refine sgo_st ?_ ?_ <;> (repeat (first | exact FrLe.nil | (apply FrLe.cons; rfl; first | exact VLe.refl _ | exact VLe.any | exact VLe.empty | exact VLe.of_eq (by simp) | exact VLe.of_eq (by congr 1; omega)) | exact StLe.nil | (apply StLe.cons; (repeat (first | exact List.mem_cons_self | apply List.mem_cons_of_mem)); first | rfl | focus (congr 1; done) | focus (simp; done) | (simp; rfl)))))
  (repeat (first | refine cs ?_ | refine cb ?_ | refine ck ?_ | refine cx ?_ | refine cr ?_ | refine an ?_ | refine ae ?_ | refine ar ?_ | refine bn ?_ | refine bh ?_ | refine be rfl ?_ | refine br ?_ | refine ct rfl ?_ | refine cf rfl ?_))
  first | refine sw_seq_region ?_ | refine sw_region ?_
  refine lo (lop_assign (E rfl)) rfl ?_
  apply le; (repeat (first | (apply KeepIs.take; rfl) | (apply KeepIs.skip; rfl) | exact KeepIs.nil))
  (repeat (first | refine cs ?_ | refine cb ?_ | refine ck ?_ | refine cx ?_ | refine cr ?_ | refine an ?_ | refine ae ?_ | refine ar ?_ | refine bn ?_ | refine bh ?_ | refine be rfl ?_ | refine br ?_ | refine ct rfl ?_ | refine cf rfl ?_))
  (apply aend; (repeat (first | exact ResL.nil | (apply ResL.tmp; rfl) | (apply ResL.cell; rfl; infer_instance; rfl; (repeat (first | exact sget_here | (apply sget_next; (first | assumption | (apply Nq.en; assumption) | omega | (simp only [Nq] at *; omega))))); rfl) | (apply ResL.cells; rfl; infer_instance; infer_instance; rfl; (repeat (first | exact sget_here | (apply sget_next; (first | assumption | (apply Nq.en; assumption) | omega | (simp only [Nq] at *; omega))))); exact Nat.le_of_ble_eq_true rfl))))
  · exact rfl
  · (first | exact no_mem | (apply StLe.mem; (repeat (first | exact StLe.nil | (apply StLe.cons; (repeat (first | exact List.mem_cons_self | apply List.mem_cons_of_mem)); first | rfl | focus (congr 1; done) | focus (simp; done) | (simp; rfl))))))
end Go.Proofs.Ytpdgnenffiphcaa
