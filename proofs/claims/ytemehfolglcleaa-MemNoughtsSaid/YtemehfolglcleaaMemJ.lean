/-
  MemNoughts.
-/
import Derived.Test.YtemehfolglcleaaMemE
import Derived.Test.YtemehfolglcleaaSymR
namespace Go.Proofs.Ytemehfolglcleaa
open Go.RowKit Go.ChangeShapes Go.WideShapes Go.ChangeAt Go.Deep
set_option linter.unusedSimpArgs false
set_option linter.unusedVariables false
attribute [local irreducible] SW RS RD AThen ABlock

theorem bd_u8 {n : Int} (h : (Lit.int .u8 n).wf = true) : 0 ≤ n ∧ n ≤ 255 := by
  simp [Lit.wf, IntKind.min, IntKind.max, IntKind.signed, IntKind.bits] at h
  omega
theorem pageL_app {b c : List Nat} {i : Nat} (h : i < b.length / 256) : pageL (b ++ c) i = pageL b i := by
  unfold pageL
  rw [List.drop_append_of_le_length (by omega), List.take_append_of_le_length (by simp; omega)]
theorem pageL_new {b : List Nat} {n i : Nat} (hb : b.length % 256 = 0) (h1 : b.length / 256 ≤ i) (h2 : i < b.length / 256 + n) : pageL (b ++ List.replicate (256 * n) 0) i = List.replicate 256 0 := by
  unfold pageL
  rw [List.drop_append, List.drop_of_length_le (by omega), List.nil_append, List.drop_replicate, List.take_replicate]
  congr 1
  omega
theorem fillU_step {y k : Nat} (h : k < 256) : (List.replicate k y ++ List.replicate (256 - k) 0).set k y = List.replicate (k + 1) y ++ List.replicate (256 - (k + 1)) 0 := by
  rw [List.set_append_right _ _ (by simp), List.length_replicate, Nat.sub_self, show 256 - k = (256 - (k + 1)) + 1 by omega, List.replicate_succ, List.set_cons_zero, List.replicate_succ' (n := k)]
  simp
set_option maxRecDepth 100000 in
theorem law_memNoughts (y n : Int) (hy : 0 ≤ y ∧ y ≤ 255) : SCall Try.prog 9 [.int .u8 y, .int .i64 n] [] (fun x _ => x = .bool true) := by
  obtain ⟨x, rfl⟩ := Int.eq_ofNat_of_zero_le hy.1
  have hx : x < 256 := by omega
  refine scall_of (n := 76) (ks := [0, 1, 4, 5, 6, 7, 8, 9, 10, 11, 14, 20, 25, 26, 27, 43, 46, 55]) Try.func9 rfl rfl (Nat.le_of_ble_eq_true rfl) ?_
  (repeat (first | refine cs ?_ | refine cb ?_ | refine ck ?_ | refine cx ?_ | refine cr ?_ | refine an ?_ | refine ae ?_ | refine ar ?_ | refine bn ?_ | refine bh ?_ | refine be rfl ?_ | refine br ?_ | refine ct rfl ?_ | refine cf rfl ?_))
  first | refine sw_seq_region ?_ | refine sw_region ?_
  refine lo (lop_assign (E rfl)) rfl ?_
  apply le; (repeat (first | (apply KeepIs.take; rfl) | (apply KeepIs.skip; rfl) | exact KeepIs.nil))
  (repeat (first | refine cs ?_ | refine cb ?_ | refine ck ?_ | refine cx ?_ | refine cr ?_ | refine an ?_ | refine ae ?_ | refine ar ?_ | refine bn ?_ | refine bh ?_ | refine be rfl ?_ | refine br ?_ | refine ct rfl ?_ | refine cf rfl ?_))
  first | refine sw_seq_region ?_ | refine sw_region ?_
  (first | refine pu [] Try.call11 law_begun10 rfl (by repeat (first | exact ArgsIf.nil | refine ArgsIf.cons (by first | exact Ev.when rfl (by first | exact id | simp) | exact Ev.here rfl) (by first | exact Bor.refl _ | exact Bor.le VLe.any | exact Bor.le VLe.empty | exact Bor.own (by simp) (by repeat (first | exact sget_here | refine sget_next (by (first | assumption | (apply Nq.en; assumption) | omega | (simp only [Nq] at *; omega))) ?_)) (by simp) | exact Bor.le (VLe.of_eq (by simp))) ?_)) (by repeat (first | exact NoF.int | exact NoF.bool | exact NoF.nilp | exact NoF.nil | exact NoF.own | exact NoF.ptr | exact NoF.str | exact nofl_nil | apply NoF.tup | apply NoF.agg | apply nofl_cons)) ?_ | refine pug [] rfl rfl Try.call11 (fun _ => law_begun10) rfl (by repeat (first | exact ArgsIf.nil | refine ArgsIf.cons (by first | exact Ev.when rfl (by first | exact id | simp) | exact Ev.here rfl) (by first | exact Bor.refl _ | exact Bor.le VLe.any | exact Bor.le VLe.empty | exact Bor.own (by simp) (by repeat (first | exact sget_here | refine sget_next (by (first | assumption | (apply Nq.en; assumption) | omega | (simp only [Nq] at *; omega))) ?_)) (by simp) | exact Bor.le (VLe.of_eq (by simp))) ?_)) (by repeat (first | exact NoF.int | exact NoF.bool | exact NoF.nilp | exact NoF.nil | exact NoF.own | exact NoF.ptr | exact NoF.str | exact nofl_nil | apply NoF.tup | apply NoF.agg | apply nofl_cons)) ?_)
  refine lo (lop_assign (E rfl)) rfl ?_
  apply le; (repeat (first | (apply KeepIs.take; rfl) | (apply KeepIs.skip; rfl) | exact KeepIs.nil))
  (repeat (first | refine cs ?_ | refine cb ?_ | refine ck ?_ | refine cx ?_ | refine cr ?_ | refine an ?_ | refine ae ?_ | refine ar ?_ | refine bn ?_ | refine bh ?_ | refine be rfl ?_ | refine br ?_ | refine ct rfl ?_ | refine cf rfl ?_))
  first | refine sw_seq_region ?_ | refine sw_region ?_
  refine lo (lop_move (E rfl)) rfl ?_
  refine lo (lop_not (E rfl)) rfl ?_
  apply le; (repeat (first | (apply KeepIs.take; rfl) | (apply KeepIs.skip; rfl) | exact KeepIs.nil))
  (repeat (first | refine cs ?_ | refine cb ?_ | refine ck ?_ | refine cx ?_ | refine cr ?_ | refine an ?_ | refine ae ?_ | refine ar ?_ | refine bn ?_ | refine bh ?_ | refine be rfl ?_ | refine br ?_ | refine ct rfl ?_ | refine cf rfl ?_))
  first | refine sw_seq_region ?_ | refine sw_region ?_
  refine lo (lop_move (E rfl)) rfl ?_
  refine lo (lop_lss (E rfl) (E rfl)) rfl ?_
  refine lo (lop_move (E rfl)) rfl ?_
  first | refine ln rfl rfl rfl rfl ?_ | refine lg rfl rfl (lop_move (E rfl)) rfl ?_
  first | refine ln rfl rfl rfl rfl ?_ | refine lg rfl rfl (lop_gtr (W rfl id) (E rfl)) rfl ?_
  first | refine lo (lop_pick_t (E rfl) (E rfl)) rfl ?_ | refine lo (lop_pick_f (E rfl) (W rfl (by simp))) rfl ?_ | refine lo (lop_pick (E rfl) (E rfl) (W rfl (by simp))) rfl ?_
  apply le; (repeat (first | (apply KeepIs.take; rfl) | (apply KeepIs.skip; rfl) | exact KeepIs.nil))
  (repeat (first | refine cs ?_ | refine cb ?_ | refine ck ?_ | refine cx ?_ | refine cr ?_ | refine an ?_ | refine ae ?_ | refine ar ?_ | refine bn ?_ | refine bh ?_ | refine be rfl ?_ | refine br ?_ | refine ct rfl ?_ | refine cf rfl ?_))
  refine sw_cond rfl (fun h => ?_) (fun h => ?_)
  · (repeat (first | refine cs ?_ | refine cb ?_ | refine ck ?_ | refine cx ?_ | refine cr ?_ | refine an ?_ | refine ae ?_ | refine ar ?_ | refine bn ?_ | refine bh ?_ | refine be rfl ?_ | refine br ?_ | refine ct rfl ?_ | refine cf rfl ?_))
    first | refine sw_seq_region ?_ | refine sw_region ?_
    refine lo (lop_assign (E rfl)) rfl ?_
    apply le; (repeat (first | (apply KeepIs.take; rfl) | (apply KeepIs.skip; rfl) | exact KeepIs.nil))
    (repeat (first | refine cs ?_ | refine cb ?_ | refine ck ?_ | refine cx ?_ | refine cr ?_ | refine an ?_ | refine ae ?_ | refine ar ?_ | refine bn ?_ | refine bh ?_ | refine be rfl ?_ | refine br ?_ | refine ct rfl ?_ | refine cf rfl ?_))
    (apply aend; (repeat (first | exact ResL.nil | (apply ResL.tmp; rfl) | (apply ResL.cell; rfl; infer_instance; rfl; (repeat (first | exact sget_here | (apply sget_next; (first | assumption | (apply Nq.en; assumption) | omega | (simp only [Nq] at *; omega))))); rfl) | (apply ResL.cells; rfl; infer_instance; infer_instance; rfl; (repeat (first | exact sget_here | (apply sget_next; (first | assumption | (apply Nq.en; assumption) | omega | (simp only [Nq] at *; omega))))); exact Nat.le_of_ble_eq_true rfl))))
    · rfl
    · exact no_mem
  have ha : 1 ≤ n ∧ n ≤ 15 := by
    by_cases h1 : n < 1
    · simp [h1] at h
    · rw [decide_eq_false h1] at h
      simp at h
      omega
  obtain ⟨G, rfl⟩ := Int.eq_ofNat_of_zero_le (show 0 ≤ n by omega)
  (repeat (first | refine cs ?_ | refine cb ?_ | refine ck ?_ | refine cx ?_ | refine cr ?_ | refine an ?_ | refine ae ?_ | refine ar ?_ | refine bn ?_ | refine bh ?_ | refine be rfl ?_ | refine br ?_ | refine ct rfl ?_ | refine cf rfl ?_))
  first | refine sw_seq_region ?_ | refine sw_region ?_
  refine lo (lop_str (by repeat (first | exact PEvs.nil | (apply PEvs.cons; first | exact W rfl id | exact E rfl))) (by (first | (simp only [Value.cells, AV.cells, List.map_cons, List.map_nil, ofConst, ofCell]; rfl) | rfl)) (by repeat (first | exact Fill.nil | (apply Fill.cons; rfl; rfl; rfl; (repeat (first | exact Put.done | apply Put.put | apply Put.skip)))))) rfl ?_
  refine cw [] Try.call12 (mem_new 1 (-1) (by omega)) rfl ?_ ?_ ?_
  · (repeat (first | exact ArgsLe.nil | (apply ArgsLe.cons; rfl; first | exact VLe.refl _ | exact VLe.when rfl | exact VLe.any | exact VLe.empty | exact VLe.of_eq (by simp))))
  · (first | exact no_mem | exact (fun _ h => h) | (apply StLe.mem; (repeat (first | exact StLe.nil | (apply StLe.cons; (repeat (first | exact List.mem_cons_self | apply List.mem_cons_of_mem)); first | rfl | focus (congr 1; done) | focus (simp; done) | (simp; rfl))))))
  rintro _ σ' ⟨m, q, d, ⟨hN1, hN2, hN3⟩, rfl, rfl⟩ -
  rw [show newMo (-1) = 16 from rfl]
  (apply rs_sto; (first | (simp (disch := (first | (simp only [List.mem_cons, List.not_mem_nil, true_or, or_true, or_false]; done) | (focus (simp only [List.mem_cons, List.not_mem_nil, or_false, not_or]; (repeat' (first | apply And.intro | (first | assumption | (apply Nq.en; assumption) | omega | (simp only [Nq] at *; omega)))); done)) | omega)) only [↓put_σ, ↓mk_σ, AV.cells, sset, sdrop_none, sdrop_nil, sdrop_in, sdrop_out, List.nil_append, List.cons_append, List.append_nil, List.map_nil, List.map_cons, List.take_succ_cons, List.take_zero, List.drop_succ_cons, List.drop_zero, take_len', take_map_len, Nat.zero_add, Nat.add_zero, ofCell, ofConst]; rfl) | rfl))
  refine lo (lop_assign (E rfl)) rfl ?_
  apply le; (repeat (first | (apply KeepIs.take; rfl) | (apply KeepIs.skip; rfl) | exact KeepIs.nil))
  (repeat (first | refine cs ?_ | refine cb ?_ | refine ck ?_ | refine cx ?_ | refine cr ?_ | refine an ?_ | refine ae ?_ | refine ar ?_ | refine bn ?_ | refine bh ?_ | refine be rfl ?_ | refine br ?_ | refine ct rfl ?_ | refine cf rfl ?_))
  first | refine sw_seq_region ?_ | refine sw_region ?_
  apply mk (l := 256) (z := encU 0); rfl; rfl; rfl; rfl
  · omega
  · simp [maxLen]
  · rfl
  · rfl
  intro r23 h23; simp only [fresh_cons, fresh_nil, and_true] at h23; (repeat (rcases h23 with ⟨_, h23⟩))
  rw [← show (List.replicate 256 0).map encU = List.replicate 256 (encU 0) by simp]
  refine lo (lop_assign (E rfl)) rfl ?_
  apply le; (repeat (first | (apply KeepIs.take; rfl) | (apply KeepIs.skip; rfl) | exact KeepIs.nil))
  (repeat (first | refine cs ?_ | refine cb ?_ | refine ck ?_ | refine cx ?_ | refine cr ?_ | refine an ?_ | refine ae ?_ | refine ar ?_ | refine bn ?_ | refine bh ?_ | refine be rfl ?_ | refine br ?_ | refine ct rfl ?_ | refine cf rfl ?_))
  first | refine sw_seq_region ?_ | refine sw_region ?_
  refine lo (lop_move (E rfl)) rfl ?_
  first | refine lo (lop_len_map (E rfl)) rfl ?_ | refine lo (lop_len_ro (E rfl)) rfl ?_ | refine lo (lop_len_own (E rfl)) rfl ?_
  refine lo (lop_move (E rfl)) rfl ?_
  apply le; (repeat (first | (apply KeepIs.take; rfl) | (apply KeepIs.skip; rfl) | exact KeepIs.nil))
  (repeat (first | refine cs ?_ | refine cb ?_ | refine ck ?_ | refine cx ?_ | refine cr ?_ | refine an ?_ | refine ae ?_ | refine ar ?_ | refine bn ?_ | refine bh ?_ | refine be rfl ?_ | refine br ?_ | refine ct rfl ?_ | refine cf rfl ?_))
  refine lp (β := Nat) (fun k => ⟨[(0, .int .u8 x), (1, .int .i64 G), (4, .bool false), (6, .ptr m 0), (7, .own r23 0 256), (25, .int .i64 256), (26, .int .i64 k)], [(r23, .arr 5 1 ((List.replicate k x ++ List.replicate (256 - k) 0).map encU)), (m, .box 54 [.own q 0 (List.replicate (256 * 1) 0).length, .int .i64 16, .own d 0 ([] : List Int).length]), (q, .arr 5 1 ((List.replicate (256 * 1) 0).map encU)), (d, .arr 3 1 (([] : List Int).map encI))]⟩) (fun k => k ≤ 256) (fun k => 256 - k) 0 ?_ (Nat.zero_le _) ?_
  · (refine sgo_st ?_ ?_ <;> (repeat (first | exact FrLe.nil | (apply FrLe.cons; rfl; first | exact VLe.refl _ | exact VLe.any | exact VLe.empty | exact VLe.of_eq (by simp) | exact VLe.of_eq (by congr 1; omega)) | exact StLe.nil | exact StLe.refl _ | (apply StLe.cons; (repeat (first | exact List.mem_cons_self | apply List.mem_cons_of_mem)); first | rfl | focus (congr 1; done) | focus (simp; done) | (simp; rfl)))))
  rintro k hk
  (repeat (first | refine cs ?_ | refine cb ?_ | refine ck ?_ | refine cx ?_ | refine cr ?_ | refine an ?_ | refine ae ?_ | refine ar ?_ | refine bn ?_ | refine bh ?_ | refine be rfl ?_ | refine br ?_ | refine ct rfl ?_ | refine cf rfl ?_))
  first | refine sw_seq_region ?_ | refine sw_region ?_
  refine lo (lop_lss (E rfl) (E rfl)) rfl ?_
  apply le; (repeat (first | (apply KeepIs.take; rfl) | (apply KeepIs.skip; rfl) | exact KeepIs.nil))
  (repeat (first | refine cs ?_ | refine cb ?_ | refine ck ?_ | refine cx ?_ | refine cr ?_ | refine an ?_ | refine ae ?_ | refine ar ?_ | refine bn ?_ | refine bh ?_ | refine be rfl ?_ | refine br ?_ | refine ct rfl ?_ | refine cf rfl ?_))
  refine sw_cond rfl (fun h2 => ?_) (fun h2 => ?_)
  · have hlt : k < 256 := by simp at h2; omega
    have hln : (List.replicate k x ++ List.replicate (256 - k) 0).length = 256 := by simp; omega
    obtain ⟨z, hz⟩ : ∃ z, (List.replicate k x ++ List.replicate (256 - k) 0)[((k : Int)).toNat]? = some z := ⟨_, List.getElem?_eq_getElem (by omega)⟩
    (repeat (first | refine cs ?_ | refine cb ?_ | refine ck ?_ | refine cx ?_ | refine cr ?_ | refine an ?_ | refine ae ?_ | refine ar ?_ | refine bn ?_ | refine bh ?_ | refine be rfl ?_ | refine br ?_ | refine ct rfl ?_ | refine cf rfl ?_))
    first | refine sw_seq_region ?_ | refine sw_region ?_
    refine lo (lop_move (E rfl)) rfl ?_
    refine lo (lop_assign (E rfl)) rfl ?_
    apply le; (repeat (first | (apply KeepIs.take; rfl) | (apply KeepIs.skip; rfl) | exact KeepIs.nil))
    (repeat (first | refine cs ?_ | refine cb ?_ | refine ck ?_ | refine cx ?_ | refine cr ?_ | refine an ?_ | refine ae ?_ | refine ar ?_ | refine bn ?_ | refine bh ?_ | refine be rfl ?_ | refine br ?_ | refine ct rfl ?_ | refine cf rfl ?_))
    first | refine sw_seq_region ?_ | refine sw_region ?_
    refine lo (lop_move (E rfl)) rfl ?_
    refine lo (lop_move (E rfl)) rfl ?_
    refine lo (lop_move (E rfl)) rfl ?_
    first | refine lo (lop_index_ro (E rfl) (E rfl) (fun hc => by (simp only [List.length_map]; omega))) rfl ?_ | refine lo (lop_index_own0 (E rfl) (by repeat (first | exact sget_here | refine sget_next (by (first | assumption | (apply Nq.en; assumption) | omega | (simp only [Nq] at *; omega))) ?_)) (E rfl) (fun hc => by omega)) rfl ?_ | refine lo (lop_index_own (E rfl) (by repeat (first | exact sget_here | refine sget_next (by (first | assumption | (apply Nq.en; assumption) | omega | (simp only [Nq] at *; omega))) ?_)) (E rfl) (fun hc => by omega)) rfl ?_
    apply sto; rfl; rfl; rfl; rfl; (repeat (first | (apply SSet.here; (repeat (first | exact Fresh.nil | (apply Fresh.cons; (first | assumption | (apply Nq.en; assumption) | omega | (simp only [Nq] at *; omega)))))) | (apply SSet.next; (first | assumption | (apply Nq.en; assumption) | omega | (simp only [Nq] at *; omega))))); (first | rfl | exact get_map (by assumption) | assumption); (repeat (first | exact Put.done | apply Put.put | apply Put.skip)); rfl
    apply le; (repeat (first | (apply KeepIs.take; rfl) | (apply KeepIs.skip; rfl) | exact KeepIs.nil))
    (repeat (first | refine cs ?_ | refine cb ?_ | refine ck ?_ | refine cx ?_ | refine cr ?_ | refine an ?_ | refine ae ?_ | refine ar ?_ | refine bn ?_ | refine bh ?_ | refine be rfl ?_ | refine br ?_ | refine ct rfl ?_ | refine cf rfl ?_))
    first | refine sw_seq_region ?_ | refine sw_region ?_
    first | refine lo (lop_add64 (E rfl) (E rfl) (by omega) (by omega)) rfl ?_ | refine lo (lop_add (E rfl) (E rfl)) rfl ?_
    refine lo (lop_move (E rfl)) rfl ?_
    apply le; (repeat (first | (apply KeepIs.take; rfl) | (apply KeepIs.skip; rfl) | exact KeepIs.nil))
    (repeat (first | refine cs ?_ | refine cb ?_ | refine ck ?_ | refine cx ?_ | refine cr ?_ | refine an ?_ | refine ae ?_ | refine ar ?_ | refine bn ?_ | refine bh ?_ | refine be rfl ?_ | refine br ?_ | refine ct rfl ?_ | refine cf rfl ?_))
    refine ⟨k + 1, hlt, by show 256 - (k + 1) < 256 - k; omega, ?_⟩
    rw [set_encU, Int.toNat_natCast, fillU_step hlt]
    (refine sgo_st ?_ ?_ <;> (repeat (first | exact FrLe.nil | (apply FrLe.cons; rfl; first | exact VLe.refl _ | exact VLe.any | exact VLe.empty | exact VLe.of_eq (by simp) | exact VLe.of_eq (by congr 1; omega)) | exact StLe.nil | exact StLe.refl _ | (apply StLe.cons; (repeat (first | exact List.mem_cons_self | apply List.mem_cons_of_mem)); first | rfl | focus (congr 1; done) | focus (simp; done) | (simp; rfl)))))
  obtain rfl : k = 256 := by simp at h2; omega
  rw [show List.replicate 256 x ++ List.replicate (256 - 256) 0 = List.replicate 256 x by simp]
  have hl0 : (List.replicate (256 * 1) 0).length = 256 := by simp
  have hlx : (List.replicate 256 x).length = 256 := by simp
  (repeat (first | refine cs ?_ | refine cb ?_ | refine ck ?_ | refine cx ?_ | refine cr ?_ | refine an ?_ | refine ae ?_ | refine ar ?_ | refine bn ?_ | refine bh ?_ | refine be rfl ?_ | refine br ?_ | refine ct rfl ?_ | refine cf rfl ?_))
  first | refine sw_seq_region ?_ | refine sw_region ?_
  refine lo (lop_move (E rfl)) rfl ?_
  refine lo (lop_move (E rfl)) rfl ?_
  refine cw [(r23, .arr 5 1 ((List.replicate 256 x).map encU)), (m, .box 54 [.own q 0 (List.replicate (256 * 1) 0).length, .int .i64 16, .own d 0 ([] : List Int).length]), (q, .arr 5 1 ((List.replicate (256 * 1) 0).map encU)), (d, .arr 3 1 (([] : List Int).map encI))] Try.call19 (mem_setpage ⟨hN1, hN2, hN3⟩ ⟨by (first | assumption | (apply Nq.en; assumption) | omega | (simp only [Nq] at *; omega)), by (first | assumption | (apply Nq.en; assumption) | omega | (simp only [Nq] at *; omega)), by (first | assumption | (apply Nq.en; assumption) | omega | (simp only [Nq] at *; omega))⟩ _ 16 [] (by rw [hl0]; decide) (by decide) List.Pairwise.nil (List.replicate 256 x) hlx 0 (by rw [hl0]; decide)) rfl ?_ ?_ ?_
  · (repeat (first | exact ArgsLe.nil | (apply ArgsLe.cons; rfl; first | exact VLe.refl _ | exact VLe.when rfl | exact VLe.any | exact VLe.empty | exact VLe.of_eq (by simp))))
  · (first | exact no_mem | exact (fun _ h => h) | (apply StLe.mem; (repeat (first | exact StLe.nil | (apply StLe.cons; (repeat (first | exact List.mem_cons_self | apply List.mem_cons_of_mem)); first | rfl | focus (congr 1; done) | focus (simp; done) | (simp; rfl))))))
  rintro _ σ' ⟨e, ⟨he1, he2, he3⟩, rfl, rfl⟩ -
  have hs0 : setPg (List.replicate (256 * 1) 0) 0 (List.replicate 256 x) = List.replicate 256 x := by unfold setPg; simp
  rw [hs0, show touchL [] ((0 : Nat) : Int) = [0] from rfl]
  obtain ⟨b0, hb0⟩ : ∃ b0, b0 = List.replicate 256 x := ⟨_, rfl⟩
  have hlt0 : ∀ z ∈ b0, z < 256 := by rw [hb0]; intro z hz; rw [List.eq_of_mem_replicate hz]; exact hx
  have h255 : b0[255]! = x := by rw [hb0]; simp
  have hp00 : pageL b0 0 = b0 := by rw [hb0]; rfl
  rw [← hb0] at hlx ⊢
  (apply rs_sto; (first | (simp (disch := (first | (simp only [List.mem_cons, List.not_mem_nil, true_or, or_true, or_false]; done) | (focus (simp only [List.mem_cons, List.not_mem_nil, or_false, not_or]; (repeat' (first | apply And.intro | (first | assumption | (apply Nq.en; assumption) | omega | (simp only [Nq] at *; omega)))); done)) | omega)) only [↓put_σ, ↓mk_σ, AV.cells, sset, sdrop_none, sdrop_nil, sdrop_in, sdrop_out, List.nil_append, List.cons_append, List.append_nil, List.map_nil, List.map_cons, List.take_succ_cons, List.take_zero, List.drop_succ_cons, List.drop_zero, take_len', take_map_len, Nat.zero_add, Nat.add_zero, ofCell, ofConst]; rfl) | rfl))
  refine lo (lop_not (E rfl)) rfl ?_
  refine lo (lop_move (E rfl)) rfl ?_
  first | refine ln rfl rfl rfl rfl ?_ | refine lg rfl rfl (lop_move (E rfl)) rfl ?_
  first | refine ln rfl rfl rfl rfl ?_ | refine lg rfl rfl (lop_move (E rfl)) rfl ?_
  refine gy rfl rfl ?_
  refine cw [(m, .box 54 [.own q 0 (b0).length, .int .i64 (16), .own e 0 (([0] : List Int)).length]), (q, .arr 5 1 ((b0).map encU)), (e, .arr 3 1 ((([0] : List Int)).map encI))] Try.call15 (mem_grow ⟨hN1, he1, he2⟩ b0 16 [0] (by omega) (by decide) (List.pairwise_singleton _ _) (by decide) G (by omega)) rfl ?_ ?_ ?_
  · (repeat (first | exact ArgsLe.nil | (apply ArgsLe.cons; rfl; first | exact VLe.refl _ | exact VLe.when rfl | exact VLe.any | exact VLe.empty | exact VLe.of_eq (by simp))))
  · (first | exact no_mem | exact (fun _ h => h) | (apply StLe.mem; (repeat (first | exact StLe.nil | (apply StLe.cons; (repeat (first | exact List.mem_cons_self | apply List.mem_cons_of_mem)); first | rfl | focus (congr 1; done) | focus (simp; done) | (simp; rfl))))))
  rintro _ σ' ⟨q2, e2, ⟨k1, k2, k3⟩, rfl, rfl⟩ hj
  have hj2 := hj
  have hj4 := fresh_rest (hj _ (List.mem_cons_of_mem _ List.mem_cons_self)); simp (disch := (first | (simp only [List.mem_cons, List.not_mem_nil, true_or, or_true, or_false]; done) | (focus (simp only [List.mem_cons, List.not_mem_nil, or_false, not_or]; (repeat' (first | apply And.intro | (first | assumption | (apply Nq.en; assumption) | omega | (simp only [Nq] at *; omega)))); done)) | omega)) only [List.map_cons, List.map_nil, sdrop_none, sdrop_nil, sdrop_in, sdrop_out, fresh_cons, fresh_nil, and_true] at hj4; (repeat (rcases hj4 with ⟨_, hj4⟩))
  have hj5 := fresh_rest (hj2 _ (List.mem_cons_of_mem _ (List.mem_cons_of_mem _ List.mem_cons_self))); simp (disch := (first | (simp only [List.mem_cons, List.not_mem_nil, true_or, or_true, or_false]; done) | (focus (simp only [List.mem_cons, List.not_mem_nil, or_false, not_or]; (repeat' (first | apply And.intro | (first | assumption | (apply Nq.en; assumption) | omega | (simp only [Nq] at *; omega)))); done)) | omega)) only [List.map_cons, List.map_nil, sdrop_none, sdrop_nil, sdrop_in, sdrop_out, fresh_cons, fresh_nil, and_true] at hj5; (repeat (rcases hj5 with ⟨_, hj5⟩))
  have hg1 := growL_len [0] (b0.length / 256) G
  have hg2 := growL_sorted (List.pairwise_singleton (· < ·) (0 : Int)) (b0.length / 256) G
  have hbl : (b0 ++ List.replicate (256 * G) 0).length = 256 + 256 * G := by simp; omega
  have hbb : ∀ z ∈ b0 ++ List.replicate (256 * G) 0, z < 256 := app_lt hlt0 rep_lt
  have hpn : ∀ k, 1 ≤ k → k ≤ G → pageL (b0 ++ List.replicate (256 * G) 0) k = List.replicate 256 0 := fun k h1 h2 => pageL_new (by omega) (by omega) (by omega)
  have hp0 : pageL (b0 ++ List.replicate (256 * G) 0) 0 = b0 := by rw [pageL_app (by omega)]; exact hp00
  have hld : ldN (b0 ++ List.replicate (256 * G) 0) 255 4 = x := by
    have g : ∀ k, 1 ≤ k → k ≤ 3 → (b0 ++ List.replicate (256 * G) 0)[255 + k]! = 0 := fun k h1 h2 => by
      simp only [List.getElem!_eq_getElem?_getD]
      rw [List.getElem?_append_right (by omega), List.getElem?_replicate, if_pos (by omega)]
      rfl
    have g0 : (b0 ++ List.replicate (256 * G) 0)[255]! = x := by
      rw [← h255]
      simp only [List.getElem!_eq_getElem?_getD]
      rw [List.getElem?_append_left (by omega)]
    have g1 := g 1 (by decide) (by decide)
    have g2 := g 2 (by decide) (by decide)
    have g3 := g 3 (by decide) (by decide)
    simp only [ldN, g0, g1, g2, g3]
    omega
  rw [show ((b0.length / 256 : Nat) : Int) = 1 by omega]
  obtain ⟨dl, hdl⟩ : ∃ dl, dl = growL [0] (b0.length / 256) G := ⟨_, rfl⟩
  obtain ⟨b, hb⟩ : ∃ b, b = b0 ++ List.replicate (256 * G) 0 := ⟨_, rfl⟩
  rw [← hdl] at hg1 hg2 ⊢
  rw [← hb] at hbl hbb hpn hp0 hld ⊢
  have hdl3 : dl.length ≤ 10000 := by simp at hg1; omega
  (apply rs_sto; (first | (simp (disch := (first | (simp only [List.mem_cons, List.not_mem_nil, true_or, or_true, or_false]; done) | (focus (simp only [List.mem_cons, List.not_mem_nil, or_false, not_or]; (repeat' (first | apply And.intro | (first | assumption | (apply Nq.en; assumption) | omega | (simp only [Nq] at *; omega)))); done)) | omega)) only [↓put_σ, ↓mk_σ, AV.cells, sset, sdrop_none, sdrop_nil, sdrop_in, sdrop_out, List.nil_append, List.cons_append, List.append_nil, List.map_nil, List.map_cons, List.take_succ_cons, List.take_zero, List.drop_succ_cons, List.drop_zero, take_len', take_map_len, Nat.zero_add, Nat.add_zero, ofCell, ofConst]; rfl) | rfl))
  refine gy rfl rfl ?_; refine lo (lop_neq (by first | exact E rfl | exact W rfl id) (E rfl)) rfl ?_
  first | refine lo (lop_pick_t (E rfl) (E rfl)) rfl ?_ | refine lo (lop_pick_f (E rfl) (by first | exact E rfl | exact W rfl (by simp))) rfl ?_ | refine lo (lop_pick (E rfl) (E rfl) (by first | exact E rfl | exact W rfl (by simp))) rfl ?_
  apply le; (repeat (first | (apply KeepIs.take; rfl) | (apply KeepIs.skip; rfl) | exact KeepIs.nil))
  (repeat (first | refine cs ?_ | refine cb ?_ | refine ck ?_ | refine cx ?_ | refine cr ?_ | refine an ?_ | refine ae ?_ | refine ar ?_ | refine bn ?_ | refine bh ?_ | refine be rfl ?_ | refine br ?_ | refine ct rfl ?_ | refine cf rfl ?_))
  first | refine sw_seq_region ?_ | refine sw_region ?_
  refine lo (lop_assign (E rfl)) rfl ?_
  apply le; (repeat (first | (apply KeepIs.take; rfl) | (apply KeepIs.skip; rfl) | exact KeepIs.nil))
  (repeat (first | refine cs ?_ | refine cb ?_ | refine ck ?_ | refine cx ?_ | refine cr ?_ | refine an ?_ | refine ae ?_ | refine ar ?_ | refine bn ?_ | refine bh ?_ | refine be rfl ?_ | refine br ?_ | refine ct rfl ?_ | refine cf rfl ?_))
  refine lp (β := Nat) (fun k => ⟨[(0, .int .u8 x), (1, .int .i64 G), (4, .bool false), (6, .ptr m 0), (7, .own r23 0 256), (9, .int .i64 k)], [(r23, .arr 5 1 (b0.map encU)), (m, .box 54 [.own q2 0 b.length, .int .i64 16, .own e2 0 dl.length]), (q2, .arr 5 1 (b.map encU)), (e2, .arr 3 1 (dl.map encI))]⟩) (fun k => 1 ≤ k ∧ k ≤ G + 1) (fun k => G + 1 - k) 1 ?_ ⟨by decide, by omega⟩ ?_
  · (refine sgo_st ?_ ?_ <;> (repeat (first | exact FrLe.nil | (apply FrLe.cons; rfl; first | exact VLe.refl _ | exact VLe.any | exact VLe.empty | exact VLe.of_eq (by simp) | exact VLe.of_eq (by congr 1; omega)) | exact StLe.nil | exact StLe.refl _ | (apply StLe.cons; (repeat (first | exact List.mem_cons_self | apply List.mem_cons_of_mem)); first | rfl | focus (congr 1; done) | focus (simp; done) | (simp; rfl)))))
  rintro k ⟨hk1, hk2⟩
  (repeat (first | refine cs ?_ | refine cb ?_ | refine ck ?_ | refine cx ?_ | refine cr ?_ | refine an ?_ | refine ae ?_ | refine ar ?_ | refine bn ?_ | refine bh ?_ | refine be rfl ?_ | refine br ?_ | refine ct rfl ?_ | refine cf rfl ?_))
  first | refine sw_seq_region ?_ | refine sw_region ?_
  refine lo (lop_move (E rfl)) rfl ?_
  refine lo (lop_move (E rfl)) rfl ?_
  refine lo (lop_leq (E rfl) (E rfl)) rfl ?_
  apply le; (repeat (first | (apply KeepIs.take; rfl) | (apply KeepIs.skip; rfl) | exact KeepIs.nil))
  (repeat (first | refine cs ?_ | refine cb ?_ | refine ck ?_ | refine cx ?_ | refine cr ?_ | refine an ?_ | refine ae ?_ | refine ar ?_ | refine bn ?_ | refine bh ?_ | refine be rfl ?_ | refine br ?_ | refine ct rfl ?_ | refine cf rfl ?_))
  refine sw_cond rfl (fun h2 => ?_) (fun h2 => ?_)
  · have hlt : k ≤ G := by simp at h2; omega
    have hpk := hpn k hk1 hlt
    (repeat (first | refine cs ?_ | refine cb ?_ | refine ck ?_ | refine cx ?_ | refine cr ?_ | refine an ?_ | refine ae ?_ | refine ar ?_ | refine bn ?_ | refine bh ?_ | refine be rfl ?_ | refine br ?_ | refine ct rfl ?_ | refine cf rfl ?_))
    refine sw_region_drawn_to ⟨[(0, .int .u8 x), (1, .int .i64 G), (4, .bool false), (6, .ptr m 0), (7, .own r23 0 256), (9, .int .i64 k), (55, .bool false)], [(r23, .arr 5 1 (b0.map encU)), (m, .box 54 [.own q2 0 b.length, .int .i64 16, .own e2 0 dl.length]), (q2, .arr 5 1 (b.map encU)), (e2, .arr 3 1 (dl.map encI))]⟩ [(0, true), (1, true), (7, false), (7, false), (7, false), (7, false), (7, false)] mixed (by kernel_rfl) (by kernel_rfl) ?_ ?_
    · refine dlo rfl (lop_move (E rfl)) rfl ?_
      refine dlo rfl (lop_move (E rfl)) rfl ?_
      refine rd_fork 2 4 [(3, true), (4, false), (5, true), (6, true)] [(5, true), (2, false), (3, true), (6, true)] (by kernel_rfl) rfl rfl ?_ ?_
      · refine hop_call_lent [m, q2, e2] Try.call17 (mem_page b 16 dl (by omega) k (by omega)) (lt_ble rfl) ?_ ?_ ?_
        · (repeat (
             first
              | exact ArgsBor.nil
              | (apply ArgsBor.cons; rfl; (
               first
                | exact Bor.refl _
                | exact Bor.le VLe.any
                | exact Bor.le VLe.empty
                | (apply bown; (repeat (
                  first
                   | exact List.mem_cons_self
                   | apply List.mem_cons_of_mem)); (repeat (
                  first
                   | exact sget_here
                   | (apply sget_next; (
                    first
                     | assumption
                     | (apply Nq.en; assumption)
                     | omega
                     | (simp only [Nq] at *; omega))))); (
                 first
                  | focus (simp; done)
                  | omega
                  | focus (simp; omega)); (
                 first
                  | rfl
                  | focus (simp; done)
                  | focus (exact List.take_of_length_le (by
                   first
                    | (simp; done)
                    | (simp; omega)))))
                | focus (apply bbox; (repeat (
                  first
                   | exact List.mem_cons_self
                   | apply List.mem_cons_of_mem)); (repeat (
                  first
                   | exact sget_here
                   | (apply sget_next; (
                    first
                     | assumption
                     | (apply Nq.en; assumption)
                     | omega
                     | (simp only [Nq] at *; omega))))); rfl; rfl; (repeat (
                  first
                   | exact BorL.nil
                   | (apply BorL.cons; (
                    first
                     | exact Bor.refl _
                     | exact Bor.le VLe.any
                     | exact Bor.le VLe.empty
                     | (apply bown; (repeat (
                       first
                        | exact List.mem_cons_self
                        | apply List.mem_cons_of_mem)); (repeat (
                       first
                        | exact sget_here
                        | (apply sget_next; (
                         first
                          | assumption
                          | (apply Nq.en; assumption)
                          | omega
                          | (simp only [Nq] at *; omega))))); (
                      first
                       | focus (simp; done)
                       | omega); (
                      first
                       | rfl
                       | focus (simp; done)
                       | focus (exact List.take_of_length_le (by
                        first
                         | (simp; done)
                         | (simp; omega)))))
                     | focus (apply Bor.le; apply VLe.of_eq; simp; done))))); done)
                | focus (apply bagg; (repeat (
                  first
                   | exact BorL.nil
                   | (apply BorL.cons; (
                    first
                     | exact Bor.refl _
                     | exact Bor.le VLe.any
                     | exact Bor.le VLe.empty
                     | (apply bown; (repeat (
                       first
                        | exact List.mem_cons_self
                        | apply List.mem_cons_of_mem)); (repeat (
                       first
                        | exact sget_here
                        | (apply sget_next; (
                         first
                          | assumption
                          | (apply Nq.en; assumption)
                          | omega
                          | (simp only [Nq] at *; omega))))); (
                      first
                       | focus (simp; done)
                       | omega); (
                      first
                       | rfl
                       | focus (simp; done)
                       | focus (exact List.take_of_length_le (by
                        first
                         | (simp; done)
                         | (simp; omega)))))
                     | focus (apply Bor.le; apply VLe.of_eq; simp; done))))); done)
                | focus (apply Bor.le; apply VLe.of_eq; simp; done)))))
        · rintro x σ' ⟨r, rfl, rfl⟩
          refine ⟨NoF.own, ?_⟩
          simp only [List.mem_singleton, forall_eq]
          exact bytes_noF
        rintro _ σ' ⟨pg, rfl, rfl⟩ hpg
        rw [hpk]
        simp only [List.mem_cons, List.mem_singleton, List.not_mem_nil, or_false, forall_eq_or_imp, forall_eq, fresh_cons, fresh_nil, and_true, and_assoc] at hpg; (repeat (rcases hpg with ⟨_, hpg⟩))
        (apply rd_sto; (first | (simp (disch := (first | (simp only [List.mem_cons, List.not_mem_nil, true_or, or_true, or_false]; done) | (focus (simp only [List.mem_cons, List.not_mem_nil, or_false, not_or]; (repeat' (first | apply And.intro | (first | assumption | (apply Nq.en; assumption) | omega | (simp only [Nq] at *; omega)))); done)) | omega)) only [↓put_σ, ↓mk_σ, AV.cells, sset, sdrop_none, sdrop_nil, sdrop_in, sdrop_out, List.nil_append, List.cons_append, List.append_nil, List.map_nil, List.map_cons, List.take_succ_cons, List.take_zero, List.drop_succ_cons, List.drop_zero, take_len', take_map_len, Nat.zero_add, Nat.add_zero, ofCell, ofConst]; rfl) | rfl))
        refine dlo rfl (lop_bytes_own (e := 5) (bs := List.replicate 256 0) (E rfl) (by repeat (first | exact sget_here | refine sget_next (by (first | assumption | (apply Nq.en; assumption) | omega | (simp only [Nq] at *; omega))) ?_)) (by simp) (bs' := List.replicate 256 0) (by simp)) rfl ?_
        refine rd_new rfl (hop_make (l := 256) rfl rfl rfl rfl (by decide) (by simp [maxLen]) (lt_ble rfl) fun r53 h53 => ?_)
        rw [show List.replicate 256 (List.map ofConst (Value.int .u8 0).cells.toList) = (List.replicate 256 0).map encU by rw [List.map_replicate]; rfl]
        simp only [fresh_cons, fresh_nil, and_true] at h53; (repeat (rcases h53 with ⟨_, h53⟩))
        refine dlo rfl (lop_bytes_own (e := 5) (bs := List.replicate 256 0) (E rfl) (by repeat (first | exact sget_here | refine sget_next (by (first | assumption | (apply Nq.en; assumption) | omega | (simp only [Nq] at *; omega))) ?_)) (by simp) (bs' := List.replicate 256 0) (by simp)) rfl ?_
        refine dlo rfl (lop_sneq (E rfl) (E rfl)) rfl ?_
        rw [show (!((strU (List.replicate 256 0)).toList == (strU (List.replicate 256 0)).toList)) = false by simp]
        apply de; (repeat (first | (apply KeepIs.take; rfl) | (apply KeepIs.skip; rfl) | exact KeepIs.nil))
        (refine sgo_st ?_ ?_ <;> (repeat (first | exact FrLe.nil | (apply FrLe.cons; rfl; first | exact VLe.refl _ | exact VLe.any | exact VLe.empty | exact VLe.of_eq (by simp) | exact VLe.of_eq (by congr 1; omega)) | exact StLe.nil | exact StLe.refl _ | (apply StLe.cons; (repeat (first | exact List.mem_cons_self | apply List.mem_cons_of_mem)); first | rfl | focus (congr 1; done) | focus (simp; done) | (simp; rfl)))))
      · refine hop_make (l := 256) rfl rfl rfl rfl (by decide) (by simp [maxLen]) (lt_ble rfl) fun r53 h53 => ?_
        rw [show List.replicate 256 (List.map ofConst (Value.int .u8 0).cells.toList) = (List.replicate 256 0).map encU by rw [List.map_replicate]; rfl]
        simp only [fresh_cons, fresh_nil, and_true] at h53; (repeat (rcases h53 with ⟨_, h53⟩))
        refine dlo rfl (lop_bytes_own (e := 5) (bs := List.replicate 256 0) (E rfl) (by repeat (first | exact sget_here | refine sget_next (by (first | assumption | (apply Nq.en; assumption) | omega | (simp only [Nq] at *; omega))) ?_)) (by simp) (bs' := List.replicate 256 0) (by simp)) rfl ?_
        refine dcl [m, q2, e2] rfl Try.call17 (mem_page b 16 dl (by omega) k (by omega)) rfl ?_ ?_ ?_
        · (repeat (
             first
              | exact ArgsBor.nil
              | (apply ArgsBor.cons; rfl; (
               first
                | exact Bor.refl _
                | exact Bor.le VLe.any
                | exact Bor.le VLe.empty
                | (apply bown; (repeat (
                  first
                   | exact List.mem_cons_self
                   | apply List.mem_cons_of_mem)); (repeat (
                  first
                   | exact sget_here
                   | (apply sget_next; (
                    first
                     | assumption
                     | (apply Nq.en; assumption)
                     | omega
                     | (simp only [Nq] at *; omega))))); (
                 first
                  | focus (simp; done)
                  | omega
                  | focus (simp; omega)); (
                 first
                  | rfl
                  | focus (simp; done)
                  | focus (exact List.take_of_length_le (by
                   first
                    | (simp; done)
                    | (simp; omega)))))
                | focus (apply bbox; (repeat (
                  first
                   | exact List.mem_cons_self
                   | apply List.mem_cons_of_mem)); (repeat (
                  first
                   | exact sget_here
                   | (apply sget_next; (
                    first
                     | assumption
                     | (apply Nq.en; assumption)
                     | omega
                     | (simp only [Nq] at *; omega))))); rfl; rfl; (repeat (
                  first
                   | exact BorL.nil
                   | (apply BorL.cons; (
                    first
                     | exact Bor.refl _
                     | exact Bor.le VLe.any
                     | exact Bor.le VLe.empty
                     | (apply bown; (repeat (
                       first
                        | exact List.mem_cons_self
                        | apply List.mem_cons_of_mem)); (repeat (
                       first
                        | exact sget_here
                        | (apply sget_next; (
                         first
                          | assumption
                          | (apply Nq.en; assumption)
                          | omega
                          | (simp only [Nq] at *; omega))))); (
                      first
                       | focus (simp; done)
                       | omega); (
                      first
                       | rfl
                       | focus (simp; done)
                       | focus (exact List.take_of_length_le (by
                        first
                         | (simp; done)
                         | (simp; omega)))))
                     | focus (apply Bor.le; apply VLe.of_eq; simp; done))))); done)
                | focus (apply bagg; (repeat (
                  first
                   | exact BorL.nil
                   | (apply BorL.cons; (
                    first
                     | exact Bor.refl _
                     | exact Bor.le VLe.any
                     | exact Bor.le VLe.empty
                     | (apply bown; (repeat (
                       first
                        | exact List.mem_cons_self
                        | apply List.mem_cons_of_mem)); (repeat (
                       first
                        | exact sget_here
                        | (apply sget_next; (
                         first
                          | assumption
                          | (apply Nq.en; assumption)
                          | omega
                          | (simp only [Nq] at *; omega))))); (
                      first
                       | focus (simp; done)
                       | omega); (
                      first
                       | rfl
                       | focus (simp; done)
                       | focus (exact List.take_of_length_le (by
                        first
                         | (simp; done)
                         | (simp; omega)))))
                     | focus (apply Bor.le; apply VLe.of_eq; simp; done))))); done)
                | focus (apply Bor.le; apply VLe.of_eq; simp; done)))))
        · rintro x σ' ⟨r, rfl, rfl⟩
          refine ⟨NoF.own, ?_⟩
          simp only [List.mem_singleton, forall_eq]
          exact bytes_noF
        rintro _ σ' ⟨pg, rfl, rfl⟩ hpg
        rw [hpk]
        simp only [List.mem_cons, List.mem_singleton, List.not_mem_nil, or_false, forall_eq_or_imp, forall_eq, fresh_cons, fresh_nil, and_true, and_assoc] at hpg; (repeat (rcases hpg with ⟨_, hpg⟩))
        (apply rd_sto; (first | (simp (disch := (first | (simp only [List.mem_cons, List.not_mem_nil, true_or, or_true, or_false]; done) | (focus (simp only [List.mem_cons, List.not_mem_nil, or_false, not_or]; (repeat' (first | apply And.intro | (first | assumption | (apply Nq.en; assumption) | omega | (simp only [Nq] at *; omega)))); done)) | omega)) only [↓put_σ, ↓mk_σ, AV.cells, sset, sdrop_none, sdrop_nil, sdrop_in, sdrop_out, List.nil_append, List.cons_append, List.append_nil, List.map_nil, List.map_cons, List.take_succ_cons, List.take_zero, List.drop_succ_cons, List.drop_zero, take_len', take_map_len, Nat.zero_add, Nat.add_zero, ofCell, ofConst]; rfl) | rfl))
        refine dlo rfl (lop_bytes_own (e := 5) (bs := List.replicate 256 0) (E rfl) (by repeat (first | exact sget_here | refine sget_next (by (first | assumption | (apply Nq.en; assumption) | omega | (simp only [Nq] at *; omega))) ?_)) (by simp) (bs' := List.replicate 256 0) (by simp)) rfl ?_
        refine dlo rfl (lop_sneq (E rfl) (E rfl)) rfl ?_
        rw [show (!((strU (List.replicate 256 0)).toList == (strU (List.replicate 256 0)).toList)) = false by simp]
        apply de; (repeat (first | (apply KeepIs.take; rfl) | (apply KeepIs.skip; rfl) | exact KeepIs.nil))
        (refine sgo_st ?_ ?_ <;> (repeat (first | exact FrLe.nil | (apply FrLe.cons; rfl; first | exact VLe.refl _ | exact VLe.any | exact VLe.empty | exact VLe.of_eq (by simp) | exact VLe.of_eq (by congr 1; omega)) | exact StLe.nil | exact StLe.refl _ | (apply StLe.cons; (repeat (first | exact List.mem_cons_self | apply List.mem_cons_of_mem)); first | rfl | focus (congr 1; done) | focus (simp; done) | (simp; rfl)))))
    (repeat (first | refine cs ?_ | refine cb ?_ | refine ck ?_ | refine cx ?_ | refine cr ?_ | refine an ?_ | refine ae ?_ | refine ar ?_ | refine bn ?_ | refine bh ?_ | refine be rfl ?_ | refine br ?_ | refine ct rfl ?_ | refine cf rfl ?_))
    first | refine sw_seq_region ?_ | refine sw_region ?_
    refine lo (lop_move (E rfl)) rfl ?_
    first | refine lo (lop_add64 (E rfl) (E rfl) (by omega) (by omega)) rfl ?_ | refine lo (lop_add (E rfl) (E rfl)) rfl ?_
    refine lo (lop_assign (E rfl)) rfl ?_
    apply le; (repeat (first | (apply KeepIs.take; rfl) | (apply KeepIs.skip; rfl) | exact KeepIs.nil))
    (repeat (first | refine cs ?_ | refine cb ?_ | refine ck ?_ | refine cx ?_ | refine cr ?_ | refine an ?_ | refine ae ?_ | refine ar ?_ | refine bn ?_ | refine bh ?_ | refine be rfl ?_ | refine br ?_ | refine ct rfl ?_ | refine cf rfl ?_))
    refine ⟨k + 1, ⟨by omega, by omega⟩, by show G + 1 - (k + 1) < G + 1 - k; omega, ?_⟩
    (refine sgo_st ?_ ?_ <;> (repeat (first | exact FrLe.nil | (apply FrLe.cons; rfl; first | exact VLe.refl _ | exact VLe.any | exact VLe.empty | exact VLe.of_eq (by simp) | exact VLe.of_eq (by congr 1; omega)) | exact StLe.nil | exact StLe.refl _ | (apply StLe.cons; (repeat (first | exact List.mem_cons_self | apply List.mem_cons_of_mem)); first | rfl | focus (congr 1; done) | focus (simp; done) | (simp; rfl)))))
  (repeat (first | refine cs ?_ | refine cb ?_ | refine ck ?_ | refine cx ?_ | refine cr ?_ | refine an ?_ | refine ae ?_ | refine ar ?_ | refine bn ?_ | refine bh ?_ | refine be rfl ?_ | refine br ?_ | refine ct rfl ?_ | refine cf rfl ?_))
  first | refine sw_seq_region ?_ | refine sw_region ?_
  refine lo (lop_move (E rfl)) rfl ?_
  refine pu [m, q2, e2] Try.call14 (mem_load_yes b 16 dl (by omega) hbb 255 4 (has_of (by decide) (by omega))) rfl ?_ (by repeat (first | exact NoF.int | exact NoF.bool | exact NoF.nilp | exact NoF.nil | exact NoF.own | exact NoF.ptr | exact NoF.str | exact nofl_nil | apply NoF.tup | apply NoF.agg | apply nofl_cons)) ?_
  · (repeat (
       first
        | exact ArgsIf.nil
        | (apply ArgsIf.cons; (
         first
          | exact W rfl id
          | exact W rfl (fun _ => rfl)
          | exact E rfl); (
         first
          | exact Bor.refl _
          | exact Bor.le VLe.any
          | exact Bor.le VLe.empty
          | (apply bown; (repeat (
            first
             | exact List.mem_cons_self
             | apply List.mem_cons_of_mem)); (repeat (
            first
             | exact sget_here
             | (apply sget_next; (
              first
               | assumption
               | (apply Nq.en; assumption)
               | omega
               | (simp only [Nq] at *; omega))))); (
           first
            | focus (simp; done)
            | omega
            | focus (simp; omega)); (
           first
            | rfl
            | focus (simp; done)
            | focus (exact List.take_of_length_le (by
             first
              | (simp; done)
              | (simp; omega)))))
          | focus (apply bbox; (repeat (
            first
             | exact List.mem_cons_self
             | apply List.mem_cons_of_mem)); (repeat (
            first
             | exact sget_here
             | (apply sget_next; (
              first
               | assumption
               | (apply Nq.en; assumption)
               | omega
               | (simp only [Nq] at *; omega))))); rfl; rfl; (repeat (
            first
             | exact BorL.nil
             | (apply BorL.cons; (
              first
               | exact Bor.refl _
               | exact Bor.le VLe.any
               | exact Bor.le VLe.empty
               | (apply bown; (repeat (
                 first
                  | exact List.mem_cons_self
                  | apply List.mem_cons_of_mem)); (repeat (
                 first
                  | exact sget_here
                  | (apply sget_next; (
                   first
                    | assumption
                    | (apply Nq.en; assumption)
                    | omega
                    | (simp only [Nq] at *; omega))))); (
                first
                 | focus (simp; done)
                 | omega); (
                first
                 | rfl
                 | focus (simp; done)
                 | focus (exact List.take_of_length_le (by
                  first
                   | (simp; done)
                   | (simp; omega)))))
               | focus (apply Bor.le; apply VLe.of_eq; simp; done))))); done)
          | focus (apply bagg; (repeat (
            first
             | exact BorL.nil
             | (apply BorL.cons; (
              first
               | exact Bor.refl _
               | exact Bor.le VLe.any
               | exact Bor.le VLe.empty
               | (apply bown; (repeat (
                 first
                  | exact List.mem_cons_self
                  | apply List.mem_cons_of_mem)); (repeat (
                 first
                  | exact sget_here
                  | (apply sget_next; (
                   first
                    | assumption
                    | (apply Nq.en; assumption)
                    | omega
                    | (simp only [Nq] at *; omega))))); (
                first
                 | focus (simp; done)
                 | omega); (
                first
                 | rfl
                 | focus (simp; done)
                 | focus (exact List.take_of_length_le (by
                  first
                   | (simp; done)
                   | (simp; omega)))))
               | focus (apply Bor.le; apply VLe.of_eq; simp; done))))); done)
          | focus (apply Bor.le; apply VLe.of_eq; simp; done)))))
  rw [hld]
  refine lo (lop_move (E rfl)) rfl ?_
  refine lo (lop_extract (E rfl) rfl) rfl ?_
  refine lo (lop_extract (E rfl) rfl) rfl ?_
  refine lo (lop_assign (E rfl)) rfl ?_
  refine lo (lop_assign (E rfl)) rfl ?_
  apply le; (repeat (first | (apply KeepIs.take; rfl) | (apply KeepIs.skip; rfl) | exact KeepIs.nil))
  (repeat (first | refine cs ?_ | refine cb ?_ | refine ck ?_ | refine cx ?_ | refine cr ?_ | refine an ?_ | refine ae ?_ | refine ar ?_ | refine bn ?_ | refine bh ?_ | refine be rfl ?_ | refine br ?_ | refine ct rfl ?_ | refine cf rfl ?_))
  first | refine sw_seq_drawn [(0, true), (1, true), (2, true), (3, true), (4, true), (5, true), (6, true), (7, true), (8, true), (11, true), (12, true), (9, false), (10, true), (13, true), (14, true), (15, true)] mixed (by kernel_rfl) (by kernel_rfl) ?_ | refine sw_region_drawn [(0, true), (1, true), (2, true), (3, true), (4, true), (5, true), (6, true), (7, true), (8, true), (11, true), (12, true), (9, false), (10, true), (13, true), (14, true), (15, true)] mixed (by kernel_rfl) (by kernel_rfl) ?_
  refine dlo rfl (lop_move (E rfl)) rfl ?_
  refine dlo rfl (lop_move (E rfl)) rfl ?_
  first | refine dln rfl rfl rfl rfl rfl ?_ | refine dlg rfl rfl rfl (lop_move (E rfl)) rfl ?_
  first | refine dln rfl rfl rfl rfl rfl ?_ | refine dlg rfl rfl rfl (lop_move (E rfl)) rfl ?_
  first | refine dln rfl rfl rfl rfl rfl ?_ | refine dlg rfl rfl rfl (lop_conv_in (W rfl id) (wrap_u64_of (by omega) (by omega))) rfl ?_ | refine dlg rfl rfl rfl (lop_conv (W rfl id)) rfl ?_
  first | refine dln rfl rfl rfl rfl rfl ?_ | refine dlg rfl rfl rfl (lop_eql (W rfl id) (W rfl id)) rfl ?_
  first | refine dlo rfl (lop_pick_t (E rfl) (W rfl (by simp))) rfl ?_ | refine dlo rfl (lop_pick_f (E rfl) (E rfl)) rfl ?_ | refine dlo rfl (lop_pick (E rfl) (W rfl (by simp)) (E rfl)) rfl ?_
  refine dlo rfl (lop_move (E rfl)) rfl ?_
  rw [show (((x : Nat) : Int) == ((x : Nat) : Int)) = true by simp]
  refine dly rfl rfl rfl (lop_move (E rfl)) rfl ?_
  refine dly rfl rfl rfl (lop_move (E rfl)) rfl ?_
  refine dly rfl rfl rfl (lop_bytes_own (e := 5) (bs := b0) (bs' := b0) (E rfl) (by repeat (first | exact sget_here | refine sget_next (by (first | assumption | (apply Nq.en; assumption) | omega | (simp only [Nq] at *; omega))) ?_)) (by omega) (by rw [List.drop_zero]; exact List.take_of_length_le (by omega))) rfl ?_
  refine rd_heavy_yes rfl rfl rfl (hop_call_lent [m, q2, e2] Try.call17 (mem_page b 16 dl (by omega) 0 (by omega)) (lt_ble rfl) ?_ ?_ ?_) (.inl rfl)
  · (repeat (
       first
        | exact ArgsBor.nil
        | (apply ArgsBor.cons; rfl; (
         first
          | exact Bor.refl _
          | exact Bor.le VLe.any
          | exact Bor.le VLe.empty
          | (apply bown; (repeat (
            first
             | exact List.mem_cons_self
             | apply List.mem_cons_of_mem)); (repeat (
            first
             | exact sget_here
             | (apply sget_next; (
              first
               | assumption
               | (apply Nq.en; assumption)
               | omega
               | (simp only [Nq] at *; omega))))); (
           first
            | focus (simp; done)
            | omega
            | focus (simp; omega)); (
           first
            | rfl
            | focus (simp; done)
            | focus (exact List.take_of_length_le (by
             first
              | (simp; done)
              | (simp; omega)))))
          | focus (apply bbox; (repeat (
            first
             | exact List.mem_cons_self
             | apply List.mem_cons_of_mem)); (repeat (
            first
             | exact sget_here
             | (apply sget_next; (
              first
               | assumption
               | (apply Nq.en; assumption)
               | omega
               | (simp only [Nq] at *; omega))))); rfl; rfl; (repeat (
            first
             | exact BorL.nil
             | (apply BorL.cons; (
              first
               | exact Bor.refl _
               | exact Bor.le VLe.any
               | exact Bor.le VLe.empty
               | (apply bown; (repeat (
                 first
                  | exact List.mem_cons_self
                  | apply List.mem_cons_of_mem)); (repeat (
                 first
                  | exact sget_here
                  | (apply sget_next; (
                   first
                    | assumption
                    | (apply Nq.en; assumption)
                    | omega
                    | (simp only [Nq] at *; omega))))); (
                first
                 | focus (simp; done)
                 | omega); (
                first
                 | rfl
                 | focus (simp; done)
                 | focus (exact List.take_of_length_le (by
                  first
                   | (simp; done)
                   | (simp; omega)))))
               | focus (apply Bor.le; apply VLe.of_eq; simp; done))))); done)
          | focus (apply bagg; (repeat (
            first
             | exact BorL.nil
             | (apply BorL.cons; (
              first
               | exact Bor.refl _
               | exact Bor.le VLe.any
               | exact Bor.le VLe.empty
               | (apply bown; (repeat (
                 first
                  | exact List.mem_cons_self
                  | apply List.mem_cons_of_mem)); (repeat (
                 first
                  | exact sget_here
                  | (apply sget_next; (
                   first
                    | assumption
                    | (apply Nq.en; assumption)
                    | omega
                    | (simp only [Nq] at *; omega))))); (
                first
                 | focus (simp; done)
                 | omega); (
                first
                 | rfl
                 | focus (simp; done)
                 | focus (exact List.take_of_length_le (by
                  first
                   | (simp; done)
                   | (simp; omega)))))
               | focus (apply Bor.le; apply VLe.of_eq; simp; done))))); done)
          | focus (apply Bor.le; apply VLe.of_eq; simp; done)))))
  · rintro x σ' ⟨r, rfl, rfl⟩
    refine ⟨NoF.own, ?_⟩
    simp only [List.mem_singleton, forall_eq]
    exact bytes_noF
  rintro _ σ' ⟨pg, rfl, rfl⟩ hpg
  rw [hp0]
  simp only [List.mem_cons, List.mem_singleton, List.not_mem_nil, or_false, forall_eq_or_imp, forall_eq, fresh_cons, fresh_nil, and_true, and_assoc] at hpg; (repeat (rcases hpg with ⟨_, hpg⟩))
  (apply rd_sto; (first | (simp (disch := (first | (simp only [List.mem_cons, List.not_mem_nil, true_or, or_true, or_false]; done) | (focus (simp only [List.mem_cons, List.not_mem_nil, or_false, not_or]; (repeat' (first | apply And.intro | (first | assumption | (apply Nq.en; assumption) | omega | (simp only [Nq] at *; omega)))); done)) | omega)) only [↓put_σ, ↓mk_σ, AV.cells, sset, sdrop_none, sdrop_nil, sdrop_in, sdrop_out, List.nil_append, List.cons_append, List.append_nil, List.map_nil, List.map_cons, List.take_succ_cons, List.take_zero, List.drop_succ_cons, List.drop_zero, take_len', take_map_len, Nat.zero_add, Nat.add_zero, ofCell, ofConst]; rfl) | rfl))
  refine dly rfl rfl rfl (lop_bytes_own (e := 5) (bs := b0) (bs' := b0) (E rfl) (by repeat (first | exact sget_here | refine sget_next (by (first | assumption | (apply Nq.en; assumption) | omega | (simp only [Nq] at *; omega))) ?_)) (by omega) (by rw [List.drop_zero]; exact List.take_of_length_le (by omega))) rfl ?_
  refine dly rfl rfl rfl (lop_seql (E rfl) (E rfl)) rfl ?_
  rw [show ((strU b0).toList == (strU b0).toList) = true by simp]
  refine dlo rfl (lop_pick_t (E rfl) (E rfl)) rfl ?_
  refine dlo rfl (lop_assign (E rfl)) rfl ?_
  apply de; (repeat (first | (apply KeepIs.take; rfl) | (apply KeepIs.skip; rfl) | exact KeepIs.nil))
  (repeat (first | refine cs ?_ | refine cb ?_ | refine ck ?_ | refine cx ?_ | refine cr ?_ | refine an ?_ | refine ae ?_ | refine ar ?_ | refine bn ?_ | refine bh ?_ | refine be rfl ?_ | refine br ?_ | refine ct rfl ?_ | refine cf rfl ?_))
  (apply aend; (repeat (first | exact ResL.nil | (apply ResL.tmp; rfl) | (apply ResL.cell; rfl; infer_instance; rfl; (repeat (first | exact sget_here | (apply sget_next; (first | assumption | (apply Nq.en; assumption) | omega | (simp only [Nq] at *; omega))))); rfl) | (apply ResL.cells; rfl; infer_instance; infer_instance; rfl; (repeat (first | exact sget_here | (apply sget_next; (first | assumption | (apply Nq.en; assumption) | omega | (simp only [Nq] at *; omega))))); exact Nat.le_of_ble_eq_true rfl))))
  · rfl
  · exact no_mem
end Go.Proofs.Ytemehfolglcleaa
